/-
  The law package's much and inside: are gauges or readings too many; are spans inside others. Conditions: how the lists lie in memory.
-/
import Derived.Test.YtcgnpndfhhcplaaShr
import Derived.Test.YtcgnpndfhhcplaaPossible
namespace Go.Proofs.Ytcgnpndfhhcplaa
open Go.RowKit W7
def muchB (q : Quantity) (l : List Reading) : Bool := decide (100 < q.name.size) || (decide (6 < q.gs.length) && decide (q.gs.length ≤ 8)) || decide (20 < q.gs.length) || (decide (12 < l.length) && decide (l.length ≤ 64)) || decide (80 < l.length)
set_option maxHeartbeats 1000000 in
theorem much_any (q : Quantity) (l : List Reading) (A : Option Addr) (c : Nat) (w : World) (hq : q.name.size ≤ 9223372036854775807) (hg : q.gs.length ≤ 9223372036854775807) (hl : l.length ≤ 9223372036854775807) :
    Calls Try.prog 9 #[.agg #[.string q.name, .int .i64 q.lo, .int .i64 q.hi, .int .i64 q.rise, .int .i64 q.fall, .int .i64 q.bad, .slice q.gA q.gs.length q.gc], .slice A l.length c] w fun e w' => e = .returned (.bool (muchB q l)) ∧ Below w.heap.size w w' := by
  cases h0 : decide (100 < (q.name.size : Int))
  · skip
    cases h2 : decide (6 < (q.gs.length : Int))
    · skip
      have hx20 : decide (20 < (q.gs.length : Int)) = false := by simp at *; omega
      cases h5 : decide (12 < (l.length : Int))
      · skip
        have hx80 : decide (80 < (l.length : Int)) = false := by simp at *; omega
        have HM := Lib.hid (show muchB q l = false from by simp at *; simp [muchB]; omega)
        go_enter Try.func9, Try.ntmps9
        go_wp2
        go_ret
        exact ⟨ret_bool HM.out.symm, (by (repeat (refine Below.alloc ?_ (by first | exact Nat.le_refl _ | omega | (simp; done) | (simp; omega)) _)); exact Below.refl _ _)⟩
      · skip
        cases h14 : decide ((l.length : Int) ≤ 64)
        · skip
          cases h16 : decide (80 < (l.length : Int))
          · skip
            have HM := Lib.hid (show muchB q l = false from by simp at *; simp [muchB]; omega)
            go_enter Try.func9, Try.ntmps9
            go_wp2
            go_ret
            exact ⟨ret_bool HM.out.symm, (by (repeat (refine Below.alloc ?_ (by first | exact Nat.le_refl _ | omega | (simp; done) | (simp; omega)) _)); exact Below.refl _ _)⟩
          · skip
            have HM := Lib.hid (show muchB q l = true from by simp at *; simp [muchB]; omega)
            go_enter Try.func9, Try.ntmps9
            go_wp2
            go_ret
            exact ⟨ret_bool HM.out.symm, (by (repeat (refine Below.alloc ?_ (by first | exact Nat.le_refl _ | omega | (simp; done) | (simp; omega)) _)); exact Below.refl _ _)⟩
        · skip
          have HM := Lib.hid (show muchB q l = true from by simp at *; simp [muchB]; omega)
          go_enter Try.func9, Try.ntmps9
          go_wp2
          go_ret
          exact ⟨ret_bool HM.out.symm, (by (repeat (refine Below.alloc ?_ (by first | exact Nat.le_refl _ | omega | (simp; done) | (simp; omega)) _)); exact Below.refl _ _)⟩
    · skip
      cases h36 : decide ((q.gs.length : Int) ≤ 8)
      · skip
        cases h38 : decide (20 < (q.gs.length : Int))
        · skip
          cases h40 : decide (12 < (l.length : Int))
          · skip
            have hx80 : decide (80 < (l.length : Int)) = false := by simp at *; omega
            have HM := Lib.hid (show muchB q l = false from by simp at *; simp [muchB]; omega)
            go_enter Try.func9, Try.ntmps9
            go_wp2
            go_ret
            exact ⟨ret_bool HM.out.symm, (by (repeat (refine Below.alloc ?_ (by first | exact Nat.le_refl _ | omega | (simp; done) | (simp; omega)) _)); exact Below.refl _ _)⟩
          · skip
            cases h49 : decide ((l.length : Int) ≤ 64)
            · skip
              cases h51 : decide (80 < (l.length : Int))
              · skip
                have HM := Lib.hid (show muchB q l = false from by simp at *; simp [muchB]; omega)
                go_enter Try.func9, Try.ntmps9
                go_wp2
                go_ret
                exact ⟨ret_bool HM.out.symm, (by (repeat (refine Below.alloc ?_ (by first | exact Nat.le_refl _ | omega | (simp; done) | (simp; omega)) _)); exact Below.refl _ _)⟩
              · skip
                have HM := Lib.hid (show muchB q l = true from by simp at *; simp [muchB]; omega)
                go_enter Try.func9, Try.ntmps9
                go_wp2
                go_ret
                exact ⟨ret_bool HM.out.symm, (by (repeat (refine Below.alloc ?_ (by first | exact Nat.le_refl _ | omega | (simp; done) | (simp; omega)) _)); exact Below.refl _ _)⟩
            · skip
              have HM := Lib.hid (show muchB q l = true from by simp at *; simp [muchB]; omega)
              go_enter Try.func9, Try.ntmps9
              go_wp2
              go_ret
              exact ⟨ret_bool HM.out.symm, (by (repeat (refine Below.alloc ?_ (by first | exact Nat.le_refl _ | omega | (simp; done) | (simp; omega)) _)); exact Below.refl _ _)⟩
        · skip
          have HM := Lib.hid (show muchB q l = true from by simp at *; simp [muchB]; omega)
          go_enter Try.func9, Try.ntmps9
          go_wp2
          go_ret
          exact ⟨ret_bool HM.out.symm, (by (repeat (refine Below.alloc ?_ (by first | exact Nat.le_refl _ | omega | (simp; done) | (simp; omega)) _)); exact Below.refl _ _)⟩
      · skip
        have HM := Lib.hid (show muchB q l = true from by simp at *; simp [muchB]; omega)
        go_enter Try.func9, Try.ntmps9
        go_wp2
        go_ret
        exact ⟨ret_bool HM.out.symm, (by (repeat (refine Below.alloc ?_ (by first | exact Nat.le_refl _ | omega | (simp; done) | (simp; omega)) _)); exact Below.refl _ _)⟩
  · skip
    have HM := Lib.hid (show muchB q l = true from by simp at *; simp [muchB]; omega)
    go_enter Try.func9, Try.ntmps9
    go_wp2
    go_ret
    exact ⟨ret_bool HM.out.symm, (by (repeat (refine Below.alloc ?_ (by first | exact Nat.le_refl _ | omega | (simp; done) | (simp; omega)) _)); exact Below.refl _ _)⟩
theorem any_takeS {α : Type} (P : α → Bool) (b : List α) (k : Nat) (hk : k < b.length) : (b.take (k + 1)).any P = ((b.take k).any P || P b[k]) := by
  rw [List.take_succ_eq_append_getElem hk, List.any_append]; simp
theorem all_takeS {α : Type} (P : α → Bool) (b : List α) (k : Nat) (hk : k < b.length) : (b.take (k + 1)).all P = ((b.take k).all P && P b[k]) := by
  rw [List.take_succ_eq_append_getElem hk, List.all_append]; simp
set_option maxHeartbeats 1000000 in
theorem inside_any (a b : List Span) (A A' : Option Addr) (ca cb B : Nat) (w : World) (ha : Sl w B 2 encSp A a) (hb : Sl w B 2 encSp A' b) (hB : B ≤ w.heap.size) (hal : a.length ≤ 1000000) (hbl : b.length ≤ 1000000) :
    Calls Try.prog 19 #[.slice A a.length ca, .slice A' b.length cb] w fun e w' => e = .returned (.bool (insideB a b)) ∧ Below w.heap.size w w' := by
  have HA := Lib.hid ha
  have HB := Lib.hid hb
  clear ha hb
  go_enter Try.func19, Try.ntmps19
  go_wp2
  go_loopw [5] (fun v wr => ∃ i : Nat, i ≤ a.length ∧ v = .int .i64 i ∧ Hid ((a.take i).all (fun s => b.any fun u => decide (u.lo ≤ s.lo) && decide (s.hi ≤ u.hi)) = true) ∧ Hid (Below w.heap.size w wr)) (fun v _ => a.length - (intOf v).toNat)
  case atStart => exact ⟨0, by omega, rfl, Lib.hid (by simp), Lib.hid (Below.refl _ _)⟩
  case round =>
    obtain ⟨i, hi, rfl, Hall, Hb⟩ := hrel
    have hsz := Hb.out.size
    by_cases hlt : i < a.length
    · obtain ⟨ba, oa, rfl, hbaB, hac⟩ := HA.out (by omega)
      have hbaw : ba < w.heap.size := by omega
      have a0 := (Hb.out.cell (p := ⟨ba, oa + i * 2 + 0, none⟩) hbaw).trans (hac i hlt 0 _ rfl)
      have a1 := (Hb.out.cell (p := ⟨ba, oa + i * 2 + 1, none⟩) hbaw).trans (hac i hlt 1 _ rfl)
      simp only [Nat.add_zero] at a0
      obtain ⟨s, hs⟩ : ∃ s, s = a[i] := ⟨_, rfl⟩
      rw [← hs] at a0 a1
      have Hs := Lib.hid hs
      clear hs hac
      go_wp2
      go_loopw [6, 7] (fun vin v wr2 => ∃ k : Nat, k ≤ b.length ∧ v = .int .i64 k ∧ vin = .bool ((b.take k).any fun u => decide (u.lo ≤ s.lo) && decide (s.hi ≤ u.hi)) ∧ Hid (Below wr.heap.size wr wr2)) (fun _ v _ => b.length - (intOf v).toNat)
      case atStart => exact ⟨0, by omega, rfl, by simp, Lib.hid (Below.refl _ _)⟩
      case round =>
        obtain ⟨k, hk, rfl, rfl, Hb2⟩ := hrel
        have hsz2 := Hb2.out.size
        by_cases hlt2 : k < b.length
        · obtain ⟨bb, ob, rfl, hbbB, hbc⟩ := HB.out (by omega)
          have hbbw : bb < w.heap.size := by omega
          have hw2 := Hb.out.trans (Hb2.out.mono hsz)
          have b0 := (hw2.cell (p := ⟨bb, ob + k * 2 + 0, none⟩) hbbw).trans (hbc k hlt2 0 _ rfl)
          have b1 := (hw2.cell (p := ⟨bb, ob + k * 2 + 1, none⟩) hbbw).trans (hbc k hlt2 1 _ rfl)
          have a0' := (Hb2.out.cell (p := ⟨ba, oa + i * 2, none⟩) (by simp; omega)).trans a0
          have a1' := (Hb2.out.cell (p := ⟨ba, oa + i * 2 + 1, none⟩) (by simp; omega)).trans a1
          simp only [Nat.add_zero] at b0
          obtain ⟨u, hu⟩ : ∃ u, u = b[k] := ⟨_, rfl⟩
          rw [← hu] at b0 b1
          have HT := Lib.hid (any_takeS (fun u : Span => decide (u.lo ≤ s.lo) && decide (s.hi ≤ u.hi)) b k hlt2)
          rw [← hu] at HT
          clear hu hbc hw2
          cases hin : (b.take k).any fun u => decide (u.lo ≤ s.lo) && decide (s.hi ≤ u.hi)
          · cases h1 : decide (u.lo ≤ s.lo)
            · have HR := Lib.hid (show ((b.take (k + 1)).any fun u => decide (u.lo ≤ s.lo) && decide (s.hi ≤ u.hi)) = false by rw [HT.out, hin, h1]; rfl)
              go_wp2
              go_quiet (fail)
              go_wp2
              go_roundw
              case rel => exact ⟨k + 1, by omega, by go_num, by rw [HR.out], Lib.hid (below_drewN Hb2.out _)⟩
              case measure => simp [intOf]; omega
            · cases h2 : decide (s.hi ≤ u.hi)
              · have HR := Lib.hid (show ((b.take (k + 1)).any fun u => decide (u.lo ≤ s.lo) && decide (s.hi ≤ u.hi)) = false by rw [HT.out, hin, h1, h2]; rfl)
                go_wp2
                go_quiet (fail)
                go_wp2
                go_roundw
                case rel => exact ⟨k + 1, by omega, by go_num, by rw [HR.out], Lib.hid (below_drewN Hb2.out _)⟩
                case measure => simp [intOf]; omega
              · have HR := Lib.hid (show ((b.take (k + 1)).any fun u => decide (u.lo ≤ s.lo) && decide (s.hi ≤ u.hi)) = true by rw [HT.out, hin, h1, h2]; rfl)
                go_wp2
                go_quiet (fail)
                go_wp2
                go_roundw
                case rel => exact ⟨k + 1, by omega, by go_num, by rw [HR.out], Lib.hid (below_drewN Hb2.out _)⟩
                case measure => simp [intOf]; omega
          · have HR := Lib.hid (show ((b.take (k + 1)).any fun u => decide (u.lo ≤ s.lo) && decide (s.hi ≤ u.hi)) = true by rw [HT.out, hin]; rfl)
            go_wp2
            go_quiet (fail)
            go_wp2
            go_roundw
            case rel => exact ⟨k + 1, by omega, by go_num, by rw [HR.out], Lib.hid (below_drewN Hb2.out _)⟩
            case measure => simp [intOf]; omega
        · obtain rfl : k = b.length := by omega
          have HS := Lib.hid (all_takeS (fun s : Span => b.any fun u => decide (u.lo ≤ s.lo) && decide (s.hi ≤ u.hi)) a i hlt)
          rw [← Hs.out] at HS
          have hw2 := Lib.hid (Hb.out.trans (Hb2.out.mono hsz))
          rw [List.take_length]
          cases hin : b.any fun u => decide (u.lo ≤ s.lo) && decide (s.hi ≤ u.hi)
          · have HF := Lib.hid (show insideB a b = false by
              unfold insideB
              rw [List.all_eq_false]
              exact ⟨s, by rw [Hs.out]; exact List.getElem_mem _, by rw [hin]; decide⟩)
            go_wp2
            go_ret
            exact ⟨ret_bool HF.out.symm, hw2.out⟩
          · have HR := Lib.hid (show ((a.take (i + 1)).all fun s => b.any fun u => decide (u.lo ≤ s.lo) && decide (s.hi ≤ u.hi)) = true by rw [HS.out, Hall.out, hin]; rfl)
            go_wp2
            go_roundw
            case rel => exact ⟨i + 1, by omega, by go_num, HR, hw2⟩
            case measure => simp [intOf]; omega
    · obtain rfl : i = a.length := by omega
      have HF := Lib.hid (show insideB a b = true by unfold insideB; rw [← Hall.out, List.take_length])
      go_wp2
      go_ret
      exact ⟨ret_bool HF.out.symm, Hb.out⟩
theorem much_false {q : Quantity} {l : List Reading} (h : muchB q l = false) : l.length ≤ 64 → l.length ≤ 12 := by
  intro h64
  simp only [muchB, Bool.or_eq_false_iff, Bool.and_eq_false_iff, decide_eq_false_iff_not] at h
  omega
theorem possE_zero {q : Quantity} {l : List Reading} {t : Int} : possE q l t = 0 ↔ checkedE q l = 0 ∧ isTm t = true := by
  unfold possE
  constructor
  · intro h
    split at h
    · rename_i h1
      split at h
      · rename_i h2; exact ⟨h1, h2⟩
      · exact absurd h (by decide)
    · rename_i h1; exact absurd h h1
  · rintro ⟨h1, h2⟩; rw [if_pos h1, if_pos h2]
theorem src_later {w w' : World} {k m : Nat} {A : Option Addr} {cs : List Value} (h : Src w k A m cs) (hb : Below w.heap.size w w') : Src w' k A m cs := by
  rcases h with h | ⟨ad, h1, h2, h3⟩
  · exact .inl h
  · exact .inr ⟨ad, h1, h2, fun j u hu => (hb.cell (World.block_lt_of_cell? w _ (h3 j u hu))).trans (h3 j u hu)⟩
theorem own_cap {w : World} {base e size n : Nat} {v : Value} {xs : List Value} (h : w.ownsRow base e size v n xs) : ∃ A c, v = .slice A n c ∧ n ≤ c ∧ c ≤ 9223372036854775807 := by
  rcases h.2 with ⟨rfl, rfl⟩ | ⟨g, cap, cur, rfl, _, _, h1, h2, _⟩
  · exact ⟨_, _, rfl, Nat.le_refl _, by decide⟩
  · exact ⟨_, _, rfl, h1, by unfold maxLen at h2; omega⟩
theorem own_cap2 {w : World} {base e size n c : Nat} {A : Option Addr} {xs : List Value} (h : w.ownsRow base e size (.slice A n c) n xs) : n ≤ c ∧ c ≤ 9223372036854775807 := by
  obtain ⟨A', c', e, h1, h2⟩ := own_cap h
  cases e
  exact ⟨h1, h2⟩
theorem sl_own {α : Type} {enc : α → List Value} {k : Nat} (hk : ∀ x, (enc x).length = k) {w : World} {base e : Nat} {A : Option Addr} {c : Nat} {xs : List α} (h : w.ownsRow base e k (.slice A xs.length c) xs.length (xs.flatMap enc)) : Sl w w.heap.size k enc A xs := fun h0 => by
  obtain ⟨g, cap, e1, hg⟩ := own_form h h0
  cases e1
  refine ⟨g, 0, rfl, (h.lt g rfl).2, fun i hi j v hv => ?_⟩
  have hj : j < k := by
    rcases Nat.lt_or_ge j k with h1 | h1
    · exact h1
    · rw [List.getElem?_eq_none (by rw [hk]; exact h1)] at hv; cases hv
  have h2 : i * k + j < xs.length * k := by
    have : (i + 1) * k ≤ xs.length * k := Nat.mul_le_mul_right _ (by omega)
    rw [Nat.add_mul] at this; omega
  have := (h.cellAt (i * k + j) h2).trans ((flatMap_get hk xs i j hi hj).trans hv)
  simpa using this
end Go.Proofs.Ytcgnpndfhhcplaa
