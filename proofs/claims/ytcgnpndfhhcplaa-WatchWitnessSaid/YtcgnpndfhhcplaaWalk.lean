/-
  The law's histories: within, at, a history's values, the gauges that have failed; the specification's Within and Error. Conditions: bounds.
-/
import Derived.Test.YtcgnpndfhhcplaaHist
import Derived.Test.YtcgnpndfhhcplaaRRead
import Derived.Test.YtcgnpndfhhcplaaInside
namespace Go.Proofs.Ytcgnpndfhhcplaa
open Go.RowKit W7
attribute [local go_sem] Oper.semAt_some
/-- a number from lo to hi that another one picks -/
def withinV (n lo hi : Int) : Int := lo + (n.tmod (hi - lo + 1) + (hi - lo + 1)).tmod (hi - lo + 1)
theorem within_in {n W : Int} (h : 0 < W) : 0 ≤ (n.tmod W + W).tmod W ∧ (n.tmod W + W).tmod W < W ∧ -W < n.tmod W ∧ n.tmod W < W := by
  have h1 := Int.tmod_lt_of_pos n h
  have h2 : -W < n.tmod W := Int.lt_tmod_of_pos n h
  have h4 : 0 ≤ (n.tmod W + W).tmod W := Int.tmod_nonneg _ (by omega)
  have h5 := Int.tmod_lt_of_pos (n.tmod W + W) h
  omega
theorem withinV_bnd {n lo hi : Int} (h : lo ≤ hi) : lo ≤ withinV n lo hi ∧ withinV n lo hi ≤ hi := by
  have := within_in (n := n) (W := hi - lo + 1) (by omega)
  unfold withinV
  omega
theorem within_val {n lo hi : Int} (h : lo ≤ hi) (h1 : -1000000000000 ≤ lo) (h2 : hi ≤ 1000000000000) :
    wrap64 (lo + (wrap64 (n.tmod (hi - lo + 1) + (hi - lo + 1))).tmod (hi - lo + 1)) = withinV n lo hi := by
  unfold withinV
  obtain ⟨W, hW⟩ : ∃ W, W = hi - lo + 1 := ⟨_, rfl⟩
  rw [← hW]
  have hin := within_in (n := n) (W := W) (by omega)
  rw [IntWalk.wrap64_in (n.tmod W + W) (by omega), IntWalk.wrap64_in _ (by omega)]
theorem lawWithin_any (n lo hi : Int) (w : World) (h : lo ≤ hi) (h1 : -1000000000000 ≤ lo) (h2 : hi ≤ 1000000000000) :
    Calls Try.prog 26 #[.int .i64 n, .int .i64 lo, .int .i64 hi] w fun e w' => e = .returned (.int .i64 (withinV n lo hi)) ∧ w' = w := by
  have hW0 : (hi - lo + 1 == 0) = false := by simp; omega
  have HV := Lib.hid (within_val (n := n) h h1 h2)
  go_enter Try.func26, Try.ntmps26
  go_wp2
  go_ret
  exact ⟨ret_int HV.out, rfl⟩
theorem histAt_any (X : List Int) (t : Int) (A : Option Addr) (c B : Nat) (w : World) (hA : Sl w B 1 encInt1 A X) (hB : B ≤ w.heap.size) (h0 : 0 < X.length) (hl : X.length ≤ 1000) (ht : 0 ≤ t) (ht2 : t ≤ 100000) :
    Calls Try.prog 25 #[.slice A X.length c, .int .i64 t] w fun e w' => e = .returned (.int .i64 (hv X t)) ∧ w' = w := by
  obtain ⟨b, off, rfl, hbB, hcells⟩ := hA h0
  obtain ⟨k, hk⟩ : ∃ k : Nat, k = min t.toNat (X.length - 1) := ⟨_, rfl⟩
  have hkl : k < X.length := by omega
  have hmin : min t ((X.length : Int) - 1) = (k : Int) := by omega
  have c0 : w.cell? ⟨b, off + k, none⟩ = some (.int .i64 X[k]) := by have := hcells k hkl 0 _ rfl; simpa using this
  have HV := Lib.hid (show X[k] = hv X t by unfold hv hvN; rw [← hk, List.getD_eq_getElem?_getD, List.getElem?_eq_getElem hkl]; rfl)
  have hbw : b < w.heap.size := by omega
  have hkI : (k : Int) < (X.length : Int) := by omega
  clear hcells hk
  go_enter Try.func25, Try.ntmps25
  go_wp2
  go_ret
  exact ⟨ret_int HV.out, rfl⟩
/-- is a number in one of some spans? -/
def withinS (l : List Span) (x : Int) : Bool := l.any fun s => decide (s.lo ≤ x) && decide (x ≤ s.hi)
theorem withinS_iff {l : List Span} {x : Int} : withinS l x = true ↔ InS l x := by
  unfold withinS InS
  rw [List.any_eq_true]
  constructor
  · rintro ⟨s, hs, h⟩; simp at h; exact ⟨s, hs, h⟩
  · rintro ⟨s, hs, h⟩; exact ⟨s, hs, by simp [h]⟩
set_option maxHeartbeats 1000000 in
theorem refWithin_any (l : List Span) (x : Int) (A : Option Addr) (c B : Nat) (w : World) (hA : Sl w B 2 encSp A l) (hB : B ≤ w.heap.size) (hl : l.length ≤ 1000000) :
    Calls Try.prog 24 #[.slice A l.length c, .int .i64 x] w fun e w' => e = .returned (.bool (withinS l x)) ∧ w' = w := by
  have HA := Lib.hid hA
  clear hA
  go_enter Try.func24, Try.ntmps24
  go_wp2
  go_loopw [5] (fun v wr => ∃ k : Nat, k ≤ l.length ∧ v = .int .i64 k ∧ Hid ((l.take k).any (fun s => decide (s.lo ≤ x) && decide (x ≤ s.hi)) = false) ∧ Hid (wr = w)) (fun v _ => l.length - (intOf v).toNat)
  case atStart => exact ⟨0, by omega, rfl, Lib.hid (by simp), Lib.hid rfl⟩
  case round =>
    obtain ⟨k, hk, rfl, Hno, Hw⟩ := hrel
    obtain rfl := Hw.out
    by_cases hlt : k < l.length
    · obtain ⟨b, off, rfl, hbB, hcells⟩ := HA.out (by omega)
      have hbw : b < wr.heap.size := by omega
      have s0 := hcells k hlt 0 _ rfl
      have s1 := hcells k hlt 1 _ rfl
      simp only [Nat.add_zero] at s0
      have Hs := Lib.hid (any_takeS (fun s : Span => decide (s.lo ≤ x) && decide (x ≤ s.hi)) l k hlt)
      have HAny := Lib.hid (fun (h : decide (l[k].lo ≤ x) = true) (h' : decide (x ≤ l[k].hi) = true) => show withinS l x = true from by
        unfold withinS; rw [List.any_eq_true]; exact ⟨l[k], List.getElem_mem hlt, by rw [h, h']; rfl⟩)
      clear hcells
      cases h1 : decide (l[k].lo ≤ x)
      · go_wp2
        go_roundw
        case rel => exact ⟨k + 1, by omega, by go_num, Lib.hid (by rw [Hs.out, Hno.out, h1]; rfl), Lib.hid (by first | rfl | trivial)⟩
        case measure => simp [intOf]; omega
      · cases h2 : decide (x ≤ l[k].hi)
        · go_wp2
          go_roundw
          case rel => exact ⟨k + 1, by omega, by go_num, Lib.hid (by rw [Hs.out, Hno.out, h1, h2]; rfl), Lib.hid (by first | rfl | trivial)⟩
          case measure => simp [intOf]; omega
        · have HT := Lib.hid (HAny.out h1 h2)
          go_wp2
          go_ret
          exact ⟨ret_bool HT.out.symm, rfl⟩
    · obtain rfl : k = l.length := by omega
      have HF := Lib.hid (show withinS l x = false by unfold withinS; have := Hno.out; rwa [List.take_length] at this)
      go_wp2
      go_ret
      exact ⟨ret_bool HF.out.symm, rfl⟩
theorem refError_any (g : Gauge) (t : Int) (w : World) (hg : 0 ≤ g.acc ∧ g.acc ≤ 1000000000 ∧ 0 ≤ g.drift ∧ g.drift ≤ 1000000000 ∧ 0 ≤ g.since ∧ g.since ≤ 100000) (ht : 0 ≤ t ∧ t ≤ 100000) :
    Calls Try.prog 56 #[.agg #[.string g.name, .int .i64 g.acc, .int .i64 g.drift, .int .i64 g.since], .int .i64 t] w fun e w' => e = .returned (.tuple #[.int .i64 (devi g t), .int .i64 0]) ∧ Below w.heap.size w w' := by
  obtain ⟨W0, hW0⟩ : ∃ W0, W0 = w.alloc (.cells #[.string g.name, .int .i64 g.acc, .int .i64 g.drift, .int .i64 g.since] 45) := ⟨_, rfl⟩
  have HB0 := Lib.hid (show Below w.heap.size w W0 by rw [hW0]; exact (Below.refl _ _).alloc (Nat.le_refl _) _)
  have hs0 : w.heap.size < W0.heap.size := by rw [hW0]; simp
  have HQ0 := Lib.hid (show ∀ (X : World), Below W0.heap.size W0 X → ∀ j v, (#[.string g.name, .int .i64 g.acc, .int .i64 g.drift, .int .i64 g.since] : Array Value)[j]? = some v → X.cell? ⟨w.heap.size, j, none⟩ = some v from fun X hX j v hv =>
    (hX.cell (p := ⟨w.heap.size, j, none⟩) hs0).trans (by rw [hW0]; exact alloc_cell hv))
  have HX := Lib.hid (fun (X : World) (hX : Below W0.heap.size W0 X) => show X.cell? ⟨w.heap.size, 0, none⟩ = some (.string g.name) ∧ X.cell? ⟨w.heap.size, 1, none⟩ = some (.int .i64 g.acc) ∧ X.cell? ⟨w.heap.size, 2, none⟩ = some (.int .i64 g.drift) ∧ X.cell? ⟨w.heap.size, 3, none⟩ = some (.int .i64 g.since) from ⟨HQ0.out X hX 0 _ rfl, HQ0.out X hX 1 _ rfl, HQ0.out X hX 2 _ rfl, HQ0.out X hX 3 _ rfl⟩)
  have HC := Lib.hid (fun (X : World) => refCheckGauge_any g X)
  rw [if_pos (show gaugeB g = true by unfold gaugeB; rw [Bool.and_eq_true, Bool.and_eq_true, withinB_true, withinB_true, isTm_true]; omega)] at HC
  have HT := Lib.hid (fun (X : World) => refTimed_any t X)
  rw [show isTm t = true from isTm_true.2 ht] at HT
  have HWo := Lib.hid (fun (X : World) => refWorst_any g t X hg.1 hg.2.1 hg.2.2.1 hg.2.2.2.1 hg.2.2.2.2.1 hg.2.2.2.2.2 ht.1 ht.2)
  obtain ⟨D, hD⟩ : ∃ D, D = devi g t := ⟨_, rfl⟩
  rw [← hD] at HWo ⊢
  obtain ⟨c0, c1, c2, c3⟩ := HX.out W0 (Below.refl _ _)
  have HW0 := Lib.hid hW0
  clear hD hW0 hg
  go_enter Try.func56, Try.ntmps56
  go_wp2_with (go_at_call 55; fail)
  rw [← HW0.out]
  refine (HC.out _).mono ?_
  rintro r w1 ⟨rfl, hb1⟩
  have HB1 := Lib.hid hb1
  have hs1 := hb1.size
  clear c0 c1 c2 c3 hb1
  obtain ⟨c0, c1, c2, c3⟩ := HX.out w1 HB1.out
  go_wp2_with (first | (go_at_call 40; refine (HT.out _).mono ?_; rintro r w2 ⟨rfl, hw2⟩; obtain rfl := hw2) | (go_at_call 52; refine (HWo.out _).mono ?_; rintro r w3 ⟨rfl, hb3⟩))
  refine bodyPost_ret (v := .tuple #[.int .i64 D, .int .i64 0]) (by simp [results, Try.results56, go_sem]) rfl ?_
  exact ⟨rfl, (HB0.out.trans (HB1.out.mono (by omega))).trans (hb3.mono (by omega))⟩
end Go.Proofs.Ytcgnpndfhhcplaa
