/-
  The specification's checkMeasure. Conditions: how the measures lie in memory.
-/
import Derived.Test.YtcgnpndfhhcplaaGreatDoorPlanD
import Derived.Test.YtcgnpndfhhcplaaGreatDoorRRead
namespace W7
/-- the error of a measure, those ahead of it known -/
def mErr1 (m : Measure) (ah : List Measure) : Int :=
  if mNameB m then
    if ah.any (fun x => strEq x.name m.name) then 6 else
      if mTimeB m then
        if ah.any (fun x => strEq x.crew m.crew && (x.rank == m.rank)) then 10 else 0
      else 1
  else 5
theorem mErrAt_one (l : List Measure) (i : Nat) (h : i < l.length) : mErrAt l i = mErr1 l[i] (l.take i) := by unfold mErrAt mErr1; rw [getD_lt h]
theorem any_not {α : Type} {P : α → Bool} {l : List α} {k : Nat} (hk : k < l.length) (h : (l.take k).any P = false) (h2 : P l[k] = false) : (l.take (k + 1)).any P = false := by
  rw [List.take_succ_eq_append_getElem hk, List.any_append, h]; simp [h2]
theorem any_hit {α : Type} {P : α → Bool} {l : List α} {k : Nat} (hk : k < l.length) (h : P l[k] = true) : l.any P = true := List.any_eq_true.2 ⟨l[k], List.getElem_mem hk, h⟩
end W7
namespace Go.Proofs.YtcgnpndfhhcplaaGreatDoor
open Go.RowKit W7
set_option maxHeartbeats 2000000 in
set_option maxRecDepth 100000 in
theorem refCheckMeasure_any (m : Measure) (ah : List Measure) (A : Option Addr) (c B n : Nat) (hn : n = ah.length) (w : World) (hnm : m.name.size ≤ 9223372036854775807 ∧ m.crew.size ≤ 9223372036854775807) (hA : Sl w B 5 encM A ah) (hB : B ≤ w.heap.size) (hl : ah.length ≤ 1000) :
    Calls Tryz.prog 38 #[.agg #[.string m.name, .string m.crew, .int .i64 m.rank, .int .i64 m.lag, .int .i64 m.takes], .slice A n c] w fun e w' => e = .returned (.int .i64 (mErr1 m ah)) ∧ Below w.heap.size w w' := by
  subst hn
  obtain ⟨W0, hW0⟩ : ∃ W0, W0 = w.alloc (.cells #[.string m.name, .string m.crew, .int .i64 m.rank, .int .i64 m.lag, .int .i64 m.takes] 49) := ⟨_, rfl⟩
  have HB0 := Lib.hid (show Below w.heap.size w W0 by rw [hW0]; exact (Below.refl _ _).alloc (Nat.le_refl _) _)
  have hs0 : w.heap.size < W0.heap.size := by rw [hW0]; simp
  have HQ0 := Lib.hid (show ∀ (X : World), Below W0.heap.size W0 X → X.cell? ⟨w.heap.size, 0, none⟩ = some (.string m.name) ∧ X.cell? ⟨w.heap.size, 1, none⟩ = some (.string m.crew) ∧ X.cell? ⟨w.heap.size, 2, none⟩ = some (.int .i64 m.rank) ∧ X.cell? ⟨w.heap.size, 3, none⟩ = some (.int .i64 m.lag) ∧ X.cell? ⟨w.heap.size, 4, none⟩ = some (.int .i64 m.takes) from fun X hX =>
    ⟨(hX.cell (p := ⟨w.heap.size, 0, none⟩) hs0).trans (by rw [hW0]; exact alloc_cell rfl), (hX.cell (p := ⟨w.heap.size, 1, none⟩) hs0).trans (by rw [hW0]; exact alloc_cell rfl), (hX.cell (p := ⟨w.heap.size, 2, none⟩) hs0).trans (by rw [hW0]; exact alloc_cell rfl), (hX.cell (p := ⟨w.heap.size, 3, none⟩) hs0).trans (by rw [hW0]; exact alloc_cell rfl), (hX.cell (p := ⟨w.heap.size, 4, none⟩) hs0).trans (by rw [hW0]; exact alloc_cell rfl)⟩)
  have HU := Lib.hid (fun (X : World) (hX : Below W0.heap.size W0 X) => show Below w.heap.size w X from HB0.out.trans (hX.mono (Nat.le_of_lt hs0)))
  have HA := Lib.hid (fun (X : World) (hX : Below W0.heap.size W0 X) => (hA.mono hB).below (HB0.out.trans (hX.mono (Nat.le_of_lt hs0))))
  have HNm := Lib.hid (refName_any m.name (by unfold maxLen; omega))
  have HCr := Lib.hid (refName_any m.crew (by unfold maxLen; omega))
  have HE := Lib.hid (show mErr1 m ah = if mNameB m then (if ah.any (fun x => strEq x.name m.name) then 6 else if mTimeB m then (if ah.any (fun x => strEq x.crew m.crew && (x.rank == m.rank)) then 10 else 0) else 1) else 5 from rfl)
  obtain ⟨er, her⟩ : ∃ er, er = mErr1 m ah := ⟨_, rfl⟩
  rw [← her] at HE ⊢
  obtain ⟨q0, q1, q2, q3, q4⟩ := HQ0.out W0 (Below.refl _ _)
  have HW0 := Lib.hid hW0
  clear hW0 her hA
  go_enter Tryz.func38, Tryz.ntmps38
  go_wp2_with (go_at_call 18; fail)
  rw [← HW0.out]
  cases hn1 : nameB m.name
  · have He := Lib.hid (show er = 5 by rw [HE.out, show mNameB m = false by unfold mNameB; rw [hn1]; rfl]; rfl)
    rw [hn1] at HNm
    refine (HNm.out _).mono ?_
    rintro e w1 ⟨rfl, rfl⟩
    go_wp2
    go_ret
    exact ⟨ret_int He.out.symm, HB0.out⟩
  rw [hn1] at HNm
  refine (HNm.out _).mono ?_
  rintro e w1 ⟨rfl, rfl⟩
  go_wp2_with (go_at_call 18; fail)
  cases hn2 : nameB m.crew
  · have He := Lib.hid (show er = 5 by rw [HE.out, show mNameB m = false by unfold mNameB; rw [hn1, hn2]; rfl]; rfl)
    rw [hn2] at HCr
    refine (HCr.out _).mono ?_
    rintro e w1 ⟨rfl, rfl⟩
    go_wp2
    go_ret
    exact ⟨ret_int He.out.symm, HB0.out⟩
  rw [hn2] at HCr
  refine (HCr.out _).mono ?_
  rintro e w1 ⟨rfl, rfl⟩
  have Hmn := Lib.hid (show mNameB m = true by unfold mNameB; rw [hn1, hn2]; rfl)
  clear hn1 hn2 q0 q1 q2 q3 q4
  go_wp2
  go_loopw [5] (fun v wr => ∃ k : Nat, k ≤ ah.length ∧ v = .int .i64 k ∧ Hid ((ah.take k).any (fun x => strEq x.name m.name) = false) ∧ Hid (Below W0.heap.size W0 wr)) (fun v _ => ah.length - (intOf v).toNat)
  case atStart => exact ⟨0, by omega, rfl, Lib.hid (by simp), Lib.hid (Below.refl _ _)⟩
  case round =>
    obtain ⟨k, hk, rfl, Hno, Hb⟩ := hrel
    have hsz := Hb.out.size
    obtain ⟨q0, q1, q2, q3, q4⟩ := HQ0.out wr Hb.out
    by_cases hlt : k < ah.length
    · obtain ⟨b, off, rfl, hbB, hcells⟩ := (HA.out wr Hb.out) (by omega)
      have c0 : wr.cell? ⟨b, off + k * 5, none⟩ = some (.string ah[k].name) := hcells k hlt 0 _ rfl
      have hbr : b < wr.heap.size := by omega
      have HN := Lib.hid (any_not (P := fun x => strEq x.name m.name) hlt Hno.out)
      have HH := Lib.hid (any_hit (P := fun x => strEq x.name m.name) hlt)
      obtain ⟨x, hx⟩ : ∃ x, x = ah[k] := ⟨_, rfl⟩
      rw [← hx] at c0 HN HH
      clear hx hcells
      cases he : (x.name.toList == m.name.toList)
      · have HN2 := Lib.hid (HN.out he)
        go_wp2
        go_quiet (fail)
        go_wp2
        go_roundw
        case rel => exact ⟨k + 1, by omega, by go_num, HN2, Lib.hid (below_drewN Hb.out _)⟩
        case measure => simp [intOf]; omega
      · have He := Lib.hid (show er = 6 by rw [HE.out, Hmn.out, if_pos rfl, HH.out he]; rfl)
        go_wp2
        go_quiet (fail)
        go_wp2
        go_ret
        exact ⟨ret_int He.out.symm, HU.out _ (below_drewN Hb.out _)⟩
    · obtain rfl : k = ah.length := by omega
      have HA1 := Lib.hid (show ah.any (fun x => strEq x.name m.name) = false by have := Hno.out; rwa [List.take_length] at this)
      have HT1 := Lib.hid (refTimed_any m.rank)
      have HT2 := Lib.hid (refTimed_any m.lag)
      have HT3 := Lib.hid (refTimed_any m.takes)
      go_wp2_with (go_at_call 18; fail)
      cases t1 : isTm m.rank
      · have He := Lib.hid (show er = 1 by rw [HE.out, Hmn.out, if_pos rfl, HA1.out, show mTimeB m = false by unfold mTimeB; rw [t1]; rfl]; rfl)
        rw [t1] at HT1
        refine (HT1.out _).mono ?_
        rintro e w4 ⟨rfl, rfl⟩
        go_wp2
        go_ret
        exact ⟨ret_int He.out.symm, HU.out wr Hb.out⟩
      rw [t1] at HT1
      refine (HT1.out _).mono ?_
      rintro e w4 ⟨rfl, rfl⟩
      go_wp2_with (go_at_call 18; fail)
      cases t2 : isTm m.lag
      · have He := Lib.hid (show er = 1 by rw [HE.out, Hmn.out, if_pos rfl, HA1.out, show mTimeB m = false by unfold mTimeB; rw [t1, t2]; rfl]; rfl)
        rw [t2] at HT2
        refine (HT2.out _).mono ?_
        rintro e w4 ⟨rfl, rfl⟩
        go_wp2
        go_ret
        exact ⟨ret_int He.out.symm, HU.out wr Hb.out⟩
      rw [t2] at HT2
      refine (HT2.out _).mono ?_
      rintro e w4 ⟨rfl, rfl⟩
      go_wp2_with (go_at_call 18; fail)
      cases t3 : isTm m.takes
      · have He := Lib.hid (show er = 1 by rw [HE.out, Hmn.out, if_pos rfl, HA1.out, show mTimeB m = false by unfold mTimeB; rw [t1, t2, t3]; rfl]; rfl)
        rw [t3] at HT3
        refine (HT3.out _).mono ?_
        rintro e w4 ⟨rfl, rfl⟩
        go_wp2
        go_ret
        exact ⟨ret_int He.out.symm, HU.out wr Hb.out⟩
      rw [t3] at HT3
      refine (HT3.out _).mono ?_
      rintro e w4 ⟨rfl, rfl⟩
      have Hmt := Lib.hid (show mTimeB m = true by unfold mTimeB; rw [t1, t2, t3]; rfl)
      clear t1 t2 t3 q0 q1 q2 q3 q4
      obtain ⟨wl, hwl⟩ : ∃ wl, wl = wr := ⟨_, rfl⟩
      subst hwl
      go_wp2
      go_loopw [6] (fun v wx => ∃ k : Nat, k ≤ ah.length ∧ v = .int .i64 k ∧ Hid ((ah.take k).any (fun x => strEq x.crew m.crew && (x.rank == m.rank)) = false) ∧ Hid (Below W0.heap.size W0 wx)) (fun v _ => ah.length - (intOf v).toNat)
      case atStart => exact ⟨0, by omega, rfl, Lib.hid (by simp), Hb⟩
      case round =>
        obtain ⟨k, hk, rfl, Hno2, Hb2⟩ := hrel
        have hsz2 := Hb2.out.size
        obtain ⟨q0, q1, q2, q3, q4⟩ := HQ0.out wr Hb2.out
        by_cases hlt : k < ah.length
        · obtain ⟨b, off, rfl, hbB, hcells⟩ := (HA.out wr Hb2.out) (by omega)
          have c1 : wr.cell? ⟨b, off + k * 5 + 1, none⟩ = some (.string ah[k].crew) := hcells k hlt 1 _ rfl
          have c2 : wr.cell? ⟨b, off + k * 5 + 2, none⟩ = some (.int .i64 ah[k].rank) := hcells k hlt 2 _ rfl
          have hbr : b < wr.heap.size := by omega
          have HN := Lib.hid (any_not (P := fun x => strEq x.crew m.crew && (x.rank == m.rank)) hlt Hno2.out)
          have HH := Lib.hid (any_hit (P := fun x => strEq x.crew m.crew && (x.rank == m.rank)) hlt)
          obtain ⟨x, hx⟩ : ∃ x, x = ah[k] := ⟨_, rfl⟩
          rw [← hx] at c1 c2 HN HH
          clear hx hcells
          cases he : (x.crew.toList == m.crew.toList)
          · have HN2 := Lib.hid (HN.out (by rw [show strEq x.crew m.crew = false from he]; rfl))
            go_wp2
            go_quiet (fail)
            go_wp2
            go_roundw
            case rel => exact ⟨k + 1, by omega, by go_num, HN2, Lib.hid (below_drewN Hb2.out _)⟩
            case measure => simp [intOf]; omega
          · cases hr : (x.rank == m.rank)
            · have HN2 := Lib.hid (HN.out (by rw [hr, Bool.and_false]))
              go_wp2
              go_quiet (fail)
              go_wp2
              go_roundw
              case rel => exact ⟨k + 1, by omega, by go_num, HN2, Lib.hid (below_drewN Hb2.out _)⟩
              case measure => simp [intOf]; omega
            · have He := Lib.hid (show er = 10 by rw [HE.out, Hmn.out, if_pos rfl, HA1.out, Hmt.out, HH.out (by rw [show strEq x.crew m.crew = true from he, hr]; rfl)]; rfl)
              go_wp2
              go_quiet (fail)
              go_wp2
              go_ret
              exact ⟨ret_int He.out.symm, HU.out _ (below_drewN Hb2.out _)⟩
        · obtain rfl : k = ah.length := by omega
          have He := Lib.hid (show er = 0 by rw [HE.out, Hmn.out, if_pos rfl, HA1.out, Hmt.out, show ah.any (fun x => strEq x.crew m.crew && (x.rank == m.rank)) = false by have := Hno2.out; rwa [List.take_length] at this]; rfl)
          go_wp2
          go_ret
          exact ⟨ret_int He.out.symm, HU.out wr Hb2.out⟩
end Go.Proofs.YtcgnpndfhhcplaaGreatDoor
