/-
  The specification's checkMeasure. Conditions: how the measures lie in memory.
  The specification's checkAlarm and Check: the first error of a plan. Conditions: how the plan lies in memory.
  The specification's Check: the first error of a plan. Conditions: how the plan lies in memory.
-/
import Derived.Test.YtcgnpndfhhcplaaGreatDoorChkQ
import Derived.Test.YtcgnpndfhhcplaaGreatDoorRRead
import Derived.Test.YtcgnpndfhhcplaaGreatDoorRegion
import Derived.Test.YtcgnpndfhhcplaaGreatDoorGood
import Derived.Deep.CutRange
namespace W7
/-- the error of a measure, those ahead of it known -/
def mErr1 (m : Measure) (ah : List Measure) : Int :=
  if mNameB m then
    if ah.any (fun x => strEq x.name m.name) then 6 else
      if mTimeB m then
        if ah.any (fun x => strEq x.crew m.crew && (x.rank == m.rank)) then 10 else 0
      else 1
  else 5
theorem mErrAt_one (l : List Measure) (i : Nat) (h : i < l.length) : mErrAt l i = mErr1 l[i] (l.take i) := by unfold mErrAt mErr1; rw [getD_lt h]
theorem any_not {α : Type} {P : α → Bool} {l : List α} {k : Nat} (hk : k < l.length) (h : (l.take k).any P = false) (h2 : P l[k] = false) : (l.take (k + 1)).any P = false := by
  rw [List.take_succ_eq_append_getElem hk, List.any_append, h]; simp [h2]
theorem any_hit {α : Type} {P : α → Bool} {l : List α} {k : Nat} (hk : k < l.length) (h : P l[k] = true) : l.any P = true := List.any_eq_true.2 ⟨l[k], List.getElem_mem hk, h⟩
end W7
namespace Go.Proofs.YtcgnpndfhhcplaaGreatDoor
open Go.RowKit W7
set_option maxHeartbeats 2000000 in
set_option maxRecDepth 100000 in
theorem refCheckMeasure_any (m : Measure) (ah : List Measure) (A : Option Addr) (c B n : Nat) (hn : n = ah.length) (w : World) (hnm : m.name.size ≤ 9223372036854775807 ∧ m.crew.size ≤ 9223372036854775807) (hA : Sl w B 5 encM A ah) (hB : B ≤ w.heap.size) (hl : ah.length ≤ 1000) :
    Calls Tryz.prog 38 #[.agg #[.string m.name, .string m.crew, .int .i64 m.rank, .int .i64 m.lag, .int .i64 m.takes], .slice A n c] w fun e w' => e = .returned (.int .i64 (mErr1 m ah)) ∧ Below w.heap.size w w' := by
  subst hn
  obtain ⟨W0, hW0⟩ : ∃ W0, W0 = w.alloc (.cells #[.string m.name, .string m.crew, .int .i64 m.rank, .int .i64 m.lag, .int .i64 m.takes] 49) := ⟨_, rfl⟩
  have HB0 := Lib.hid (show Below w.heap.size w W0 by rw [hW0]; exact (Below.refl _ _).alloc (Nat.le_refl _) _)
  have hs0 : w.heap.size < W0.heap.size := by rw [hW0]; simp
  have HQ0 := Lib.hid (show ∀ (X : World), Below W0.heap.size W0 X → X.cell? ⟨w.heap.size, 0, none⟩ = some (.string m.name) ∧ X.cell? ⟨w.heap.size, 1, none⟩ = some (.string m.crew) ∧ X.cell? ⟨w.heap.size, 2, none⟩ = some (.int .i64 m.rank) ∧ X.cell? ⟨w.heap.size, 3, none⟩ = some (.int .i64 m.lag) ∧ X.cell? ⟨w.heap.size, 4, none⟩ = some (.int .i64 m.takes) from fun X hX =>
    ⟨(hX.cell (p := ⟨w.heap.size, 0, none⟩) hs0).trans (by rw [hW0]; exact alloc_cell rfl), (hX.cell (p := ⟨w.heap.size, 1, none⟩) hs0).trans (by rw [hW0]; exact alloc_cell rfl), (hX.cell (p := ⟨w.heap.size, 2, none⟩) hs0).trans (by rw [hW0]; exact alloc_cell rfl), (hX.cell (p := ⟨w.heap.size, 3, none⟩) hs0).trans (by rw [hW0]; exact alloc_cell rfl), (hX.cell (p := ⟨w.heap.size, 4, none⟩) hs0).trans (by rw [hW0]; exact alloc_cell rfl)⟩)
  have HU := Lib.hid (fun (X : World) (hX : Below W0.heap.size W0 X) => show Below w.heap.size w X from HB0.out.trans (hX.mono (Nat.le_of_lt hs0)))
  have HA := Lib.hid (fun (X : World) (hX : Below W0.heap.size W0 X) => (hA.mono hB).below (HB0.out.trans (hX.mono (Nat.le_of_lt hs0))))
  have HNm := Lib.hid (refName_any m.name (by unfold maxLen; omega))
  have HCr := Lib.hid (refName_any m.crew (by unfold maxLen; omega))
  have HE := Lib.hid (show mErr1 m ah = if mNameB m then (if ah.any (fun x => strEq x.name m.name) then 6 else if mTimeB m then (if ah.any (fun x => strEq x.crew m.crew && (x.rank == m.rank)) then 10 else 0) else 1) else 5 from rfl)
  obtain ⟨er, her⟩ : ∃ er, er = mErr1 m ah := ⟨_, rfl⟩
  rw [← her] at HE ⊢
  obtain ⟨q0, q1, q2, q3, q4⟩ := HQ0.out W0 (Below.refl _ _)
  have HW0 := Lib.hid hW0
  clear hW0 her hA
  go_enter Tryz.func38, Tryz.ntmps38
  go_wp2_with (go_at_call 18; fail)
  rw [← HW0.out]
  cases hn1 : nameB m.name
  · have He := Lib.hid (show er = 5 by rw [HE.out, show mNameB m = false by unfold mNameB; rw [hn1]; rfl]; rfl)
    rw [hn1] at HNm
    refine (HNm.out _).mono ?_
    rintro e w1 ⟨rfl, rfl⟩
    go_wp2
    go_ret
    exact ⟨ret_int He.out.symm, HB0.out⟩
  rw [hn1] at HNm
  refine (HNm.out _).mono ?_
  rintro e w1 ⟨rfl, rfl⟩
  go_wp2_with (go_at_call 18; fail)
  cases hn2 : nameB m.crew
  · have He := Lib.hid (show er = 5 by rw [HE.out, show mNameB m = false by unfold mNameB; rw [hn1, hn2]; rfl]; rfl)
    rw [hn2] at HCr
    refine (HCr.out _).mono ?_
    rintro e w1 ⟨rfl, rfl⟩
    go_wp2
    go_ret
    exact ⟨ret_int He.out.symm, HB0.out⟩
  rw [hn2] at HCr
  refine (HCr.out _).mono ?_
  rintro e w1 ⟨rfl, rfl⟩
  have Hmn := Lib.hid (show mNameB m = true by unfold mNameB; rw [hn1, hn2]; rfl)
  clear hn1 hn2 q0 q1 q2 q3 q4
  go_wp2
  go_loopw [5] (fun v wr => ∃ k : Nat, k ≤ ah.length ∧ v = .int .i64 k ∧ Hid ((ah.take k).any (fun x => strEq x.name m.name) = false) ∧ Hid (Below W0.heap.size W0 wr)) (fun v _ => ah.length - (intOf v).toNat)
  case atStart => exact ⟨0, by omega, rfl, Lib.hid (by simp), Lib.hid (Below.refl _ _)⟩
  case round =>
    obtain ⟨k, hk, rfl, Hno, Hb⟩ := hrel
    have hsz := Hb.out.size
    obtain ⟨q0, q1, q2, q3, q4⟩ := HQ0.out wr Hb.out
    by_cases hlt : k < ah.length
    · obtain ⟨b, off, rfl, hbB, hcells⟩ := (HA.out wr Hb.out) (by omega)
      have c0 : wr.cell? ⟨b, off + k * 5, none⟩ = some (.string ah[k].name) := hcells k hlt 0 _ rfl
      have hbr : b < wr.heap.size := by omega
      have HN := Lib.hid (any_not (P := fun x => strEq x.name m.name) hlt Hno.out)
      have HH := Lib.hid (any_hit (P := fun x => strEq x.name m.name) hlt)
      obtain ⟨x, hx⟩ : ∃ x, x = ah[k] := ⟨_, rfl⟩
      rw [← hx] at c0 HN HH
      clear hx hcells
      cases he : (x.name.toList == m.name.toList)
      · have HN2 := Lib.hid (HN.out he)
        go_wp2
        go_quiet (fail)
        go_wp2
        go_roundw
        case rel => exact ⟨k + 1, by omega, by go_num, HN2, Lib.hid (below_drewN Hb.out _)⟩
        case measure => simp [intOf]; omega
      · have He := Lib.hid (show er = 6 by rw [HE.out, Hmn.out, if_pos rfl, HH.out he]; rfl)
        go_wp2
        go_quiet (fail)
        go_wp2
        go_ret
        exact ⟨ret_int He.out.symm, HU.out _ (below_drewN Hb.out _)⟩
    · obtain rfl : k = ah.length := by omega
      have HA1 := Lib.hid (show ah.any (fun x => strEq x.name m.name) = false by have := Hno.out; rwa [List.take_length] at this)
      have HT1 := Lib.hid (refTimed_any m.rank)
      have HT2 := Lib.hid (refTimed_any m.lag)
      have HT3 := Lib.hid (refTimed_any m.takes)
      go_wp2_with (go_at_call 18; fail)
      cases t1 : isTm m.rank
      · have He := Lib.hid (show er = 1 by rw [HE.out, Hmn.out, if_pos rfl, HA1.out, show mTimeB m = false by unfold mTimeB; rw [t1]; rfl]; rfl)
        rw [t1] at HT1
        refine (HT1.out _).mono ?_
        rintro e w4 ⟨rfl, rfl⟩
        go_wp2
        go_ret
        exact ⟨ret_int He.out.symm, HU.out wr Hb.out⟩
      rw [t1] at HT1
      refine (HT1.out _).mono ?_
      rintro e w4 ⟨rfl, rfl⟩
      go_wp2_with (go_at_call 18; fail)
      cases t2 : isTm m.lag
      · have He := Lib.hid (show er = 1 by rw [HE.out, Hmn.out, if_pos rfl, HA1.out, show mTimeB m = false by unfold mTimeB; rw [t1, t2]; rfl]; rfl)
        rw [t2] at HT2
        refine (HT2.out _).mono ?_
        rintro e w4 ⟨rfl, rfl⟩
        go_wp2
        go_ret
        exact ⟨ret_int He.out.symm, HU.out wr Hb.out⟩
      rw [t2] at HT2
      refine (HT2.out _).mono ?_
      rintro e w4 ⟨rfl, rfl⟩
      go_wp2_with (go_at_call 18; fail)
      cases t3 : isTm m.takes
      · have He := Lib.hid (show er = 1 by rw [HE.out, Hmn.out, if_pos rfl, HA1.out, show mTimeB m = false by unfold mTimeB; rw [t1, t2, t3]; rfl]; rfl)
        rw [t3] at HT3
        refine (HT3.out _).mono ?_
        rintro e w4 ⟨rfl, rfl⟩
        go_wp2
        go_ret
        exact ⟨ret_int He.out.symm, HU.out wr Hb.out⟩
      rw [t3] at HT3
      refine (HT3.out _).mono ?_
      rintro e w4 ⟨rfl, rfl⟩
      have Hmt := Lib.hid (show mTimeB m = true by unfold mTimeB; rw [t1, t2, t3]; rfl)
      clear t1 t2 t3 q0 q1 q2 q3 q4
      obtain ⟨wl, hwl⟩ : ∃ wl, wl = wr := ⟨_, rfl⟩
      subst hwl
      go_wp2
      go_loopw [6] (fun v wx => ∃ k : Nat, k ≤ ah.length ∧ v = .int .i64 k ∧ Hid ((ah.take k).any (fun x => strEq x.crew m.crew && (x.rank == m.rank)) = false) ∧ Hid (Below W0.heap.size W0 wx)) (fun v _ => ah.length - (intOf v).toNat)
      case atStart => exact ⟨0, by omega, rfl, Lib.hid (by simp), Hb⟩
      case round =>
        obtain ⟨k, hk, rfl, Hno2, Hb2⟩ := hrel
        have hsz2 := Hb2.out.size
        obtain ⟨q0, q1, q2, q3, q4⟩ := HQ0.out wr Hb2.out
        by_cases hlt : k < ah.length
        · obtain ⟨b, off, rfl, hbB, hcells⟩ := (HA.out wr Hb2.out) (by omega)
          have c1 : wr.cell? ⟨b, off + k * 5 + 1, none⟩ = some (.string ah[k].crew) := hcells k hlt 1 _ rfl
          have c2 : wr.cell? ⟨b, off + k * 5 + 2, none⟩ = some (.int .i64 ah[k].rank) := hcells k hlt 2 _ rfl
          have hbr : b < wr.heap.size := by omega
          have HN := Lib.hid (any_not (P := fun x => strEq x.crew m.crew && (x.rank == m.rank)) hlt Hno2.out)
          have HH := Lib.hid (any_hit (P := fun x => strEq x.crew m.crew && (x.rank == m.rank)) hlt)
          obtain ⟨x, hx⟩ : ∃ x, x = ah[k] := ⟨_, rfl⟩
          rw [← hx] at c1 c2 HN HH
          clear hx hcells
          cases he : (x.crew.toList == m.crew.toList)
          · have HN2 := Lib.hid (HN.out (by rw [show strEq x.crew m.crew = false from he]; rfl))
            go_wp2
            go_quiet (fail)
            go_wp2
            go_roundw
            case rel => exact ⟨k + 1, by omega, by go_num, HN2, Lib.hid (below_drewN Hb2.out _)⟩
            case measure => simp [intOf]; omega
          · cases hr : (x.rank == m.rank)
            · have HN2 := Lib.hid (HN.out (by rw [hr, Bool.and_false]))
              go_wp2
              go_quiet (fail)
              go_wp2
              go_roundw
              case rel => exact ⟨k + 1, by omega, by go_num, HN2, Lib.hid (below_drewN Hb2.out _)⟩
              case measure => simp [intOf]; omega
            · have He := Lib.hid (show er = 10 by rw [HE.out, Hmn.out, if_pos rfl, HA1.out, Hmt.out, HH.out (by rw [show strEq x.crew m.crew = true from he, hr]; rfl)]; rfl)
              go_wp2
              go_quiet (fail)
              go_wp2
              go_ret
              exact ⟨ret_int He.out.symm, HU.out _ (below_drewN Hb2.out _)⟩
        · obtain rfl : k = ah.length := by omega
          have He := Lib.hid (show er = 0 by rw [HE.out, Hmn.out, if_pos rfl, HA1.out, Hmt.out, show ah.any (fun x => strEq x.crew m.crew && (x.rank == m.rank)) = false by have := Hno2.out; rwa [List.take_length] at this]; rfl)
          go_wp2
          go_ret
          exact ⟨ret_int He.out.symm, HU.out wr Hb2.out⟩
end Go.Proofs.YtcgnpndfhhcplaaGreatDoor
namespace Go.Proofs.YtcgnpndfhhcplaaGreatDoor
open Go.RowKit W7
set_option maxHeartbeats 2000000 in
set_option maxRecDepth 100000 in
theorem refCheckAlarm_any (p : Plan) (i : Nat) (B : Nat) (w : World) (hp : PIn w B p) (hB : B ≤ w.heap.size) (hi : i < p.al.length) (hi2 : i ≤ 1000) :
    Calls Tryz.prog 39 #[.agg #[.slice p.qA p.qs.length p.qc, .slice p.mA p.ms.length p.mc, .slice p.aA p.al.length p.ac], .int .i64 i] w fun e w' => e = .returned (.int .i64 (aErrAt p i)) ∧ Below w.heap.size w w' := by
  have hsl := hp.asl
  have hql := hp.qlc
  have hqc := hp.qc2
  have hml := hp.mlc
  have hmc := hp.mc2
  obtain ⟨AA, hAA⟩ : ∃ AA, p.aA = AA := ⟨_, rfl⟩
  rw [hAA] at hsl ⊢
  clear hAA hp
  obtain ⟨b, off, rfl, hbB, hcells⟩ := hsl (by omega)
  have hbw : b < w.heap.size := by omega
  have V1 := Lib.hid (@aErr_v1 p i hi)
  have V2 := Lib.hid (@aErr_v2 p i hi)
  have V3 := Lib.hid (@aErr_v3 p i hi)
  have V4 := Lib.hid (@aErr_v4 p i hi)
  obtain ⟨a, ha⟩ : ∃ a, a = p.al[i] := ⟨_, rfl⟩
  rw [← ha] at V1 V2 V3 V4
  have HCl := Lib.hid (show ∀ (X : World), Below w.heap.size w X → ∀ k (h : k < p.al.length) j v, (encA p.al[k])[j]? = some v → X.cell? ⟨b, off + k * 4 + j, none⟩ = some v from fun X hX k h j v hv => (hX.cell (p := ⟨b, off + k * 4 + j, none⟩) hbw).trans (hcells k h j v hv))
  obtain ⟨W0, hW0⟩ : ∃ W0, W0 = w.alloc (.cells #[.slice p.qA p.qs.length p.qc, .slice p.mA p.ms.length p.mc, .slice (some ⟨b, off, none⟩) p.al.length p.ac] 26) := ⟨_, rfl⟩
  obtain ⟨W1, hW1⟩ : ∃ W1, W1 = W0.alloc (.cells #[.int .i64 a.q, .int .i64 a.level, .int .i64 a.limit, .int .i64 a.m] 75) := ⟨_, rfl⟩
  have HB0 := Lib.hid (show Below w.heap.size w W0 by rw [hW0]; exact (Below.refl _ _).alloc (Nat.le_refl _) _)
  have hs0 : W0.heap.size = w.heap.size + 1 := by rw [hW0]; simp
  have HB1 := Lib.hid (show Below w.heap.size w W1 by rw [hW1]; exact HB0.out.alloc (by omega) _)
  have hs1 : W1.heap.size = W0.heap.size + 1 := by rw [hW1]; simp
  have HP0 := Lib.hid (show ∀ j v, (#[.slice p.qA p.qs.length p.qc, .slice p.mA p.ms.length p.mc, .slice (some ⟨b, off, none⟩) p.al.length p.ac] : Array Value)[j]? = some v → W0.cell? ⟨w.heap.size, j, none⟩ = some v from fun j v hv => by rw [hW0]; exact alloc_cell hv)
  have HP1 := Lib.hid (show ∀ (X : World), Below W1.heap.size W1 X → ∀ j v, (#[.slice p.qA p.qs.length p.qc, .slice p.mA p.ms.length p.mc, .slice (some ⟨b, off, none⟩) p.al.length p.ac] : Array Value)[j]? = some v → X.cell? ⟨w.heap.size, j, none⟩ = some v from fun X hX j v hv =>
    (hX.cell (p := ⟨w.heap.size, j, none⟩) (by simp; omega)).trans (by rw [hW1, World.cell?_alloc_lt _ _ _ (by simp; omega)]; exact HP0.out j v hv))
  have HA1 := Lib.hid (show ∀ (X : World), Below W1.heap.size W1 X → ∀ j v, (#[.int .i64 a.q, .int .i64 a.level, .int .i64 a.limit, .int .i64 a.m] : Array Value)[j]? = some v → X.cell? ⟨W0.heap.size, j, none⟩ = some v from fun X hX j v hv =>
    (hX.cell (p := ⟨W0.heap.size, j, none⟩) (by simp; omega)).trans (by rw [hW1]; exact alloc_cell hv))
  have z0 : W0.cell? ⟨b, off + i * 4, none⟩ = some (.int .i64 a.q) := by rw [ha]; exact HCl.out W0 HB0.out i hi 0 _ rfl
  have z1 : W0.cell? ⟨b, off + i * 4 + 1, none⟩ = some (.int .i64 a.level) := by rw [ha]; exact HCl.out W0 HB0.out i hi 1 _ rfl
  have z2 : W0.cell? ⟨b, off + i * 4 + 2, none⟩ = some (.int .i64 a.limit) := by rw [ha]; exact HCl.out W0 HB0.out i hi 2 _ rfl
  have z3 : W0.cell? ⟨b, off + i * 4 + 3, none⟩ = some (.int .i64 a.m) := by rw [ha]; exact HCl.out W0 HB0.out i hi 3 _ rfl
  have zp : W0.cell? ⟨w.heap.size, 2, none⟩ = some (.slice (some ⟨b, off, none⟩) p.al.length p.ac) := HP0.out 2 _ rfl
  have hiI : (i : Int) < (p.al.length : Int) := by omega
  have hsA : w.heap.size < W0.heap.size := by omega
  have hsB : W0.heap.size < W1.heap.size := by omega
  obtain ⟨er, her⟩ : ∃ er, er = aErrAt p i := ⟨_, rfl⟩
  rw [← her] at V1 V2 V3 V4 ⊢
  have HW0 := Lib.hid hW0
  have HW1 := Lib.hid hW1
  clear hW0 hW1 ha hcells hs1 hs0 hsl her
  go_enter Tryz.func39, Tryz.ntmps39
  go_upto_region 1 with fail
  rw [← HW0.out]
  go_upto_region 2 with fail
  rw [← HW1.out]
  clear z0 z1 z2 z3 zp
  have p0 : W1.cell? ⟨w.heap.size, 0, none⟩ = some (.slice p.qA p.qs.length p.qc) := HP1.out W1 (Below.refl _ _) 0 _ rfl
  have p1 : W1.cell? ⟨w.heap.size, 1, none⟩ = some (.slice p.mA p.ms.length p.mc) := HP1.out W1 (Below.refl _ _) 1 _ rfl
  have a0 : W1.cell? ⟨W0.heap.size, 0, none⟩ = some (.int .i64 a.q) := HA1.out W1 (Below.refl _ _) 0 _ rfl
  have a1 : W1.cell? ⟨W0.heap.size, 1, none⟩ = some (.int .i64 a.level) := HA1.out W1 (Below.refl _ _) 1 _ rfl
  have a2 : W1.cell? ⟨W0.heap.size, 2, none⟩ = some (.int .i64 a.limit) := HA1.out W1 (Below.refl _ _) 2 _ rfl
  have a3 : W1.cell? ⟨W0.heap.size, 3, none⟩ = some (.int .i64 a.m) := HA1.out W1 (Below.refl _ _) 3 _ rfl
  have HWi := Lib.hid (show (withinB a.q 0 ((p.qs.length : Int) - 1) && withinB a.m 0 ((p.ms.length : Int) - 1)) = (!decide (a.q < 0) && !decide ((p.qs.length : Int) ≤ a.q) && (!decide (a.m < 0) && !decide ((p.ms.length : Int) ≤ a.m))) by
    rw [Bool.eq_iff_iff]
    simp only [Bool.and_eq_true, withinB_true, Bool.not_eq_true', decide_eq_false_iff_not]
    omega)
  cases t1 : decide (a.q < 0)
  rotate_left
  · have He := Lib.hid (V1.out (by rw [HWi.out, t1]; rfl))
    go_wp2
    go_ret
    exact ⟨ret_int He.out.symm, HB1.out⟩
  cases t2 : decide ((p.qs.length : Int) ≤ a.q)
  rotate_left
  · have He := Lib.hid (V1.out (by rw [HWi.out, t1, t2]; rfl))
    go_wp2
    go_ret
    exact ⟨ret_int He.out.symm, HB1.out⟩
  cases t3 : decide (a.m < 0)
  rotate_left
  · have He := Lib.hid (V1.out (by rw [HWi.out, t1, t2, t3]; rfl))
    go_wp2
    go_ret
    exact ⟨ret_int He.out.symm, HB1.out⟩
  cases t4 : decide ((p.ms.length : Int) ≤ a.m)
  rotate_left
  · have He := Lib.hid (V1.out (by rw [HWi.out, t1, t2, t3, t4]; rfl))
    go_wp2
    go_ret
    exact ⟨ret_int He.out.symm, HB1.out⟩
  have hwi : (withinB a.q 0 ((p.qs.length : Int) - 1) && withinB a.m 0 ((p.ms.length : Int) - 1)) = true := by rw [HWi.out, t1, t2, t3, t4]; rfl
  have HVl := Lib.hid (refValue_any a.level)
  have HVi := Lib.hid (refValue_any a.limit)
  go_wp2_with (go_at_call 18; fail)
  cases v1e : isVal a.level
  · have He := Lib.hid (V2.out hwi (by rw [v1e]; rfl))
    rw [v1e] at HVl
    refine (HVl.out _).mono ?_
    rintro e w3 ⟨rfl, rfl⟩
    go_wp2
    go_ret
    exact ⟨ret_int He.out.symm, HB1.out⟩
  rw [v1e] at HVl
  refine (HVl.out _).mono ?_
  rintro e w3 ⟨rfl, rfl⟩
  go_wp2_with (go_at_call 18; fail)
  cases v2e : isVal a.limit
  · have He := Lib.hid (V2.out hwi (by rw [v1e, v2e]; rfl))
    rw [v2e] at HVi
    refine (HVi.out _).mono ?_
    rintro e w3 ⟨rfl, rfl⟩
    go_wp2
    go_ret
    exact ⟨ret_int He.out.symm, HB1.out⟩
  rw [v2e] at HVi
  refine (HVi.out _).mono ?_
  rintro e w3 ⟨rfl, rfl⟩
  have hvi : (isVal a.level && isVal a.limit) = true := by rw [v1e, v2e]; rfl
  clear v1e v2e t1 t2 t3 t4 p0 p1 a0 a1 a2 a3
  go_wp2
  go_loopw [6] (fun v wr => ∃ k : Nat, k ≤ i ∧ v = .int .i64 k ∧ Hid ((p.al.take k).any (fun x => x.m == a.m) = false) ∧ Hid (Below W1.heap.size W1 wr)) (fun v _ => i - (intOf v).toNat)
  case atStart => exact ⟨0, by omega, rfl, Lib.hid (by simp), Lib.hid (Below.refl _ _)⟩
  case round =>
    obtain ⟨k, hk, rfl, Hno, Hb⟩ := hrel
    have hsz := Hb.out.size
    have p2 : wr.cell? ⟨w.heap.size, 2, none⟩ = some (.slice (some ⟨b, off, none⟩) p.al.length p.ac) := HP1.out wr Hb.out 2 _ rfl
    have a3 : wr.cell? ⟨W0.heap.size, 3, none⟩ = some (.int .i64 a.m) := HA1.out wr Hb.out 3 _ rfl
    have Hbw := Lib.hid (HB1.out.trans (Hb.out.mono (by omega)))
    by_cases hlt : k < i
    · have hkl : k < p.al.length := by omega
      have hkI : (k : Int) < (p.al.length : Int) := by omega
      have c3 : wr.cell? ⟨b, off + k * 4 + 3, none⟩ = some (.int .i64 p.al[k].m) := HCl.out wr Hbw.out k hkl 3 _ rfl
      have HN := Lib.hid (any_not (P := fun x : Alarm => x.m == a.m) hkl Hno.out)
      have HH : Hid ((p.al[k].m == a.m) = true → (p.al.take i).any (fun x => x.m == a.m) = true) := Lib.hid fun h => List.any_eq_true.2 ⟨p.al[k], List.mem_take_iff_getElem.2 ⟨k, by omega, rfl⟩, h⟩
      obtain ⟨x, hx⟩ : ∃ x, x = p.al[k] := ⟨_, rfl⟩
      rw [← hx] at c3 HN HH
      clear hx
      cases he : (x.m == a.m)
      · have HN2 := Lib.hid (HN.out he)
        go_wp2
        go_quiet (fail)
        go_wp2
        go_roundw
        case rel => exact ⟨k + 1, by omega, by go_num, HN2, Lib.hid (below_drewN Hb.out _)⟩
        case measure => simp [intOf]; omega
      · have He := Lib.hid (V3.out hwi hvi (HH.out he))
        have HbD := Lib.hid (fun n => below_drewN Hbw.out n)
        go_wp2
        go_quiet (fail)
        go_wp2
        go_ret
        exact ⟨ret_int He.out.symm, HbD.out _⟩
    · obtain rfl : k = i := by omega
      have He := Lib.hid (V4.out hwi hvi Hno.out)
      go_wp2
      go_ret
      exact ⟨ret_int He.out.symm, Hbw.out⟩
end Go.Proofs.YtcgnpndfhhcplaaGreatDoor
namespace Go.Proofs.YtcgnpndfhhcplaaGreatDoor
open Go.RowKit W7
theorem qErr_u1 {l : List Quantity} {k : Nat} (hk : k < l.length) (h : nameB l[k].name = false) : qErrAt l k = 5 := qErrAt_name hk h
theorem qErr_u3 {l : List Quantity} {k : Nat} (hk : k < l.length) (h : nameB l[k].name = true) (h2 : (l.take k).any (fun x => strEq x.name l[k].name) = false) : qErrAt l k = qsErr [l[k]] := by
  rw [qErrAt_rest hk h h2, qsErr_one, h, if_pos rfl]
set_option maxHeartbeats 4000000 in
set_option maxRecDepth 100000 in
theorem refCheck_any (p : Plan) (B : Nat) (w : World) (hp : PIn w B p) (hB : B ≤ w.heap.size) :
    Calls Tryz.prog 11 #[.agg #[.slice p.qA p.qs.length p.qc, .slice p.mA p.ms.length p.mc, .slice p.aA p.al.length p.ac]] w fun e w' => e = .returned (.int .i64 (planErr p)) ∧ Below w.heap.size w w' := by
  obtain ⟨QQ, hQQ⟩ : ∃ QQ, p.qA = QQ := ⟨_, rfl⟩
  obtain ⟨MM, hMM⟩ : ∃ MM, p.mA = MM := ⟨_, rfl⟩
  obtain ⟨AA, hAA⟩ : ∃ AA, p.aA = AA := ⟨_, rfl⟩
  rw [hQQ, hMM, hAA]
  obtain ⟨W0, hW0⟩ : ∃ W0, W0 = w.alloc (.cells #[.slice QQ p.qs.length p.qc, .slice MM p.ms.length p.mc, .slice AA p.al.length p.ac] 26) := ⟨_, rfl⟩
  have HB0 := Lib.hid (show Below w.heap.size w W0 by rw [hW0]; exact (Below.refl _ _).alloc (Nat.le_refl _) _)
  have hs0 : w.heap.size < W0.heap.size := by rw [hW0]; simp
  have HQ0 := Lib.hid (show ∀ (X : World), Below W0.heap.size W0 X → X.cell? ⟨w.heap.size, 0, none⟩ = some (.slice QQ p.qs.length p.qc) ∧ X.cell? ⟨w.heap.size, 1, none⟩ = some (.slice MM p.ms.length p.mc) ∧ X.cell? ⟨w.heap.size, 2, none⟩ = some (.slice AA p.al.length p.ac) from fun X hX =>
    ⟨(hX.cell (p := ⟨w.heap.size, 0, none⟩) hs0).trans (by rw [hW0]; exact alloc_cell rfl), (hX.cell (p := ⟨w.heap.size, 1, none⟩) hs0).trans (by rw [hW0]; exact alloc_cell rfl), (hX.cell (p := ⟨w.heap.size, 2, none⟩) hs0).trans (by rw [hW0]; exact alloc_cell rfl)⟩)
  have HP := Lib.hid (fun (X : World) (hX : Below W0.heap.size W0 X) => (hp.mono hB).below (HB0.out.trans (hX.mono (Nat.le_of_lt hs0))))
  have HU := Lib.hid (fun (X : World) (hX : Below W0.heap.size W0 X) => show Below w.heap.size w X from HB0.out.trans (hX.mono (Nat.le_of_lt hs0)))
  have HQs := Lib.hid (fun (X : World) (hX : Below W0.heap.size W0 X) => show Sl X w.heap.size 7 encQ QQ p.qs by rw [← hQQ]; exact (HP.out X hX).qsl)
  have HMs := Lib.hid (fun (X : World) (hX : Below W0.heap.size W0 X) => show Sl X w.heap.size 5 encM MM p.ms by rw [← hMM]; exact (HP.out X hX).msl)
  have HCa := Lib.hid (fun (X : World) (hX : Below W0.heap.size W0 X) (i : Nat) (hi : i < p.al.length) (hi2 : i ≤ 1000) => refCheckAlarm_any p i w.heap.size X (HP.out X hX) (by have := hX.size; omega) hi hi2)
  rw [hQQ, hMM, hAA] at HCa
  have hmnm := Lib.hid hp.mnm
  have hal := hp.alc
  have hac := hp.ac2
  have hql := hp.qlc
  have hqc := hp.qc2
  have hml := hp.mlc
  have hmc := hp.mc2
  have HPe := Lib.hid (show planErr p = if qsErr p.qs = 0 then (if msErr p.ms = 0 then (if p.al.length ≤ 16 then firstErr (aErrAt p) p.al.length else 3) else msErr p.ms) else qsErr p.qs from rfl)
  obtain ⟨pe, hpe⟩ : ∃ pe, pe = planErr p := ⟨_, rfl⟩
  rw [← hpe] at HPe ⊢
  obtain ⟨q0, q1, q2⟩ := HQ0.out W0 (Below.refl _ _)
  have HW0 := Lib.hid hW0
  clear hW0 hp hpe hQQ hMM hAA
  by_cases h16q : p.qs.length ≤ 16
  rotate_left
  · have He := Lib.hid (show pe = 3 by
      have hq3 : qsErr p.qs = 3 := by simp [qsErr, h16q]
      rw [HPe.out, hq3]; rfl)
    go_enter Tryz.func11, Tryz.ntmps11
    go_upto_region 1 with fail
    rw [← HW0.out]
    go_wp2
    go_ret
    exact ⟨ret_int He.out.symm, HB0.out⟩
  have HQe := Lib.hid (show qsErr p.qs = firstErr (qErrAt p.qs) p.qs.length from by simp [qsErr, h16q])
  go_enter Tryz.func11, Tryz.ntmps11
  go_upto_region 1 with fail
  rw [← HW0.out]
  go_wp2
  clear q0 q1 q2
  go_loopw [3] (fun v wr => ∃ i : Nat, i ≤ p.qs.length ∧ v = .int .i64 i ∧ Hid (firstErr (qErrAt p.qs) i = 0) ∧ Hid (Below W0.heap.size W0 wr)) (fun v _ => p.qs.length - (intOf v).toNat)
  case atStart => exact ⟨0, by omega, rfl, Lib.hid rfl, Lib.hid (Below.refl _ _)⟩
  case round =>
    obtain ⟨i, hi, rfl, Hf, Hb⟩ := hrel
    have hsz := Hb.out.size
    have hwr : w.heap.size < wr.heap.size := by omega
    obtain ⟨q0, q1, q2⟩ := HQ0.out wr Hb.out
    by_cases hlt : i < p.qs.length
    · have HQl := Lib.hid (HQs.out wr Hb.out)
      obtain ⟨b, off, rfl, hbB, hcells⟩ := HQl.out (by omega)
      have hbr : b < wr.heap.size := by omega
      have HqI := Lib.hid (((HP.out wr Hb.out).qin p.qs[i] (List.getElem_mem hlt)))
      have hnm := HqI.out.nm
      have HCl := Lib.hid (show ∀ (X : World), Below wr.heap.size wr X → ∀ k (h : k < p.qs.length) j v, (encQ p.qs[k])[j]? = some v → X.cell? ⟨b, off + k * 7 + j, none⟩ = some v from fun X hX k h j v hv => (hX.cell (p := ⟨b, off + k * 7 + j, none⟩) hbr).trans (hcells k h j v hv))
      have U1 := Lib.hid (@qErr_u1 p.qs i hlt)
      have U2 := Lib.hid (@qErrAt_twice p.qs i hlt)
      have U3 := Lib.hid (@qErr_u3 p.qs i hlt)
      obtain ⟨q, hq⟩ : ∃ q, q = p.qs[i] := ⟨_, rfl⟩
      rw [← hq] at U1 U2 U3 HqI hnm
      have HqC := Lib.hid (show ∀ (X : World), Below wr.heap.size wr X → ∀ j v, (encQ q)[j]? = some v → X.cell? ⟨b, off + i * 7 + j, none⟩ = some v from fun X hX j v hv => HCl.out X hX i hlt j v (by rw [← hq]; exact hv))
      have HEnd := Lib.hid (fun (e : Int) (h : qErrAt p.qs i = e) (h0 : e ≠ 0) => show e = pe by
        have h1 : qsErr p.qs = e := by rw [HQe.out, firstErr_at Hf.out (by rw [h]; exact h0) hlt, h]
        rw [HPe.out, h1, if_neg h0])
      clear hq hcells
      have x0 : wr.cell? ⟨b, off + i * 7, none⟩ = some (.string q.name) := HqC.out wr (Below.refl _ _) 0 _ rfl
      have HNm := Lib.hid (refName_any q.name (by unfold maxLen; omega))
      go_wp2_with (go_at_call 18; fail)
      cases hn : nameB q.name
      · have He := Lib.hid (HEnd.out 5 (U1.out hn) (by decide))
        rw [hn] at HNm
        refine (HNm.out _).mono ?_
        rintro e w1 ⟨rfl, rfl⟩
        go_wp2
        go_ret
        exact ⟨ret_int He.out, HU.out wr Hb.out⟩
      rw [hn] at HNm
      have Hn := Lib.hid hn
      refine (HNm.out _).mono ?_
      rintro e w1 ⟨rfl, rfl⟩
      clear hn x0 q0 q1 q2
      obtain ⟨wl, hwl⟩ : ∃ wl, wl = wr := ⟨_, rfl⟩
      subst hwl
      go_wp2
      go_loopw [4] (fun v wx => ∃ k : Nat, k ≤ i ∧ v = .int .i64 k ∧ Hid ((p.qs.take k).any (fun x => strEq x.name q.name) = false) ∧ Hid (Below wl.heap.size wl wx)) (fun v _ => i - (intOf v).toNat)
      case atStart => exact ⟨0, by omega, rfl, Lib.hid (by simp), Lib.hid (Below.refl _ _)⟩
      case round =>
        obtain ⟨k, hk, rfl, Hno, Hb2⟩ := hrel
        have hsz2 := Hb2.out.size
        have HbT := Lib.hid (Hb.out.trans (Hb2.out.mono hsz))
        obtain ⟨q0, q1, q2⟩ := HQ0.out wr HbT.out
        have x0 : wr.cell? ⟨b, off + i * 7, none⟩ = some (.string q.name) := HqC.out wr Hb2.out 0 _ rfl
        have hiI : (i : Int) < (p.qs.length : Int) := by omega
        by_cases hlk : k < i
        · have hkl : k < p.qs.length := by omega
          have hkI : (k : Int) < (p.qs.length : Int) := by omega
          have c0 : wr.cell? ⟨b, off + k * 7, none⟩ = some (.string p.qs[k].name) := HCl.out wr Hb2.out k hkl 0 _ rfl
          have HN := Lib.hid (any_not (P := fun x : Quantity => strEq x.name q.name) hkl Hno.out)
          have HH : Hid ((p.qs[k].name.toList == q.name.toList) = true → (p.qs.take i).any (fun x => strEq x.name q.name) = true) := Lib.hid fun h => List.any_eq_true.2 ⟨p.qs[k], List.mem_take_iff_getElem.2 ⟨k, by omega, rfl⟩, h⟩
          obtain ⟨x, hx⟩ : ∃ x, x = p.qs[k] := ⟨_, rfl⟩
          rw [← hx] at c0 HN HH
          clear hx
          cases he : (x.name.toList == q.name.toList)
          · have HN2 := Lib.hid (HN.out he)
            go_wp2
            go_quiet (fail)
            go_wp2
            go_roundw
            case rel => exact ⟨k + 1, by omega, by go_num, HN2, Lib.hid (below_drewN Hb2.out _)⟩
            case measure => simp [intOf]; omega
          · have He := Lib.hid (HEnd.out 6 (U2.out Hn.out (HH.out he)) (by decide))
            have HbD := Lib.hid (fun n => HU.out _ (below_drewN HbT.out n))
            go_wp2
            go_quiet (fail)
            go_wp2
            go_ret
            exact ⟨ret_int He.out, HbD.out _⟩
        · obtain rfl : k = i := by omega
          have HE3 := Lib.hid (U3.out Hn.out Hno.out)
          have HCq := Lib.hid (refCheckQ_any q wl.heap.size wr ((HqI.out.mono (by omega)).below Hb2.out) (by omega))
          obtain ⟨qe, hqe⟩ : ∃ qe, qe = qsErr [q] := ⟨_, rfl⟩
          rw [← hqe] at HE3 HCq
          clear hqe x0
          have x0 : wr.cell? ⟨b, off + k * 7, none⟩ = some (.string q.name) := HqC.out wr Hb2.out 0 _ rfl
          have x1 : wr.cell? ⟨b, off + k * 7 + 1, none⟩ = some (.int .i64 q.lo) := HqC.out wr Hb2.out 1 _ rfl
          have x2 : wr.cell? ⟨b, off + k * 7 + 2, none⟩ = some (.int .i64 q.hi) := HqC.out wr Hb2.out 2 _ rfl
          have x3 : wr.cell? ⟨b, off + k * 7 + 3, none⟩ = some (.int .i64 q.rise) := HqC.out wr Hb2.out 3 _ rfl
          have x4 : wr.cell? ⟨b, off + k * 7 + 4, none⟩ = some (.int .i64 q.fall) := HqC.out wr Hb2.out 4 _ rfl
          have x5 : wr.cell? ⟨b, off + k * 7 + 5, none⟩ = some (.int .i64 q.bad) := HqC.out wr Hb2.out 5 _ rfl
          have x6 : wr.cell? ⟨b, off + k * 7 + 6, none⟩ = some (.slice q.gA q.gs.length q.gc) := HqC.out wr Hb2.out 6 _ rfl
          go_wp2_with (go_at_call 18; fail)
          refine HCq.out.mono ?_
          rintro e w5 ⟨rfl, hb5⟩
          cases hqz : (qe != 0)
          · have hq0 : qe = 0 := by simpa using hqz
            have HF2 := Lib.hid (show firstErr (qErrAt p.qs) (k + 1) = 0 by rw [firstErr_succ Hf.out, HE3.out, hq0])
            clear hq0
            go_wp2
            go_roundw
            case rel => exact ⟨k + 1, by omega, by go_num, HF2, Lib.hid (HbT.out.trans (hb5.mono (by omega)))⟩
            case measure => simp [intOf]; omega
          · have He := Lib.hid (HEnd.out qe HE3.out (by simpa using hqz))
            go_wp2
            go_ret
            exact ⟨ret_int He.out, (HU.out wr HbT.out).trans (hb5.mono (by omega))⟩
    · obtain rfl : i = p.qs.length := by omega
      have HQz := Lib.hid (show qsErr p.qs = 0 by rw [HQe.out]; exact Hf.out)
      by_cases h16m : p.ms.length ≤ 16
      rotate_left
      · have He := Lib.hid (show pe = 3 by
          have hm3 : msErr p.ms = 3 := by simp [msErr, h16m]
          rw [HPe.out, HQz.out, hm3]; rfl)
        go_wp2
        go_ret
        exact ⟨ret_int He.out.symm, HU.out wr Hb.out⟩
      have HMe := Lib.hid (show msErr p.ms = firstErr (mErrAt p.ms) p.ms.length from by simp [msErr, h16m])
      go_wp2
      clear q0 q1 q2
      go_loopw [6] (fun v wm => ∃ j : Nat, j ≤ p.ms.length ∧ v = .int .i64 j ∧ Hid (firstErr (mErrAt p.ms) j = 0) ∧ Hid (Below W0.heap.size W0 wm)) (fun v _ => p.ms.length - (intOf v).toNat)
      case atStart => exact ⟨0, by omega, rfl, Lib.hid rfl, Hb⟩
      case round =>
        obtain ⟨j, hj, rfl, Hfm, Hbm⟩ := hrel
        have hszm := Hbm.out.size
        have hwm : w.heap.size < wr.heap.size := by omega
        obtain ⟨q0, q1, q2⟩ := HQ0.out wr Hbm.out
        by_cases hlm : j < p.ms.length
        · have HMl := Lib.hid (HMs.out wr Hbm.out)
          obtain ⟨b, off, rfl, hbB, hcells⟩ := HMl.out (by omega)
          have hbr : b < wr.heap.size := by omega
          have HSl := Lib.hid (fun (e : Later wr) => ((HMl.out.mono (Nat.le_of_lt hwm)).take j).below e.b)
          have hmn := hmnm.out p.ms[j] (List.getElem_mem hlm)
          have HE1 := Lib.hid (mErrAt_one p.ms j hlm)
          have c0 := hcells j hlm 0 _ rfl
          have c1 := hcells j hlm 1 _ rfl
          have c2 := hcells j hlm 2 _ rfl
          have c3 := hcells j hlm 3 _ rfl
          have c4 := hcells j hlm 4 _ rfl
          obtain ⟨m, hm⟩ : ∃ m, m = p.ms[j] := ⟨_, rfl⟩
          rw [← hm] at c0 c1 c2 c3 c4 hmn HE1
          have x0 := later_cell (show wr.cell? ⟨b, off + j * 5, none⟩ = some (.string m.name) from c0) hbr
          have x1 := later_cell c1 hbr
          have x2 := later_cell c2 hbr
          have x3 := later_cell c3 hbr
          have x4 := later_cell c4 hbr
          have y1 := later_cell q1 hwm
          clear hm hcells c0 c1 c2 c3 c4
          have HCm := Lib.hid (fun (e : Later wr) => refCheckMeasure_any m (p.ms.take j) (some ⟨b, off, none⟩) p.mc wr.heap.size j (by simp; omega) e.w hmn (HSl.out e) e.b.size (by simp; omega))
          have HEnd := Lib.hid (fun (e : Int) (h : mErrAt p.ms j = e) (h0 : e ≠ 0) => show e = pe by
            have h1 : msErr p.ms = e := by rw [HMe.out, firstErr_at Hfm.out (by rw [h]; exact h0) hlm, h]
            rw [HPe.out, HQz.out, if_pos rfl, h1, if_neg h0])
          obtain ⟨me, hme⟩ : ∃ me, me = mErr1 m (p.ms.take j) := ⟨_, rfl⟩
          rw [← hme] at HCm HE1
          have hjI : (j : Int) < (p.ms.length : Int) := by omega
          have hjc : (j : Int) ≤ (p.mc : Int) := by omega
          clear hme
          go_upto_region 21 with fail
          refine wp_region_later (by kernel_rfl) (by kernel_rfl) ?_
          repeat (any_goals (first | go_big_quiet_step ((go_at_call 38; exact later_call _ (HCm.out _))) | quiet_step ((go_at_call 38; exact later_call _ (HCm.out _)))))
          refine wpQuiet_nil ?_
          rintro w' ⟨e, rfl⟩
          have Hbe := Lib.hid (Hbm.out.trans (e.b.mono (by omega)))
          cases hmz : (me != 0)
          · have hm0 : me = 0 := by simpa using hmz
            have HF2 := Lib.hid (show firstErr (mErrAt p.ms) (j + 1) = 0 by rw [firstErr_succ Hfm.out, HE1.out, hm0])
            clear hm0
            go_wp2
            go_roundw
            case rel => exact ⟨j + 1, by omega, by go_num, HF2, Hbe⟩
            case measure => simp [intOf]; omega
          · have He := Lib.hid (HEnd.out me HE1.out (by simpa using hmz))
            go_wp2
            go_ret
            exact ⟨ret_int He.out, HU.out _ Hbe.out⟩
        · obtain rfl : j = p.ms.length := by omega
          have HMz := Lib.hid (show msErr p.ms = 0 by rw [HMe.out]; exact Hfm.out)
          by_cases h16a : p.al.length ≤ 16
          rotate_left
          · have He := Lib.hid (show pe = 3 by rw [HPe.out, HQz.out, HMz.out, if_pos rfl, if_pos rfl, if_neg h16a])
            go_wp2
            go_ret
            exact ⟨ret_int He.out.symm, HU.out wr Hbm.out⟩
          have HAe := Lib.hid (show pe = firstErr (aErrAt p) p.al.length by rw [HPe.out, HQz.out, HMz.out, if_pos rfl, if_pos rfl, if_pos h16a])
          go_wp2
          clear q0 q1 q2
          go_loopw [8] (fun v wa => ∃ j : Nat, j ≤ p.al.length ∧ v = .int .i64 j ∧ Hid (firstErr (aErrAt p) j = 0) ∧ Hid (Below W0.heap.size W0 wa)) (fun v _ => p.al.length - (intOf v).toNat)
          case atStart => exact ⟨0, by omega, rfl, Lib.hid rfl, Hbm⟩
          case round =>
            obtain ⟨j, hj2, rfl, Hfa, Hba⟩ := hrel
            have hsza := Hba.out.size
            obtain ⟨q0, q1, q2⟩ := HQ0.out wr Hba.out
            by_cases hla : j < p.al.length
            · have HCx := Lib.hid (HCa.out wr Hba.out j hla (by omega))
              have HEnd := Lib.hid (fun (e : Int) (h : aErrAt p j = e) (h0 : e ≠ 0) => show e = pe by
                rw [HAe.out, firstErr_at Hfa.out (by rw [h]; exact h0) hla, h])
              obtain ⟨ae, hae⟩ : ∃ ae, ae = aErrAt p j := ⟨_, rfl⟩
              have Hae := Lib.hid hae
              rw [← hae] at HCx
              clear hae
              go_wp2_with (go_at_call 18; fail)
              refine HCx.out.mono ?_
              rintro e w5 ⟨rfl, hb5⟩
              cases haz : (ae != 0)
              · have ha0 : ae = 0 := by simpa using haz
                have HF2 := Lib.hid (show firstErr (aErrAt p) (j + 1) = 0 by rw [firstErr_succ Hfa.out, ← Hae.out, ha0])
                clear ha0
                go_wp2
                go_roundw
                case rel => exact ⟨j + 1, by omega, by go_num, HF2, Lib.hid (Hba.out.trans (hb5.mono (by omega)))⟩
                case measure => simp [intOf]; omega
              · have He := Lib.hid (HEnd.out ae Hae.out.symm (by simpa using haz))
                go_wp2
                go_ret
                exact ⟨ret_int He.out, (HU.out wr Hba.out).trans (hb5.mono (by omega))⟩
            · obtain rfl : j = p.al.length := by omega
              have He := Lib.hid (show pe = 0 by rw [HAe.out]; exact Hfa.out)
              go_wp2
              go_ret
              exact ⟨ret_int He.out.symm, HU.out wr Hba.out⟩
end Go.Proofs.YtcgnpndfhhcplaaGreatDoor
