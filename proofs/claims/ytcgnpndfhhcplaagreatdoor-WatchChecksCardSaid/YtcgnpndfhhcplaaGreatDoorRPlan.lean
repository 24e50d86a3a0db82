/-
  The specification's checkAlarm and Check: the first error of a plan. Conditions: how the plan lies in memory.
-/
import Derived.Test.YtcgnpndfhhcplaaGreatDoorRMeas
import Derived.Test.YtcgnpndfhhcplaaGreatDoorRegion
import Derived.Test.YtcgnpndfhhcplaaGreatDoorGood
import Derived.Deep.CutRange
namespace Go.Proofs.YtcgnpndfhhcplaaGreatDoor
open Go.RowKit W7
set_option maxHeartbeats 2000000 in
set_option maxRecDepth 100000 in
theorem refCheckAlarm_any (p : Plan) (i : Nat) (B : Nat) (w : World) (hp : PIn w B p) (hB : B ≤ w.heap.size) (hi : i < p.al.length) (hi2 : i ≤ 1000) :
    Calls Tryz.prog 39 #[.agg #[.slice p.qA p.qs.length p.qc, .slice p.mA p.ms.length p.mc, .slice p.aA p.al.length p.ac], .int .i64 i] w fun e w' => e = .returned (.int .i64 (aErrAt p i)) ∧ Below w.heap.size w w' := by
  have hsl := hp.asl
  have hql := hp.qlc
  have hqc := hp.qc2
  have hml := hp.mlc
  have hmc := hp.mc2
  obtain ⟨AA, hAA⟩ : ∃ AA, p.aA = AA := ⟨_, rfl⟩
  rw [hAA] at hsl ⊢
  clear hAA hp
  obtain ⟨b, off, rfl, hbB, hcells⟩ := hsl (by omega)
  have hbw : b < w.heap.size := by omega
  have V1 := Lib.hid (@aErr_v1 p i hi)
  have V2 := Lib.hid (@aErr_v2 p i hi)
  have V3 := Lib.hid (@aErr_v3 p i hi)
  have V4 := Lib.hid (@aErr_v4 p i hi)
  obtain ⟨a, ha⟩ : ∃ a, a = p.al[i] := ⟨_, rfl⟩
  rw [← ha] at V1 V2 V3 V4
  have HCl := Lib.hid (show ∀ (X : World), Below w.heap.size w X → ∀ k (h : k < p.al.length) j v, (encA p.al[k])[j]? = some v → X.cell? ⟨b, off + k * 4 + j, none⟩ = some v from fun X hX k h j v hv => (hX.cell (p := ⟨b, off + k * 4 + j, none⟩) hbw).trans (hcells k h j v hv))
  obtain ⟨W0, hW0⟩ : ∃ W0, W0 = w.alloc (.cells #[.slice p.qA p.qs.length p.qc, .slice p.mA p.ms.length p.mc, .slice (some ⟨b, off, none⟩) p.al.length p.ac] 26) := ⟨_, rfl⟩
  obtain ⟨W1, hW1⟩ : ∃ W1, W1 = W0.alloc (.cells #[.int .i64 a.q, .int .i64 a.level, .int .i64 a.limit, .int .i64 a.m] 75) := ⟨_, rfl⟩
  have HB0 := Lib.hid (show Below w.heap.size w W0 by rw [hW0]; exact (Below.refl _ _).alloc (Nat.le_refl _) _)
  have hs0 : W0.heap.size = w.heap.size + 1 := by rw [hW0]; simp
  have HB1 := Lib.hid (show Below w.heap.size w W1 by rw [hW1]; exact HB0.out.alloc (by omega) _)
  have hs1 : W1.heap.size = W0.heap.size + 1 := by rw [hW1]; simp
  have HP0 := Lib.hid (show ∀ j v, (#[.slice p.qA p.qs.length p.qc, .slice p.mA p.ms.length p.mc, .slice (some ⟨b, off, none⟩) p.al.length p.ac] : Array Value)[j]? = some v → W0.cell? ⟨w.heap.size, j, none⟩ = some v from fun j v hv => by rw [hW0]; exact alloc_cell hv)
  have HP1 := Lib.hid (show ∀ (X : World), Below W1.heap.size W1 X → ∀ j v, (#[.slice p.qA p.qs.length p.qc, .slice p.mA p.ms.length p.mc, .slice (some ⟨b, off, none⟩) p.al.length p.ac] : Array Value)[j]? = some v → X.cell? ⟨w.heap.size, j, none⟩ = some v from fun X hX j v hv =>
    (hX.cell (p := ⟨w.heap.size, j, none⟩) (by simp; omega)).trans (by rw [hW1, World.cell?_alloc_lt _ _ _ (by simp; omega)]; exact HP0.out j v hv))
  have HA1 := Lib.hid (show ∀ (X : World), Below W1.heap.size W1 X → ∀ j v, (#[.int .i64 a.q, .int .i64 a.level, .int .i64 a.limit, .int .i64 a.m] : Array Value)[j]? = some v → X.cell? ⟨W0.heap.size, j, none⟩ = some v from fun X hX j v hv =>
    (hX.cell (p := ⟨W0.heap.size, j, none⟩) (by simp; omega)).trans (by rw [hW1]; exact alloc_cell hv))
  have z0 : W0.cell? ⟨b, off + i * 4, none⟩ = some (.int .i64 a.q) := by rw [ha]; exact HCl.out W0 HB0.out i hi 0 _ rfl
  have z1 : W0.cell? ⟨b, off + i * 4 + 1, none⟩ = some (.int .i64 a.level) := by rw [ha]; exact HCl.out W0 HB0.out i hi 1 _ rfl
  have z2 : W0.cell? ⟨b, off + i * 4 + 2, none⟩ = some (.int .i64 a.limit) := by rw [ha]; exact HCl.out W0 HB0.out i hi 2 _ rfl
  have z3 : W0.cell? ⟨b, off + i * 4 + 3, none⟩ = some (.int .i64 a.m) := by rw [ha]; exact HCl.out W0 HB0.out i hi 3 _ rfl
  have zp : W0.cell? ⟨w.heap.size, 2, none⟩ = some (.slice (some ⟨b, off, none⟩) p.al.length p.ac) := HP0.out 2 _ rfl
  have hiI : (i : Int) < (p.al.length : Int) := by omega
  have hsA : w.heap.size < W0.heap.size := by omega
  have hsB : W0.heap.size < W1.heap.size := by omega
  obtain ⟨er, her⟩ : ∃ er, er = aErrAt p i := ⟨_, rfl⟩
  rw [← her] at V1 V2 V3 V4 ⊢
  have HW0 := Lib.hid hW0
  have HW1 := Lib.hid hW1
  clear hW0 hW1 ha hcells hs1 hs0 hsl her
  go_enter Tryz.func39, Tryz.ntmps39
  go_upto_region 1 with fail
  rw [← HW0.out]
  go_upto_region 2 with fail
  rw [← HW1.out]
  clear z0 z1 z2 z3 zp
  have p0 : W1.cell? ⟨w.heap.size, 0, none⟩ = some (.slice p.qA p.qs.length p.qc) := HP1.out W1 (Below.refl _ _) 0 _ rfl
  have p1 : W1.cell? ⟨w.heap.size, 1, none⟩ = some (.slice p.mA p.ms.length p.mc) := HP1.out W1 (Below.refl _ _) 1 _ rfl
  have a0 : W1.cell? ⟨W0.heap.size, 0, none⟩ = some (.int .i64 a.q) := HA1.out W1 (Below.refl _ _) 0 _ rfl
  have a1 : W1.cell? ⟨W0.heap.size, 1, none⟩ = some (.int .i64 a.level) := HA1.out W1 (Below.refl _ _) 1 _ rfl
  have a2 : W1.cell? ⟨W0.heap.size, 2, none⟩ = some (.int .i64 a.limit) := HA1.out W1 (Below.refl _ _) 2 _ rfl
  have a3 : W1.cell? ⟨W0.heap.size, 3, none⟩ = some (.int .i64 a.m) := HA1.out W1 (Below.refl _ _) 3 _ rfl
  have HWi := Lib.hid (show (withinB a.q 0 ((p.qs.length : Int) - 1) && withinB a.m 0 ((p.ms.length : Int) - 1)) = (!decide (a.q < 0) && !decide ((p.qs.length : Int) ≤ a.q) && (!decide (a.m < 0) && !decide ((p.ms.length : Int) ≤ a.m))) by
    rw [Bool.eq_iff_iff]
    simp only [Bool.and_eq_true, withinB_true, Bool.not_eq_true', decide_eq_false_iff_not]
    omega)
  cases t1 : decide (a.q < 0)
  rotate_left
  · have He := Lib.hid (V1.out (by rw [HWi.out, t1]; rfl))
    go_wp2
    go_ret
    exact ⟨ret_int He.out.symm, HB1.out⟩
  cases t2 : decide ((p.qs.length : Int) ≤ a.q)
  rotate_left
  · have He := Lib.hid (V1.out (by rw [HWi.out, t1, t2]; rfl))
    go_wp2
    go_ret
    exact ⟨ret_int He.out.symm, HB1.out⟩
  cases t3 : decide (a.m < 0)
  rotate_left
  · have He := Lib.hid (V1.out (by rw [HWi.out, t1, t2, t3]; rfl))
    go_wp2
    go_ret
    exact ⟨ret_int He.out.symm, HB1.out⟩
  cases t4 : decide ((p.ms.length : Int) ≤ a.m)
  rotate_left
  · have He := Lib.hid (V1.out (by rw [HWi.out, t1, t2, t3, t4]; rfl))
    go_wp2
    go_ret
    exact ⟨ret_int He.out.symm, HB1.out⟩
  have hwi : (withinB a.q 0 ((p.qs.length : Int) - 1) && withinB a.m 0 ((p.ms.length : Int) - 1)) = true := by rw [HWi.out, t1, t2, t3, t4]; rfl
  have HVl := Lib.hid (refValue_any a.level)
  have HVi := Lib.hid (refValue_any a.limit)
  go_wp2_with (go_at_call 18; fail)
  cases v1e : isVal a.level
  · have He := Lib.hid (V2.out hwi (by rw [v1e]; rfl))
    rw [v1e] at HVl
    refine (HVl.out _).mono ?_
    rintro e w3 ⟨rfl, rfl⟩
    go_wp2
    go_ret
    exact ⟨ret_int He.out.symm, HB1.out⟩
  rw [v1e] at HVl
  refine (HVl.out _).mono ?_
  rintro e w3 ⟨rfl, rfl⟩
  go_wp2_with (go_at_call 18; fail)
  cases v2e : isVal a.limit
  · have He := Lib.hid (V2.out hwi (by rw [v1e, v2e]; rfl))
    rw [v2e] at HVi
    refine (HVi.out _).mono ?_
    rintro e w3 ⟨rfl, rfl⟩
    go_wp2
    go_ret
    exact ⟨ret_int He.out.symm, HB1.out⟩
  rw [v2e] at HVi
  refine (HVi.out _).mono ?_
  rintro e w3 ⟨rfl, rfl⟩
  have hvi : (isVal a.level && isVal a.limit) = true := by rw [v1e, v2e]; rfl
  clear v1e v2e t1 t2 t3 t4 p0 p1 a0 a1 a2 a3
  go_wp2
  go_loopw [6] (fun v wr => ∃ k : Nat, k ≤ i ∧ v = .int .i64 k ∧ Hid ((p.al.take k).any (fun x => x.m == a.m) = false) ∧ Hid (Below W1.heap.size W1 wr)) (fun v _ => i - (intOf v).toNat)
  case atStart => exact ⟨0, by omega, rfl, Lib.hid (by simp), Lib.hid (Below.refl _ _)⟩
  case round =>
    obtain ⟨k, hk, rfl, Hno, Hb⟩ := hrel
    have hsz := Hb.out.size
    have p2 : wr.cell? ⟨w.heap.size, 2, none⟩ = some (.slice (some ⟨b, off, none⟩) p.al.length p.ac) := HP1.out wr Hb.out 2 _ rfl
    have a3 : wr.cell? ⟨W0.heap.size, 3, none⟩ = some (.int .i64 a.m) := HA1.out wr Hb.out 3 _ rfl
    have Hbw := Lib.hid (HB1.out.trans (Hb.out.mono (by omega)))
    by_cases hlt : k < i
    · have hkl : k < p.al.length := by omega
      have hkI : (k : Int) < (p.al.length : Int) := by omega
      have c3 : wr.cell? ⟨b, off + k * 4 + 3, none⟩ = some (.int .i64 p.al[k].m) := HCl.out wr Hbw.out k hkl 3 _ rfl
      have HN := Lib.hid (any_not (P := fun x : Alarm => x.m == a.m) hkl Hno.out)
      have HH : Hid ((p.al[k].m == a.m) = true → (p.al.take i).any (fun x => x.m == a.m) = true) := Lib.hid fun h => List.any_eq_true.2 ⟨p.al[k], List.mem_take_iff_getElem.2 ⟨k, by omega, rfl⟩, h⟩
      obtain ⟨x, hx⟩ : ∃ x, x = p.al[k] := ⟨_, rfl⟩
      rw [← hx] at c3 HN HH
      clear hx
      cases he : (x.m == a.m)
      · have HN2 := Lib.hid (HN.out he)
        go_wp2
        go_quiet (fail)
        go_wp2
        go_roundw
        case rel => exact ⟨k + 1, by omega, by go_num, HN2, Lib.hid (below_drewN Hb.out _)⟩
        case measure => simp [intOf]; omega
      · have He := Lib.hid (V3.out hwi hvi (HH.out he))
        have HbD := Lib.hid (fun n => below_drewN Hbw.out n)
        go_wp2
        go_quiet (fail)
        go_wp2
        go_ret
        exact ⟨ret_int He.out.symm, HbD.out _⟩
    · obtain rfl : k = i := by omega
      have He := Lib.hid (V4.out hwi hvi Hno.out)
      go_wp2
      go_ret
      exact ⟨ret_int He.out.symm, Hbw.out⟩
end Go.Proofs.YtcgnpndfhhcplaaGreatDoor
