/-
  The specification's small functions: value, timed, checkGauge, worst, meet, empty, from. Conditions: bounds.
  The specification's Name says of every string what package watch's isName says. Condition: the string's size is an int.
  The specification's CheckQuantity says of every quantity what package watch's checks say. Conditions: how the quantity lies in memory.
  The specification's checkReading and checkReadings say what package watch's say. Conditions: how the arguments lie in memory.
-/
import Derived.Test.YtcgnpndfhhcplaaGreatDoorLeaf
import Derived.Test.YtcgnpndfhhcplaaGreatDoorMath
import Derived.BigGuardPart
import Derived.Test.YtcgnpndfhhcplaaGreatDoorChkQ
import Derived.Test.YtcgnpndfhhcplaaGreatDoorGood
import Derived.Test.YtcgnpndfhhcplaaGreatDoorRegion
namespace Go.Proofs.YtcgnpndfhhcplaaGreatDoor
open Go.RowKit W7
theorem refValue_any (n : Int) (w : World) : Calls Tryz.prog 74 #[.int .i64 n] w fun e w' => e = .returned (.bool (isVal n)) ∧ w = w' := by
  cases h1 : decide ((-1000000000 : Int) ≤ n) <;> cases h2 : decide (n ≤ (1000000000 : Int))
  all_goals
    have HR := Lib.hid (show isVal n = (decide ((-1000000000 : Int) ≤ n) && decide (n ≤ (1000000000 : Int))) from rfl)
    rw [h1, h2] at HR
    go_enter Tryz.func74, Tryz.ntmps74
    go_wp2
    go_ret
    exact ⟨by rw [HR.out]; rfl, rfl⟩
theorem refTimed_any (n : Int) (w : World) : Calls Tryz.prog 50 #[.int .i64 n] w fun e w' => e = .returned (.bool (isTm n)) ∧ w = w' := by
  cases h1 : decide ((0 : Int) ≤ n) <;> cases h2 : decide (n ≤ (100000 : Int))
  all_goals
    have HR := Lib.hid (show isTm n = (decide ((0 : Int) ≤ n) && decide (n ≤ (100000 : Int))) from rfl)
    rw [h1, h2] at HR
    go_enter Tryz.func50, Tryz.ntmps50
    go_wp2
    go_ret
    exact ⟨by rw [HR.out]; rfl, rfl⟩
theorem refCheckGauge_any (g : Gauge) (w : World) :
    Calls Tryz.prog 49 #[.agg #[.string g.name, .int .i64 g.acc, .int .i64 g.drift, .int .i64 g.since]] w fun e w' => e = .returned (.int .i64 (if gaugeB g then 0 else 1)) ∧ Below w.heap.size w w' := by
  obtain ⟨gv, hgv⟩ : ∃ gv : Int, gv = (if gaugeB g then 0 else 1) := ⟨_, rfl⟩
  rw [← hgv]
  have HV := Lib.hid hgv
  clear hgv
  have HG := Lib.hid (show gaugeB g = (withinB g.acc 0 1000000000 && withinB g.drift 0 1000000000 && isTm g.since) from rfl)
  cases h1 : decide (g.acc < 0)
  rotate_left
  · have HR := Lib.hid (show gaugeB g = false from by rw [HG.out]; simp [withinB] at h1 ⊢; omega)
    go_enter Tryz.func49, Tryz.ntmps49
    go_wp2
    go_ret
    exact ⟨ret_int (by rw [HV.out, HR.out]; rfl), (by (repeat (refine Below.alloc ?_ (by first | exact Nat.le_refl _ | omega | (simp; done) | (simp; omega)) _)); exact Below.refl _ _)⟩
  cases h2 : decide ((1000000000 : Int) < g.acc)
  rotate_left
  · have HR := Lib.hid (show gaugeB g = false from by rw [HG.out]; simp [withinB] at h2 ⊢; omega)
    go_enter Tryz.func49, Tryz.ntmps49
    go_wp2
    go_ret
    exact ⟨ret_int (by rw [HV.out, HR.out]; rfl), (by (repeat (refine Below.alloc ?_ (by first | exact Nat.le_refl _ | omega | (simp; done) | (simp; omega)) _)); exact Below.refl _ _)⟩
  cases h3 : decide (g.drift < 0)
  rotate_left
  · have HR := Lib.hid (show gaugeB g = false from by rw [HG.out]; simp [withinB] at h3 ⊢; omega)
    go_enter Tryz.func49, Tryz.ntmps49
    go_wp2
    go_ret
    exact ⟨ret_int (by rw [HV.out, HR.out]; rfl), (by (repeat (refine Below.alloc ?_ (by first | exact Nat.le_refl _ | omega | (simp; done) | (simp; omega)) _)); exact Below.refl _ _)⟩
  cases h4 : decide ((1000000000 : Int) < g.drift)
  rotate_left
  · have HR := Lib.hid (show gaugeB g = false from by rw [HG.out]; simp [withinB] at h4 ⊢; omega)
    go_enter Tryz.func49, Tryz.ntmps49
    go_wp2
    go_ret
    exact ⟨ret_int (by rw [HV.out, HR.out]; rfl), (by (repeat (refine Below.alloc ?_ (by first | exact Nat.le_refl _ | omega | (simp; done) | (simp; omega)) _)); exact Below.refl _ _)⟩
  have HR := Lib.hid (show gaugeB g = isTm g.since from by rw [HG.out]; simp [withinB] at h1 h2 h3 h4 ⊢; intro _; omega)
  cases h5 : isTm g.since
  · rw [h5] at HR
    go_enter Tryz.func49, Tryz.ntmps49
    go_wp2_with (go_at_call 50; refine (refTimed_any _ _).mono ?_; rintro e w' ⟨rfl, rfl⟩)
    go_ret
    exact ⟨ret_int (by rw [HV.out, HR.out]; rfl), (by (repeat (refine Below.alloc ?_ (by first | exact Nat.le_refl _ | omega | (simp; done) | (simp; omega)) _)); exact Below.refl _ _)⟩
  · rw [h5] at HR
    go_enter Tryz.func49, Tryz.ntmps49
    go_wp2_with (go_at_call 50; refine (refTimed_any _ _).mono ?_; rintro e w' ⟨rfl, rfl⟩)
    go_ret
    exact ⟨ret_int (by rw [HV.out, HR.out]; rfl), (by (repeat (refine Below.alloc ?_ (by first | exact Nat.le_refl _ | omega | (simp; done) | (simp; omega)) _)); exact Below.refl _ _)⟩
theorem refWorst_any (g : Gauge) (t : Int) (w : World) (ha : 0 ≤ g.acc) (ha2 : g.acc ≤ 1000000000) (hd : 0 ≤ g.drift) (hd2 : g.drift ≤ 1000000000) (hs : 0 ≤ g.since) (hs2 : g.since ≤ 100000) (ht : 0 ≤ t) (ht2 : t ≤ 100000) :
    Calls Tryz.prog 51 #[.agg #[.string g.name, .int .i64 g.acc, .int .i64 g.drift, .int .i64 g.since], .int .i64 t] w fun e w' => e = .returned (.int .i64 (devi g t)) ∧ Below w.heap.size w w' := by
  have hmx := max_run Tryz.prog
  obtain ⟨m, hm⟩ : ∃ m, m = max (t - g.since) 0 := ⟨_, rfl⟩
  have hm0 : 0 ≤ m ∧ m ≤ 100000 := by omega
  have hq : (m + 999).tdiv 1000 = (m + 999) / 1000 := Int.tdiv_eq_ediv_of_nonneg (by omega)
  obtain ⟨Q, hQ⟩ : ∃ Q, Q = (m + 999) / 1000 := ⟨_, rfl⟩
  have b0 : 0 ≤ Q ∧ Q ≤ 101 := by omega
  have b2 : 0 ≤ g.drift * Q := Int.mul_nonneg hd b0.1
  have b3 : g.drift * Q ≤ g.drift * 101 := Int.mul_le_mul_of_nonneg_left b0.2 hd
  have HD := Lib.hid (show devi g t = g.acc + g.drift * Q by
    rw [hQ]
    unfold devi
    split
    · rw [show m = 0 by omega]; simp
    · rw [show m = t - g.since by omega, Int.mul_comm])
  rw [← hQ] at hq
  have r1 : IntKind.i64.wrap (t - g.since) = t - g.since := IntWalk.i64_in _ (by omega)
  have r2 : IntKind.i64.wrap (m + 999) = m + 999 := IntWalk.i64_in _ (by omega)
  have r5 : IntKind.i64.wrap Q = Q := IntWalk.i64_in _ (by omega)
  have r3 : IntKind.i64.wrap (g.drift * Q) = g.drift * Q := IntWalk.i64_in _ (by omega)
  have r4 : IntKind.i64.wrap (g.acc + g.drift * Q) = g.acc + g.drift * Q := IntWalk.i64_in _ (by omega)
  have hm' : max (t - g.since) 0 = m := hm.symm
  clear hm hQ
  go_enter Tryz.func51, Tryz.ntmps51
  go_wp2
  go_ret
  exact ⟨ret_int HD.out.symm, (by (repeat (refine Below.alloc ?_ (by first | exact Nat.le_refl _ | omega | (simp; done) | (simp; omega)) _)); exact Below.refl _ _)⟩
end Go.Proofs.YtcgnpndfhhcplaaGreatDoor
namespace Go.Proofs.YtcgnpndfhhcplaaGreatDoor
open Go.RowKit W7
set_option maxHeartbeats 1000000 in
theorem refName_any (s : ByteArray) (hs : s.size ≤ maxLen) (w : World) :
    Calls Tryz.prog 36 #[.string s] w fun e w' => e = .returned (.bool (nameB s)) ∧ w = w' := by
  unfold maxLen at hs
  by_cases h0 : s.size = 0
  · have he : ((s.size : Int) == 0) = true := by rw [h0]; rfl
    have HN := Lib.hid (nameB_empty s h0)
    clear h0
    go_enter Tryz.func36, Tryz.ntmps36
    go_wp2
    go_ret
    exact ⟨by rw [HN.out]; rfl, rfl⟩
  have he : ((s.size : Int) == 0) = false := by simp; exact fun h => h0 (by simpa using h)
  have h0' : 0 < s.size := by omega
  clear h0
  by_cases h16 : 16 < s.size
  · have HN := Lib.hid (nameB_long s h16)
    have h16b : decide ((16 : Int) < (s.size : Int)) = true := by simp; omega
    go_enter Tryz.func36, Tryz.ntmps36
    go_wp2
    go_ret
    exact ⟨by rw [HN.out]; rfl, rfl⟩
  have hd2 : decide ((16 : Int) < (s.size : Int)) = false := by simp; omega
  by_cases hf1 : ((s[0]'(by omega)).toNat : Int) < 97
  · have HN := Lib.hid (nameB_first s h0' (by simp [okFirst]; omega))
    have hd : decide (((s[0]'(by omega)).toNat : Int) < 97) = true := by simpa using hf1
    go_enter Tryz.func36, Tryz.ntmps36
    go_wp2
    go_ret
    exact ⟨by rw [HN.out]; rfl, rfl⟩
  by_cases hf2 : (122 : Int) < ((s[0]'(by omega)).toNat : Int)
  · have HN := Lib.hid (nameB_first s h0' (by simp [okFirst]; omega))
    have hd0 : decide (((s[0]'(by omega)).toNat : Int) < 97) = false := by simpa using hf1
    have hd : decide ((122 : Int) < ((s[0]'(by omega)).toNat : Int)) = true := by simpa using hf2
    go_enter Tryz.func36, Tryz.ntmps36
    go_wp2
    go_ret
    exact ⟨by rw [HN.out]; rfl, rfl⟩
  have hd0 : decide (((s[0]'(by omega)).toNat : Int) < 97) = false := by simpa using hf1
  have hd1 : decide ((122 : Int) < ((s[0]'(by omega)).toNat : Int)) = false := by simpa using hf2
  have HN := Lib.hid (nameB_all s h0' (by omega) (by simp [okFirst]; omega))
  go_enter Tryz.func36, Tryz.ntmps36
  go_wp2
  go_loop [3] (fun i => ∃ k : Nat, k ≤ s.size ∧ i = .int .i64 k ∧ Hid ((s.data.toList.take k).all okc = true)) (fun i => s.size - (intOf i).toNat)
  case atStart => exact ⟨0, by omega, rfl, Lib.hid rfl⟩
  case round =>
    obtain ⟨k, hk, rfl, Hall⟩ := hrel
    by_cases hlt : k < s.size
    · have HT := Lib.hid (all_take_succ s k hlt)
      have HF := Lib.hid (all_of_take s k hlt)
      by_cases h45 : (s[k].toNat : Int) = 45
      · have h45b : ((s[k].toNat : Int) == 45) = true := beq_iff_eq.2 h45
        have H45 := Lib.hid h45
        clear h45
        go_wp2
        all_goals
          go_round
          case rel => exact ⟨k + 1, by omega, by go_num, Lib.hid (by rw [HT.out, Hall.out, okc_true_3 _ H45.out]; rfl)⟩
          case measure => simp [intOf]; omega
      · have h45b : ((s[k].toNat : Int) == 45) = false := beq_eq_false_iff_ne.2 h45
        have H45 := Lib.hid h45
        clear h45
        go_wp2
        all_goals first
          | (go_ret; exact ⟨by rw [HN.out, HF.out (okc_false _ (by omega) (by omega) H45.out)]; rfl, rfl⟩)
          | (go_round
             case rel => exact ⟨k + 1, by omega, by go_num, Lib.hid (by rw [HT.out, Hall.out]; first | (rw [okc_true_1 _ (by omega) (by omega)]; rfl) | (rw [okc_true_2 _ (by omega) (by omega)]; rfl))⟩
             case measure => simp [intOf]; omega)
    · obtain rfl : k = s.size := by omega
      have HA := Lib.hid (show s.data.toList.all okc = true by rw [← Hall.out, List.take_of_length_le]; exact Nat.le_of_eq Array.length_toList)
      go_wp2
      go_ret
      exact ⟨by rw [HN.out, HA.out]; rfl, rfl⟩
end Go.Proofs.YtcgnpndfhhcplaaGreatDoor
namespace Go.Proofs.YtcgnpndfhhcplaaGreatDoor
open Go.RowKit W7
attribute [local go_sem] Oper.semAt_some
theorem qs_v1 {q : Quantity} (h : nameB q.name = false) : qsErr [q] = 5 := by rw [qsErr_one, h]; rfl
theorem qs_v2 {q : Quantity} (h : nameB q.name = true) (h2 : (isVal q.lo && isVal q.hi && decide (q.lo ≤ q.hi)) = false) : qsErr [q] = 1 := by rw [qsErr_one, h, if_pos rfl, checkQB, h2]; rfl
theorem qs_v3 {q : Quantity} (h : nameB q.name = true) (h2 : (isVal q.lo && isVal q.hi && decide (q.lo ≤ q.hi)) = true) (h3 : (withinB q.rise 0 10000 && withinB q.fall 0 10000) = false) : qsErr [q] = 1 := by
  rw [qsErr_one, h, if_pos rfl, checkQB, h2, if_pos rfl, h3]; rfl
theorem qs_v4 {q : Quantity} (h : nameB q.name = true) (h2 : (isVal q.lo && isVal q.hi && decide (q.lo ≤ q.hi)) = true) (h3 : (withinB q.rise 0 10000 && withinB q.fall 0 10000) = true) (h4 : ¬ q.gs.length ≤ 8) : qsErr [q] = 3 := by
  rw [qsErr_one, h, if_pos rfl, checkQB, h2, if_pos rfl, h3, if_pos rfl, if_neg h4]
theorem qs_v5 {q : Quantity} (h : nameB q.name = true) (h2 : (isVal q.lo && isVal q.hi && decide (q.lo ≤ q.hi)) = true) (h3 : (withinB q.rise 0 10000 && withinB q.fall 0 10000) = true) (h4 : q.gs.length ≤ 8) (h5 : withinB q.bad 0 q.gs.length = false) : qsErr [q] = 1 := by
  rw [qsErr_one, h, if_pos rfl, checkQB, h2, if_pos rfl, h3, if_pos rfl, if_pos h4, h5]; rfl
theorem qs_v6 {q : Quantity} (h : nameB q.name = true) (h2 : (isVal q.lo && isVal q.hi && decide (q.lo ≤ q.hi)) = true) (h3 : (withinB q.rise 0 10000 && withinB q.fall 0 10000) = true) (h4 : q.gs.length ≤ 8) (h5 : withinB q.bad 0 q.gs.length = true) : qsErr [q] = gErr q.gs := by
  rw [qsErr_one, h, if_pos rfl, checkQB, h2, if_pos rfl, h3, if_pos rfl, if_pos h4, h5, if_pos rfl]
set_option maxHeartbeats 1000000 in
set_option maxRecDepth 100000 in
theorem refCheckQ_any (q : Quantity) (B : Nat) (w : World) (hq : QIn w B q) (hB : B ≤ w.heap.size) :
    Calls Tryz.prog 37 #[.agg #[.string q.name, .int .i64 q.lo, .int .i64 q.hi, .int .i64 q.rise, .int .i64 q.fall, .int .i64 q.bad, .slice q.gA q.gs.length q.gc]] w fun e w' => e = .returned (.int .i64 (qsErr [q])) ∧ Below w.heap.size w w' := by
  obtain ⟨ev, hev⟩ : ∃ ev, ev = qsErr [q] := ⟨_, rfl⟩
  rw [← hev]
  have HV := Lib.hid hev
  clear hev
  have Hq := Lib.hid hq
  have hnm := hq.nm
  have hgl := hq.len
  clear hq
  cases h1 : nameB q.name
  · have HE := Lib.hid (HV.out.trans (qs_v1 h1))
    go_enter Tryz.func37, Tryz.ntmps37
    go_wp2_with (first | (go_at_call 36; refine (refName_any q.name (by unfold maxLen; omega) _).mono ?_; rintro e w1 ⟨rfl, rfl⟩))
    go_ret
    exact ⟨ret_int HE.out.symm, (by (repeat (refine Below.alloc ?_ (by first | exact Nat.le_refl _ | omega | (simp; done) | (simp; omega)) _)); exact Below.refl _ _)⟩
  have H1 := Lib.hid h1
  cases h2 : isVal q.lo
  · have HE := Lib.hid (HV.out.trans (qs_v2 h1 (by rw [h2]; rfl)))
    go_enter Tryz.func37, Tryz.ntmps37
    go_wp2_with (first | (go_at_call 36; refine (refName_any q.name (by unfold maxLen; omega) _).mono ?_; rintro e w1 ⟨rfl, rfl⟩) | (go_at_call 74; refine (refValue_any _ _).mono ?_; rintro e w1 ⟨rfl, rfl⟩))
    go_ret
    exact ⟨ret_int HE.out.symm, (by (repeat (refine Below.alloc ?_ (by first | exact Nat.le_refl _ | omega | (simp; done) | (simp; omega)) _)); exact Below.refl _ _)⟩
  cases h3 : isVal q.hi
  · have HE := Lib.hid (HV.out.trans (qs_v2 h1 (by rw [h2, h3]; rfl)))
    go_enter Tryz.func37, Tryz.ntmps37
    go_wp2_with (first | (go_at_call 36; refine (refName_any q.name (by unfold maxLen; omega) _).mono ?_; rintro e w1 ⟨rfl, rfl⟩) | (go_at_call 74; refine (refValue_any _ _).mono ?_; rintro e w1 ⟨rfl, rfl⟩))
    go_ret
    exact ⟨ret_int HE.out.symm, (by (repeat (refine Below.alloc ?_ (by first | exact Nat.le_refl _ | omega | (simp; done) | (simp; omega)) _)); exact Below.refl _ _)⟩
  cases h4 : decide (q.hi < q.lo)
  rotate_left
  · have HE := Lib.hid (HV.out.trans (qs_v2 h1 (by rw [h2, h3]; simp at h4 ⊢; omega)))
    go_enter Tryz.func37, Tryz.ntmps37
    go_wp2_with (first | (go_at_call 36; refine (refName_any q.name (by unfold maxLen; omega) _).mono ?_; rintro e w1 ⟨rfl, rfl⟩) | (go_at_call 74; refine (refValue_any _ _).mono ?_; rintro e w1 ⟨rfl, rfl⟩))
    go_ret
    exact ⟨ret_int HE.out.symm, (by (repeat (refine Below.alloc ?_ (by first | exact Nat.le_refl _ | omega | (simp; done) | (simp; omega)) _)); exact Below.refl _ _)⟩
  have HS2 := Lib.hid (show (isVal q.lo && isVal q.hi && decide (q.lo ≤ q.hi)) = true by rw [h2, h3]; simp at h4 ⊢; omega)
  cases h5 : decide (q.rise < 0)
  rotate_left
  · have HE := Lib.hid (HV.out.trans (qs_v3 h1 HS2.out (by simp [withinB] at h5 ⊢; omega)))
    go_enter Tryz.func37, Tryz.ntmps37
    go_wp2_with (first | (go_at_call 36; refine (refName_any q.name (by unfold maxLen; omega) _).mono ?_; rintro e w1 ⟨rfl, rfl⟩) | (go_at_call 74; refine (refValue_any _ _).mono ?_; rintro e w1 ⟨rfl, rfl⟩))
    go_ret
    exact ⟨ret_int HE.out.symm, (by (repeat (refine Below.alloc ?_ (by first | exact Nat.le_refl _ | omega | (simp; done) | (simp; omega)) _)); exact Below.refl _ _)⟩
  cases h6 : decide ((10000 : Int) < q.rise)
  rotate_left
  · have HE := Lib.hid (HV.out.trans (qs_v3 h1 HS2.out (by simp [withinB] at h6 ⊢; omega)))
    go_enter Tryz.func37, Tryz.ntmps37
    go_wp2_with (first | (go_at_call 36; refine (refName_any q.name (by unfold maxLen; omega) _).mono ?_; rintro e w1 ⟨rfl, rfl⟩) | (go_at_call 74; refine (refValue_any _ _).mono ?_; rintro e w1 ⟨rfl, rfl⟩))
    go_ret
    exact ⟨ret_int HE.out.symm, (by (repeat (refine Below.alloc ?_ (by first | exact Nat.le_refl _ | omega | (simp; done) | (simp; omega)) _)); exact Below.refl _ _)⟩
  cases h7 : decide (q.fall < 0)
  rotate_left
  · have HE := Lib.hid (HV.out.trans (qs_v3 h1 HS2.out (by simp [withinB] at h7 ⊢; omega)))
    go_enter Tryz.func37, Tryz.ntmps37
    go_wp2_with (first | (go_at_call 36; refine (refName_any q.name (by unfold maxLen; omega) _).mono ?_; rintro e w1 ⟨rfl, rfl⟩) | (go_at_call 74; refine (refValue_any _ _).mono ?_; rintro e w1 ⟨rfl, rfl⟩))
    go_ret
    exact ⟨ret_int HE.out.symm, (by (repeat (refine Below.alloc ?_ (by first | exact Nat.le_refl _ | omega | (simp; done) | (simp; omega)) _)); exact Below.refl _ _)⟩
  cases h8 : decide ((10000 : Int) < q.fall)
  rotate_left
  · have HE := Lib.hid (HV.out.trans (qs_v3 h1 HS2.out (by simp [withinB] at h8 ⊢; omega)))
    go_enter Tryz.func37, Tryz.ntmps37
    go_wp2_with (first | (go_at_call 36; refine (refName_any q.name (by unfold maxLen; omega) _).mono ?_; rintro e w1 ⟨rfl, rfl⟩) | (go_at_call 74; refine (refValue_any _ _).mono ?_; rintro e w1 ⟨rfl, rfl⟩))
    go_ret
    exact ⟨ret_int HE.out.symm, (by (repeat (refine Below.alloc ?_ (by first | exact Nat.le_refl _ | omega | (simp; done) | (simp; omega)) _)); exact Below.refl _ _)⟩
  have HS3 := Lib.hid (show (withinB q.rise 0 10000 && withinB q.fall 0 10000) = true by simp [withinB] at h5 h6 h7 h8 ⊢; omega)
  cases h9 : decide ((8 : Int) < (q.gs.length : Int))
  rotate_left
  · have HE := Lib.hid (HV.out.trans (qs_v4 h1 HS2.out HS3.out (by simp at h9; omega)))
    go_enter Tryz.func37, Tryz.ntmps37
    go_wp2_with (first | (go_at_call 36; refine (refName_any q.name (by unfold maxLen; omega) _).mono ?_; rintro e w1 ⟨rfl, rfl⟩) | (go_at_call 74; refine (refValue_any _ _).mono ?_; rintro e w1 ⟨rfl, rfl⟩))
    go_ret
    exact ⟨ret_int HE.out.symm, (by (repeat (refine Below.alloc ?_ (by first | exact Nat.le_refl _ | omega | (simp; done) | (simp; omega)) _)); exact Below.refl _ _)⟩
  have h98 : q.gs.length ≤ 8 := by simp at h9; omega
  cases h10 : decide (q.bad < 0)
  rotate_left
  · have HE := Lib.hid (HV.out.trans (qs_v5 h1 HS2.out HS3.out h98 (by simp [withinB] at h10 ⊢; omega)))
    go_enter Tryz.func37, Tryz.ntmps37
    go_wp2_with (first | (go_at_call 36; refine (refName_any q.name (by unfold maxLen; omega) _).mono ?_; rintro e w1 ⟨rfl, rfl⟩) | (go_at_call 74; refine (refValue_any _ _).mono ?_; rintro e w1 ⟨rfl, rfl⟩))
    go_ret
    exact ⟨ret_int HE.out.symm, (by (repeat (refine Below.alloc ?_ (by first | exact Nat.le_refl _ | omega | (simp; done) | (simp; omega)) _)); exact Below.refl _ _)⟩
  cases h11 : decide ((q.gs.length : Int) < q.bad)
  rotate_left
  · have HE := Lib.hid (HV.out.trans (qs_v5 h1 HS2.out HS3.out h98 (by simp [withinB] at h11 ⊢; omega)))
    go_enter Tryz.func37, Tryz.ntmps37
    go_wp2_with (first | (go_at_call 36; refine (refName_any q.name (by unfold maxLen; omega) _).mono ?_; rintro e w1 ⟨rfl, rfl⟩) | (go_at_call 74; refine (refValue_any _ _).mono ?_; rintro e w1 ⟨rfl, rfl⟩))
    go_ret
    exact ⟨ret_int HE.out.symm, (by (repeat (refine Below.alloc ?_ (by first | exact Nat.le_refl _ | omega | (simp; done) | (simp; omega)) _)); exact Below.refl _ _)⟩
  have HE := Lib.hid (HV.out.trans (qs_v6 h1 HS2.out HS3.out h98 (by simp [withinB] at h10 h11 ⊢; omega)))
  obtain ⟨W0, hW0⟩ : ∃ W0, W0 = w.alloc (.cells #[.string q.name, .int .i64 q.lo, .int .i64 q.hi, .int .i64 q.rise, .int .i64 q.fall, .int .i64 q.bad, .slice q.gA q.gs.length q.gc] 47) := ⟨_, rfl⟩
  have HB0 := Lib.hid (show Below w.heap.size w W0 by rw [hW0]; exact (Below.refl _ _).alloc (Nat.le_refl _) _)
  have hs0 : w.heap.size < W0.heap.size := by rw [hW0]; simp
  have Hc6 := Lib.hid (show W0.cell? ⟨w.heap.size, 6, none⟩ = some (.slice q.gA q.gs.length q.gc) by rw [hW0]; exact alloc_cell rfl)
  have HW0 := Lib.hid hW0
  clear hW0
  go_enter Tryz.func37, Tryz.ntmps37
  go_wp2_with (first | (go_at_call 36; refine (refName_any q.name (by unfold maxLen; omega) _).mono ?_; rintro e w1 ⟨rfl, rfl⟩) | (go_at_call 74; refine (refValue_any _ _).mono ?_; rintro e w1 ⟨rfl, rfl⟩))
  rw [← HW0.out]
  go_loopw [3] (fun v wr => ∃ i : Nat, i ≤ q.gs.length ∧ v = .int .i64 i ∧ Hid (firstErr (gErrAt q.gs) i = 0) ∧ Hid (Below W0.heap.size W0 wr)) (fun v _ => q.gs.length - (intOf v).toNat)
  case atStart => exact ⟨0, by omega, rfl, Lib.hid rfl, Lib.hid (Below.refl _ _)⟩
  case round =>
    obtain ⟨i, hi, rfl, Hf, Hb⟩ := hrel
    have hsz := Hb.out.size
    have Hwr := Lib.hid (HB0.out.trans (Hb.out.mono (Nat.le_of_lt hs0)))
    have hwr : w.heap.size < wr.heap.size := by omega
    have c6 := (Hb.out.cell (p := ⟨w.heap.size, 6, none⟩) hs0).trans Hc6.out
    by_cases hlt : i < q.gs.length
    · obtain ⟨bg, og, hgA, hbgB, hgc⟩ := Hq.out.sl (by omega)
      have hbgw : bg < w.heap.size := by omega
      have hgn := Hq.out.gnm q.gs[i] (List.getElem_mem hlt)
      have Hgc := Lib.hid (fun (X : World) (hX : Below w.heap.size w X) (j : Nat) (hj : j < q.gs.length) (k : Nat) (v : Value) (hv : (encG q.gs[j])[k]? = some v) => (hX.cell (p := ⟨bg, og + j * 4 + k, none⟩) hbgw).trans (hgc j hj k v hv))
      have g0 : wr.cell? ⟨bg, og + i * 4, none⟩ = some (.string q.gs[i].name) := Hgc.out wr Hwr.out i hlt 0 _ rfl
      have g1 : wr.cell? ⟨bg, og + i * 4 + 1, none⟩ = some (.int .i64 q.gs[i].acc) := Hgc.out wr Hwr.out i hlt 1 _ rfl
      have g2 : wr.cell? ⟨bg, og + i * 4 + 2, none⟩ = some (.int .i64 q.gs[i].drift) := Hgc.out wr Hwr.out i hlt 2 _ rfl
      have g3 : wr.cell? ⟨bg, og + i * 4 + 3, none⟩ = some (.int .i64 q.gs[i].since) := Hgc.out wr Hwr.out i hlt 3 _ rfl
      rw [hgA] at c6
      clear hgA hgc
      cases hn : nameB q.gs[i].name
      · have HG := Lib.hid ((gErr_at hlt Hf.out (by rw [gErrAt_name hlt hn]; decide)).trans (gErrAt_name hlt hn))
        go_wp2_with (go_at_call 36; refine (refName_any q.gs[i].name (by unfold maxLen; omega) _).mono ?_; rintro e w1 ⟨rfl, rfl⟩)
        go_ret
        exact ⟨ret_int (by rw [HE.out, HG.out]), Hwr.out⟩
      have Hn := Lib.hid hn
      go_wp2_with (go_at_call 36; refine (refName_any q.gs[i].name (by unfold maxLen; omega) _).mono ?_; rintro e w1 ⟨rfl, rfl⟩)
      go_loopw [4] (fun v wr2 => ∃ k : Nat, k ≤ i ∧ v = .int .i64 k ∧ Hid ((q.gs.take k).any (fun x => strEq x.name q.gs[i].name) = false) ∧ Hid (Below wr.heap.size wr wr2)) (fun v _ => i - (intOf v).toNat)
      case atStart => exact ⟨0, by omega, rfl, Lib.hid (by simp), Lib.hid (Below.refl _ _)⟩
      case round =>
        obtain ⟨k, hk, rfl, Hno, Hb2⟩ := hrel
        have hsz2 := Hb2.out.size
        have Hw2 := Lib.hid (Hwr.out.trans (Hb2.out.mono (Nat.le_of_lt hwr)))
        have c6' := (Hb2.out.cell (p := ⟨w.heap.size, 6, none⟩) hwr).trans c6
        by_cases hlt2 : k < i
        · have n0 : wr.cell? ⟨bg, og + k * 4, none⟩ = some (.string q.gs[k].name) := Hgc.out wr Hw2.out k (by omega) 0 _ rfl
          have n1 : wr.cell? ⟨bg, og + i * 4, none⟩ = some (.string q.gs[i].name) := Hgc.out wr Hw2.out i hlt 0 _ rfl
          have HTk := Lib.hid (any_take_succ (p := fun x : Gauge => strEq x.name q.gs[i].name) (xs := q.gs) (k := k) (by omega) Hno.out)
          have HAny : Hid ((q.gs[k].name.toList == q.gs[i].name.toList) = true → (q.gs.take i).any (fun x => strEq x.name q.gs[i].name) = true) := Lib.hid fun h => by
            rw [List.any_eq_true]
            exact ⟨q.gs[k], List.mem_take_iff_getElem.2 ⟨k, by omega, rfl⟩, h⟩
          have hkl : k < q.gs.length := by omega
          cases he : (q.gs[k].name.toList == q.gs[i].name.toList)
          · have HT2 := Lib.hid (HTk.out he)
            go_wp2
            go_quiet (fail)
            go_wp2
            go_roundw
            case rel => exact ⟨k + 1, by omega, by go_num, HT2, Lib.hid (below_drewN Hb2.out _)⟩
            case measure => simp [intOf]; omega
          · have HG := Lib.hid ((gErr_at hlt Hf.out (by rw [gErrAt_twice hlt Hn.out (HAny.out he)]; decide)).trans (gErrAt_twice hlt Hn.out (HAny.out he)))
            go_wp2
            go_quiet (fail)
            go_wp2
            go_ret
            exact ⟨ret_int (by rw [HE.out, HG.out]), below_drewN Hw2.out _⟩
        · obtain rfl : k = i := by omega
          have HR := Lib.hid (gErrAt_rest hlt Hn.out Hno.out)
          have n0 : wr.cell? ⟨bg, og + k * 4, none⟩ = some (.string q.gs[k].name) := Hgc.out wr Hw2.out k hlt 0 _ rfl
          have n1 : wr.cell? ⟨bg, og + k * 4 + 1, none⟩ = some (.int .i64 q.gs[k].acc) := Hgc.out wr Hw2.out k hlt 1 _ rfl
          have n2 : wr.cell? ⟨bg, og + k * 4 + 2, none⟩ = some (.int .i64 q.gs[k].drift) := Hgc.out wr Hw2.out k hlt 2 _ rfl
          have n3 : wr.cell? ⟨bg, og + k * 4 + 3, none⟩ = some (.int .i64 q.gs[k].since) := Hgc.out wr Hw2.out k hlt 3 _ rfl
          clear g0 g1 g2 g3 c6
          cases hgb : gaugeB q.gs[k]
          · have HG := Lib.hid ((gErr_at hlt Hf.out (by rw [HR.out, hgb]; decide)).trans (show gErrAt q.gs k = 1 by rw [HR.out, hgb]; rfl))
            have Hcg := Lib.hid (refCheckGauge_any q.gs[k] wr)
            rw [hgb] at Hcg
            go_wp2_with (go_at_call 49; refine Hcg.out.mono ?_; rintro e w3 ⟨rfl, hb3⟩)
            go_ret
            exact ⟨ret_int (by rw [HE.out, HG.out]), Hw2.out.trans (hb3.mono (by omega))⟩
          · have HF2 := Lib.hid (show firstErr (gErrAt q.gs) (k + 1) = 0 by rw [firstErr_succ Hf.out, HR.out, hgb]; rfl)
            have Hcg := Lib.hid (refCheckGauge_any q.gs[k] wr)
            rw [hgb] at Hcg
            go_wp2_with (go_at_call 49; refine Hcg.out.mono ?_; rintro e w3 ⟨rfl, hb3⟩)
            go_roundw
            case rel => exact ⟨k + 1, by omega, by go_num, HF2, Lib.hid (Hb.out.trans ((Hb2.out.trans (hb3.mono hsz2)).mono hsz))⟩
            case measure => simp [intOf]; omega
    · obtain rfl : i = q.gs.length := by omega
      have HG := Lib.hid (show gErr q.gs = 0 from Hf.out)
      go_wp2
      go_ret
      exact ⟨ret_int (by rw [HE.out, HG.out]), Hwr.out⟩
end Go.Proofs.YtcgnpndfhhcplaaGreatDoor
namespace Go.Proofs.YtcgnpndfhhcplaaGreatDoor
open Go.RowKit W7
attribute [local go_sem] Oper.semAt_some
theorem rErrAt_get {q : Quantity} {l : List Reading} {k : Nat} (hk : k < l.length) : rErrAt q l k = rErr q l[k] := by unfold rErrAt; rw [getD_mem _ _ hk]
theorem firstErr_stay {f : Nat → Int} {k n : Nat} (h : firstErr f k ≠ 0) (hk : k ≤ n) : firstErr f n = firstErr f k := by
  induction n with
  | zero => obtain rfl : k = 0 := by omega
            rfl
  | succ n ih =>
    rcases Nat.lt_or_ge k (n + 1) with h1 | h1
    · have e := ih (by omega)
      rw [firstErr, if_neg (by rw [e]; exact h), e]
    · obtain rfl : k = n + 1 := by omega
      rfl
end Go.Proofs.YtcgnpndfhhcplaaGreatDoor
