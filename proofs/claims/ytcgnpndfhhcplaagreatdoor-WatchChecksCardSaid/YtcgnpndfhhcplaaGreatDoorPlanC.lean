/-
  Package watch's Check: the first error of a plan. Condition: how it lies in memory.
-/
import Derived.Test.YtcgnpndfhhcplaaGreatDoorMeas
namespace Go.Proofs.YtcgnpndfhhcplaaGreatDoor
open Go.RowKit W7
theorem check1_any (x : Alarm) (mm : Int) (bg : Nat) (w : World) (hc : w.cell? ⟨bg, 3, none⟩ = some (.int .i64 mm)) (hbg : bg < w.heap.size) :
    Calls Tryz.prog 35 #[.agg #[.int .i64 x.q, .int .i64 x.level, .int .i64 x.limit, .int .i64 x.m], .pointer (some ⟨bg, 0, none⟩)] w fun e w' => e = .returned (.bool (x.m == mm)) ∧ Below w.heap.size w w' := by
  go_enter Tryz.func35, Tryz.ntmps35
  go_wp2
  go_ret
  exact ⟨rfl, (by (repeat (refine Below.alloc ?_ (by first | exact Nat.le_refl _ | omega | (simp; done) | (simp; omega)) _)); exact Below.refl _ _)⟩
set_option maxHeartbeats 1000000 in
theorem idxAlarm_any (xs : List Alarm) (mm : Int) (n : Nat) (hn : n = xs.length) (A : Option Addr) (c B bg : Nat) (w : World) (hA : Sl w B 4 encA A xs) (hB : B ≤ w.heap.size) (hl : xs.length ≤ 1000000000)
    (hc0 : w.cell? ⟨bg, 3, none⟩ = some (.int .i64 mm)) (hbg : bg < w.heap.size) :
    Calls Tryz.prog 73 #[.slice A n c, .func (.func 35) #[] #[.pointer (some ⟨bg, 0, none⟩)]] w fun e w' =>
      e = .returned (.int .i64 (idxB (fun x : Alarm => x.m == mm) xs)) ∧ Below w.heap.size w w' := by
  subst hn
  have HA := Lib.hid hA
  clear hA
  have Hc0 := Lib.hid hc0; clear hc0
  go_enter Tryz.func73, Tryz.ntmps73
  go_wp2
  go_loopw [8] (fun i wr => ∃ k : Nat, k ≤ xs.length ∧ i = .int .i64 k ∧ Hid ((xs.take k).any (fun x : Alarm => x.m == mm) = false) ∧ Below w.heap.size w wr) (fun i _ => xs.length - (intOf i).toNat)
  case atStart => exact ⟨0, by omega, rfl, Lib.hid (by simp), Below.refl _ _⟩
  case round =>
    obtain ⟨k, hk, rfl, Hno, hb⟩ := hrel
    by_cases hlt : k < xs.length
    · obtain ⟨b, off, rfl, hbB, hcells⟩ := HA.out (by omega)
      have h0 := hcells k hlt
      clear hcells
      have c0 : wr.cell? ⟨b, off + k * 4, none⟩ = some (.int .i64 xs[k].q) := (hb.cell (p := ⟨b, _, none⟩) (by simp; omega)).trans (h0 0 _ rfl)
      have c1 : wr.cell? ⟨b, off + k * 4 + 1, none⟩ = some (.int .i64 xs[k].level) := (hb.cell (p := ⟨b, _, none⟩) (by simp; omega)).trans (h0 1 _ rfl)
      have c2 : wr.cell? ⟨b, off + k * 4 + 2, none⟩ = some (.int .i64 xs[k].limit) := (hb.cell (p := ⟨b, _, none⟩) (by simp; omega)).trans (h0 2 _ rfl)
      have c3 : wr.cell? ⟨b, off + k * 4 + 3, none⟩ = some (.int .i64 xs[k].m) := (hb.cell (p := ⟨b, _, none⟩) (by simp; omega)).trans (h0 3 _ rfl)
      have hcg0 : wr.cell? ⟨bg, 3, none⟩ = some (.int .i64 mm) := (hb.cell (p := ⟨bg, 3, none⟩) hbg).trans Hc0.out
      have Hs := Lib.hid (any_take_succ (p := fun x : Alarm => x.m == mm) hlt Hno.out)
      have Hh := Lib.hid (idxB_hit (p := fun x : Alarm => x.m == mm) hlt Hno.out)
      have hsz := hb.size
      clear h0
      cases hp : (fun x : Alarm => x.m == mm) xs[k]
      · go_wp2_with (go_at_call 35; refine (check1_any xs[k] mm bg _ (by assumption) (by omega)).mono ?_; rintro e w1 ⟨rfl, hb1⟩)
        go_roundw
        case rel => exact ⟨k + 1, by omega, by go_num, Lib.hid (Hs.out (by assumption)), hb.trans (hb1.mono hsz)⟩
        case measure => simp [intOf]; omega
      · go_wp2_with (go_at_call 35; refine (check1_any xs[k] mm bg _ (by assumption) (by omega)).mono ?_; rintro e w1 ⟨rfl, hb1⟩)
        go_ret
        exact ⟨ret_int (Hh.out (by assumption)).symm, hb.trans (hb1.mono hsz)⟩
    · have HN := Lib.hid (idxB_none (p := fun x : Alarm => x.m == mm) (xs := xs) (by rw [← Hno.out, List.take_of_length_le (by omega)]))
      go_wp2
      go_ret
      exact ⟨ret_int HN.out.symm, hb⟩
theorem conAlarm_any (xs : List Alarm) (mm : Int) (n : Nat) (hn : n = xs.length) (A : Option Addr) (c B bg : Nat) (w : World) (hA : Sl w B 4 encA A xs) (hB : B ≤ w.heap.size) (hl : xs.length ≤ 1000000000)
    (hc0 : w.cell? ⟨bg, 3, none⟩ = some (.int .i64 mm)) (hbg : bg < w.heap.size) :
    Calls Tryz.prog 34 #[.slice A n c, .func (.func 35) #[] #[.pointer (some ⟨bg, 0, none⟩)]] w fun e w' =>
      e = .returned (.bool (xs.any (fun x : Alarm => x.m == mm))) ∧ Below w.heap.size w w' := by
  have H := Lib.hid (idxAlarm_any xs mm n hn A c B bg w hA hB hl hc0 hbg)
  clear hA hn hc0
  go_enter Tryz.func34, Tryz.ntmps34
  go_wp2_with (go_at_call 73; refine H.out.mono ?_; rintro e w1 ⟨rfl, hb1⟩)
  go_ret
  exact ⟨ret_bool idxB_any, hb1⟩

set_option maxHeartbeats 4000000 in
set_option maxRecDepth 100000 in
theorem Check_any (p : Plan) (B : Nat) (w : World) (hp : PIn w B p) (hB : B ≤ w.heap.size) :
    Calls Tryz.prog 10 #[.agg #[.slice p.qA p.qs.length p.qc, .slice p.mA p.ms.length p.mc, .slice p.aA p.al.length p.ac]] w fun e w' => e = .returned (.int .i64 (planErr p)) ∧ Below w.heap.size w w' := by
  obtain ⟨AA, hAA⟩ : ∃ AA, p.aA = AA := ⟨_, rfl⟩
  rw [hAA]
  obtain ⟨W0, hW0⟩ : ∃ W0, W0 = w.alloc (.cells #[.slice p.qA p.qs.length p.qc, .slice p.mA p.ms.length p.mc, .slice AA p.al.length p.ac] 26) := ⟨_, rfl⟩
  have HB0 := Lib.hid (show Below w.heap.size w W0 by rw [hW0]; exact (Below.refl _ _).alloc (Nat.le_refl _) _)
  have hs0 : w.heap.size < W0.heap.size := by rw [hW0]; simp
  have HQ0 := Lib.hid (show ∀ (X : World), Below W0.heap.size W0 X → ∀ j v, (#[.slice p.qA p.qs.length p.qc, .slice p.mA p.ms.length p.mc, .slice AA p.al.length p.ac] : Array Value)[j]? = some v → X.cell? ⟨w.heap.size, j, none⟩ = some v from fun X hX j v hv =>
    (hX.cell (p := ⟨w.heap.size, j, none⟩) hs0).trans (by rw [hW0]; exact alloc_cell hv))
  have HP := Lib.hid (fun (X : World) (hX : Below W0.heap.size W0 X) => (hp.mono hB).below (HB0.out.trans (hX.mono (Nat.le_of_lt hs0))))
  have HU := Lib.hid (fun (X : World) (hX : Below W0.heap.size W0 X) => show Below w.heap.size w X from HB0.out.trans (hX.mono (Nat.le_of_lt hs0)))
  have HAsl := Lib.hid (fun (X : World) (hX : Below W0.heap.size W0 X) => show Sl X w.heap.size 4 encA AA p.al by rw [← hAA]; exact (HP.out X hX).asl)
  have hal := hp.alc
  have hac := hp.ac2
  have hql := hp.qlc
  have hqc := hp.qc2
  have hml := hp.mlc
  have hmc := hp.mc2
  have HQs := Lib.hid (quantities_any p.qs p.qA p.qc w.heap.size W0 (HP.out W0 (Below.refl _ _)).qsl (HP.out W0 (Below.refl _ _)).qin (by omega) hp.qlc hp.qc2)
  have q0 : W0.cell? ⟨w.heap.size, 0, none⟩ = some (.slice p.qA p.qs.length p.qc) := HQ0.out W0 (Below.refl _ _) 0 _ rfl
  have HPe := Lib.hid (show planErr p = if qsErr p.qs = 0 then (if msErr p.ms = 0 then (if p.al.length ≤ 16 then firstErr (aErrAt p) p.al.length else 3) else msErr p.ms) else qsErr p.qs from rfl)
  obtain ⟨qe, hqe⟩ : ∃ qe, qe = qsErr p.qs := ⟨_, rfl⟩
  obtain ⟨me, hme⟩ : ∃ me, me = msErr p.ms := ⟨_, rfl⟩
  rw [← hqe] at HQs HPe
  rw [← hme] at HPe
  have Hme := Lib.hid hme
  have HW0 := Lib.hid hW0
  clear hW0 hp hqe hme hAA
  go_enter Tryz.func10, Tryz.ntmps10
  go_wp2_with (go_at_call 66; fail)
  rw [← HW0.out]
  refine HQs.out.mono ?_
  rintro e w1 ⟨rfl, hb1⟩
  have Hb1 := Lib.hid hb1
  have hs1 := hb1.size
  clear hb1 q0
  cases h1 : (qe != 0)
  rotate_left
  · have HE := Lib.hid (show planErr p = qe by rw [HPe.out, if_neg (by simpa using h1)])
    go_wp2
    go_ret
    exact ⟨ret_int HE.out.symm, HU.out w1 Hb1.out⟩
  have q1 : w1.cell? ⟨w.heap.size, 1, none⟩ = some (.slice p.mA p.ms.length p.mc) := HQ0.out w1 Hb1.out 1 _ rfl
  have HMs := Lib.hid (measures_any p.ms p.mA p.mc w.heap.size w1 (HP.out w1 Hb1.out).msl (HP.out w1 Hb1.out).mnm (by omega) hml hmc)
  rw [← Hme.out] at HMs
  go_wp2_with (go_at_call 66; fail)
  refine HMs.out.mono ?_
  rintro e w2 ⟨rfl, hb2⟩
  have Hb2 := Lib.hid (Hb1.out.trans (hb2.mono hs1))
  have hs2 := hb2.size
  clear hb2 q1 HMs
  cases h2 : (me != 0)
  rotate_left
  · have HE := Lib.hid (show planErr p = me by rw [HPe.out, if_pos (by simpa using h1), if_neg (by simpa using h2)])
    go_wp2
    go_ret
    exact ⟨ret_int HE.out.symm, HU.out w2 Hb2.out⟩
  have q2 : w2.cell? ⟨w.heap.size, 2, none⟩ = some (.slice AA p.al.length p.ac) := HQ0.out w2 Hb2.out 2 _ rfl
  by_cases h16 : p.al.length ≤ 16
  rotate_left
  · have HE := Lib.hid (show planErr p = 3 by rw [HPe.out, if_pos (by simpa using h1), if_pos (by simpa using h2), if_neg h16])
    go_wp2
    go_ret
    exact ⟨ret_int HE.out.symm, HU.out w2 Hb2.out⟩
  have HC := Lib.hid (show planErr p = firstErr (aErrAt p) p.al.length by rw [HPe.out, if_pos (by simpa using h1), if_pos (by simpa using h2), if_pos h16])
  go_wp2
  clear h1 h2
  go_loopw [26] (fun i wr => ∃ k : Nat, k ≤ p.al.length ∧ i = .int .i64 k ∧ Hid (firstErr (aErrAt p) k = 0) ∧ Hid (Below W0.heap.size W0 wr)) (fun i _ => p.al.length - (intOf i).toNat)
  case atStart => exact ⟨0, by omega, rfl, Lib.hid rfl, Hb2⟩
  case round =>
    obtain ⟨k, hk, rfl, He, Hb⟩ := hrel
    have hsz : W0.heap.size ≤ wr.heap.size := Hb.out.size
    have hwr : w.heap.size < wr.heap.size := by omega
    by_cases hlt : k < p.al.length
    · have HAl := Lib.hid (HAsl.out wr Hb.out)
      obtain ⟨b, off, rfl, hbB, hcells⟩ := HAl.out (by omega)
      have h0 := hcells k hlt
      clear hcells
      have c0 : wr.cell? ⟨b, off + k * 4, none⟩ = some (.int .i64 p.al[k].q) := h0 0 _ rfl
      have c1 : wr.cell? ⟨b, off + k * 4 + 1, none⟩ = some (.int .i64 p.al[k].level) := h0 1 _ rfl
      have c2 : wr.cell? ⟨b, off + k * 4 + 2, none⟩ = some (.int .i64 p.al[k].limit) := h0 2 _ rfl
      have c3 : wr.cell? ⟨b, off + k * 4 + 3, none⟩ = some (.int .i64 p.al[k].m) := h0 3 _ rfl
      have q0 : wr.cell? ⟨w.heap.size, 0, none⟩ = some (.slice p.qA p.qs.length p.qc) := HQ0.out wr Hb.out 0 _ rfl
      have q1 : wr.cell? ⟨w.heap.size, 1, none⟩ = some (.slice p.mA p.ms.length p.mc) := HQ0.out wr Hb.out 1 _ rfl
      have q2 : wr.cell? ⟨w.heap.size, 2, none⟩ = some (.slice (some ⟨b, off, none⟩) p.al.length p.ac) := HQ0.out wr Hb.out 2 _ rfl
      clear h0
      obtain ⟨a, ha⟩ : ∃ a, a = p.al[k] := ⟨_, rfl⟩
      have V1 := Lib.hid (@aErr_v1 p k hlt)
      have V2 := Lib.hid (@aErr_v2 p k hlt)
      have V3 := Lib.hid (@aErr_v3 p k hlt)
      have V4 := Lib.hid (@aErr_v4 p k hlt)
      rw [← ha] at c0 c1 c2 c3 V1 V2 V3 V4
      clear ha
      obtain ⟨W1, hW1⟩ : ∃ W1, W1 = wr.alloc (.cells #[.int .i64 a.q, .int .i64 a.level, .int .i64 a.limit, .int .i64 a.m] 75) := ⟨_, rfl⟩
      have HB1 := Lib.hid (show Below W0.heap.size wr W1 by rw [hW1]; exact (Below.refl W0.heap.size wr).alloc hsz _)
      have hs1' : wr.heap.size < W1.heap.size := by rw [hW1]; simp
      have HCx3 := Lib.hid (show W1.cell? ⟨wr.heap.size, 3, none⟩ = some (.int .i64 a.m) by rw [hW1]; exact alloc_cell rfl)
      have HConA := Lib.hid (conAlarm_any (p.al.take k) a.m k (by simp; omega) (some ⟨b, off, none⟩) p.ac w.heap.size wr.heap.size W1
        ((HAl.out.take k).below (HB1.out.mono (by omega))) (by omega) (by simp; omega) HCx3.out hs1')
      have HW1 := Lib.hid hW1
      clear hW1
      have HEnd := Lib.hid (fun (e : Int) (h : aErrAt p k = e) (h0 : e ≠ 0) => show e = planErr p by rw [HC.out, firstErr_at He.out (by rw [h]; exact h0) hlt, h])
      have HU1 := Lib.hid (HU.out W1 (Hb.out.trans HB1.out))
      have HWq := Lib.hid (within_any a.q 0 ((p.qs.length : Int) - 1))
      have HWm := Lib.hid (within_any a.m 0 ((p.ms.length : Int) - 1))
      have HVl := Lib.hid (isValue_any a.level)
      have HVi := Lib.hid (isValue_any a.limit)
      cases w1e : withinB a.q 0 ((p.qs.length : Int) - 1)
      · have HE := Lib.hid (HEnd.out 7 (V1.out (by rw [w1e]; rfl)) (by decide))
        rw [w1e] at HWq
        go_wp2_with (go_at_call 66; fail)
        refine (HWq.out _).mono ?_
        rintro e w3 ⟨rfl, rfl⟩
        go_wp2
        go_ret
        exact ⟨ret_int HE.out, by rw [← HW1.out]; exact HU1.out⟩
      rw [w1e] at HWq
      go_wp2_with (go_at_call 66; fail)
      refine (HWq.out _).mono ?_
      rintro e w3 ⟨rfl, rfl⟩
      go_wp2_with (go_at_call 66; fail)
      cases w2e : withinB a.m 0 ((p.ms.length : Int) - 1)
      · have HE := Lib.hid (HEnd.out 7 (V1.out (by rw [w1e, w2e]; rfl)) (by decide))
        rw [w2e] at HWm
        refine (HWm.out _).mono ?_
        rintro e w3 ⟨rfl, rfl⟩
        go_wp2
        go_ret
        exact ⟨ret_int HE.out, by rw [← HW1.out]; exact HU1.out⟩
      rw [w2e] at HWm
      refine (HWm.out _).mono ?_
      rintro e w3 ⟨rfl, rfl⟩
      have hwi : (withinB a.q 0 ((p.qs.length : Int) - 1) && withinB a.m 0 ((p.ms.length : Int) - 1)) = true := by rw [w1e, w2e]; rfl
      clear w1e w2e
      go_wp2_with (go_at_call 66; fail)
      cases v1e : isVal a.level
      · have HE := Lib.hid (HEnd.out 1 (V2.out hwi (by rw [v1e]; rfl)) (by decide))
        rw [v1e] at HVl
        refine (HVl.out _).mono ?_
        rintro e w3 ⟨rfl, rfl⟩
        go_wp2
        go_ret
        exact ⟨ret_int HE.out, by rw [← HW1.out]; exact HU1.out⟩
      rw [v1e] at HVl
      refine (HVl.out _).mono ?_
      rintro e w3 ⟨rfl, rfl⟩
      go_wp2_with (go_at_call 66; fail)
      cases v2e : isVal a.limit
      · have HE := Lib.hid (HEnd.out 1 (V2.out hwi (by rw [v1e, v2e]; rfl)) (by decide))
        rw [v2e] at HVi
        refine (HVi.out _).mono ?_
        rintro e w3 ⟨rfl, rfl⟩
        go_wp2
        go_ret
        exact ⟨ret_int HE.out, by rw [← HW1.out]; exact HU1.out⟩
      rw [v2e] at HVi
      refine (HVi.out _).mono ?_
      rintro e w3 ⟨rfl, rfl⟩
      have hvi : (isVal a.level && isVal a.limit) = true := by rw [v1e, v2e]; rfl
      clear v1e v2e
      go_wp2_with (go_at_call 66; fail)
      rw [← HW1.out]
      cases hcl : (p.al.take k).any (fun x => x.m == a.m)
      · have HE := Lib.hid (V4.out hwi hvi hcl)
        rw [hcl] at HConA
        refine HConA.out.mono ?_
        rintro e w5 ⟨rfl, hb5⟩
        have Hb5 := Lib.hid hb5
        go_wp2
        go_roundw
        case rel => exact ⟨k + 1, by omega, by go_num, Lib.hid (by rw [firstErr_succ He.out, HE.out]), Lib.hid ((Hb.out.trans HB1.out).trans (Hb5.out.mono (by omega)))⟩
        case measure => simp [intOf]; omega
      · have HE := Lib.hid (HEnd.out 6 (V3.out hwi hvi hcl) (by decide))
        rw [hcl] at HConA
        refine HConA.out.mono ?_
        rintro e w5 ⟨rfl, hb5⟩
        go_wp2
        go_ret
        exact ⟨ret_int HE.out, HU1.out.trans (hb5.mono (by omega))⟩
    · go_wp2
      go_ret
      exact ⟨ret_int (by rw [HC.out, ← He.out]; congr 1; omega), HU.out wr Hb.out⟩
end Go.Proofs.YtcgnpndfhhcplaaGreatDoor
