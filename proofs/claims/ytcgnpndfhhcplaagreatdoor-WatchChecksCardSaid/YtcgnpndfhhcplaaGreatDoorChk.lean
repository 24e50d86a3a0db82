/-
  Package watch's checkReading and checked: the first error of a reading, of a quantity with its readings. Condition: how they lie in memory.
-/
import Derived.Test.YtcgnpndfhhcplaaGreatDoorQs
namespace Go.Proofs.YtcgnpndfhhcplaaGreatDoor
open Go.RowKit W7
theorem checkReading_any (q : Quantity) (r : Reading) (w : World) (hl : q.gs.length ≤ 9223372036854775807) :
    Calls Tryz.prog 85 #[.agg #[.string q.name, .int .i64 q.lo, .int .i64 q.hi, .int .i64 q.rise, .int .i64 q.fall, .int .i64 q.bad, .slice q.gA q.gs.length q.gc], .agg #[.int .i64 r.g, .int .i64 r.t, .int .i64 r.v]] w fun e w' =>
      e = .returned (.int .i64 (rErr q r)) ∧ Below w.heap.size w w' := by
  cases h1 : withinB r.g 0 ((q.gs.length : Int) - 1)
  · have HC := Lib.hid (show rErr q r = 7 from by simp [rErr, h1])
    go_enter Tryz.func85, Tryz.ntmps85
    go_wp2_with (first | (go_at_call 32; refine (within_any _ _ _ _).mono ?_; rintro e w' ⟨rfl, rfl⟩))
    go_ret
    exact ⟨ret_int HC.out.symm, (by (repeat (refine Below.alloc ?_ (by first | exact Nat.le_refl _ | omega | (simp; done) | (simp; omega)) _)); exact Below.refl _ _)⟩
  cases h2 : isTm r.t
  · have HC := Lib.hid (show rErr q r = 1 from by simp [rErr, h1, h2])
    go_enter Tryz.func85, Tryz.ntmps85
    go_wp2_with (first | (go_at_call 32; refine (within_any _ _ _ _).mono ?_; rintro e w' ⟨rfl, rfl⟩) | (go_at_call 47; refine (isTime_any _ _).mono ?_; rintro e w' ⟨rfl, rfl⟩))
    go_ret
    exact ⟨ret_int HC.out.symm, (by (repeat (refine Below.alloc ?_ (by first | exact Nat.le_refl _ | omega | (simp; done) | (simp; omega)) _)); exact Below.refl _ _)⟩
  cases h3 : isVal r.v
  · have HC := Lib.hid (show rErr q r = 1 from by simp [rErr, h1, h2, h3])
    go_enter Tryz.func85, Tryz.ntmps85
    go_wp2_with (first | (go_at_call 32; refine (within_any _ _ _ _).mono ?_; rintro e w' ⟨rfl, rfl⟩) | (go_at_call 47; refine (isTime_any _ _).mono ?_; rintro e w' ⟨rfl, rfl⟩) | (go_at_call 33; refine (isValue_any _ _).mono ?_; rintro e w' ⟨rfl, rfl⟩))
    go_ret
    exact ⟨ret_int HC.out.symm, (by (repeat (refine Below.alloc ?_ (by first | exact Nat.le_refl _ | omega | (simp; done) | (simp; omega)) _)); exact Below.refl _ _)⟩
  · have HC := Lib.hid (show rErr q r = 0 from by simp [rErr, h1, h2, h3])
    go_enter Tryz.func85, Tryz.ntmps85
    go_wp2_with (first | (go_at_call 32; refine (within_any _ _ _ _).mono ?_; rintro e w' ⟨rfl, rfl⟩) | (go_at_call 47; refine (isTime_any _ _).mono ?_; rintro e w' ⟨rfl, rfl⟩) | (go_at_call 33; refine (isValue_any _ _).mono ?_; rintro e w' ⟨rfl, rfl⟩))
    go_ret
    exact ⟨ret_int HC.out.symm, (by (repeat (refine Below.alloc ?_ (by first | exact Nat.le_refl _ | omega | (simp; done) | (simp; omega)) _)); exact Below.refl _ _)⟩
theorem rErrAt_at {q : Quantity} {l : List Reading} {k : Nat} (hk : k < l.length) : rErrAt q l k = rErr q l[k] := by
  simp [rErrAt, List.getD_eq_getElem?_getD, List.getElem?_eq_getElem hk]
set_option maxHeartbeats 4000000 in
theorem checked_any (q : Quantity) (l : List Reading) (A : Option Addr) (c B : Nat) (w : World) (hq : QIn w B q) (hA : Sl w B 3 encR A l) (hB : B ≤ w.heap.size) (_hl : l.length ≤ c) (_hc : c ≤ 9223372036854775807) :
    Calls Tryz.prog 57 #[.agg #[.string q.name, .int .i64 q.lo, .int .i64 q.hi, .int .i64 q.rise, .int .i64 q.fall, .int .i64 q.bad, .slice q.gA q.gs.length q.gc], .slice A l.length c] w fun e w' =>
      e = .returned (.int .i64 (checkedE q l)) ∧ Below w.heap.size w w' := by
  have hgl := hq.len
  obtain ⟨cs, hcs⟩ : ∃ cs : Array Value, cs = #[.string q.name, .int .i64 q.lo, .int .i64 q.hi, .int .i64 q.rise, .int .i64 q.fall, .int .i64 q.bad, .slice q.gA q.gs.length q.gc] := ⟨_, rfl⟩
  have hcs' : cs.toList = encQ q := by rw [hcs]; rfl
  have HB0 := Lib.hid (((Below.refl w.heap.size w).alloc (Nat.le_refl _) (.cells cs 47)).alloc (by simp) (.cells cs 47))
  have HQs := Lib.hid (quantities_any [q] (some ⟨w.heap.size + 1, 0, none⟩) 1 (w.heap.size + 2) ((w.alloc (.cells cs 47)).alloc (.cells cs 47))
    (fun _ => ⟨_, _, rfl, by omega, fun i hi j v hv => by
      obtain rfl : i = 0 := by simpa using hi
      have h := alloc_cell (w := w.alloc (.cells cs 47)) (cs := cs) (e := 47) (j := j) (v := v) (by rw [← Array.getElem?_toList, hcs']; exact hv)
      simpa using h⟩)
    (fun x hx => by
      obtain rfl : x = q := by simpa using hx
      exact (hq.below (HB0.out.mono hB)).mono (by omega)) (by simp) (by simp) (by simp))
  have Hrs := Lib.hid ((hA.below (HB0.out.mono hB)).mono (B' := w.heap.size) hB)
  rw [hcs] at HQs HB0 Hrs
  clear hcs' hcs hA
  cases hqe : (qsErr [q] != 0)
  rotate_left
  · have HC := Lib.hid (show checkedE q l = qsErr [q] from by simp at hqe; simp [checkedE, hqe])
    go_enter Tryz.func57, Tryz.ntmps57
    go_wp2_with (go_at_call 30; refine HQs.out.mono ?_; rintro e w1 ⟨rfl, hb1⟩)
    go_ret
    exact ⟨ret_int HC.out.symm, HB0.out.trans (hb1.mono (by simp; omega))⟩
  have Hqe := Lib.hid (show qsErr [q] = 0 by simpa using hqe)
  by_cases h64 : l.length ≤ 64
  rotate_left
  · have HC := Lib.hid (show checkedE q l = 3 from by simp [checkedE, Hqe.out, h64])
    go_enter Tryz.func57, Tryz.ntmps57
    go_wp2_with (go_at_call 30; refine HQs.out.mono ?_; rintro e w1 ⟨rfl, hb1⟩)
    go_ret
    exact ⟨ret_int HC.out.symm, HB0.out.trans (hb1.mono (by simp; omega))⟩
  have HC := Lib.hid (show checkedE q l = firstErr (rErrAt q l) l.length from by simp [checkedE, Hqe.out, h64])
  go_enter Tryz.func57, Tryz.ntmps57
  go_wp2_with (go_at_call 30; refine HQs.out.mono ?_; rintro e w1 ⟨rfl, hb1⟩; have Hb1 := Lib.hid hb1; clear hb1)
  obtain ⟨w1, hw1⟩ : ∃ W, W = w1 := ⟨_, rfl⟩
  subst hw1
  have HBw := Lib.hid (HB0.out.trans (Hb1.out.mono (by simp; omega)))
  have hs1 : w.heap.size < w1.heap.size := by have := Hb1.out.size; simp at this; omega
  go_loopw [20] (fun i wr => ∃ k : Nat, k ≤ l.length ∧ i = .int .i64 k ∧ Hid (firstErr (rErrAt q l) k = 0) ∧ Hid (Below w1.heap.size w1 wr)) (fun i _ => l.length - (intOf i).toNat)
  case atStart => exact ⟨0, by omega, rfl, Lib.hid rfl, Lib.hid (Below.refl _ _)⟩
  case round =>
    obtain ⟨k, hk, rfl, He, Hb⟩ := hrel
    have hsz : w.heap.size < wr.heap.size := Nat.lt_of_lt_of_le hs1 Hb.out.size
    have Hbel := Lib.hid (HBw.out.trans (Hb.out.mono (Nat.le_of_lt hs1)))
    by_cases hlt : k < l.length
    · have HA := Lib.hid ((Hrs.out.below (Hb1.out.mono (by simp; omega))).below (Hb.out.mono (Nat.le_of_lt hs1)))
      obtain ⟨b, off, rfl, hbB, hcells⟩ := HA.out (by omega)
      have h0 := hcells k hlt
      clear hcells
      have c0 : wr.cell? ⟨b, off + k * 3, none⟩ = some (.int .i64 l[k].g) := h0 0 _ rfl
      have c1 : wr.cell? ⟨b, off + k * 3 + 1, none⟩ = some (.int .i64 l[k].t) := h0 1 _ rfl
      have c2 : wr.cell? ⟨b, off + k * 3 + 2, none⟩ = some (.int .i64 l[k].v) := h0 2 _ rfl
      have q0 : ∀ j v, (#[Value.string q.name, .int .i64 q.lo, .int .i64 q.hi, .int .i64 q.rise, .int .i64 q.fall, .int .i64 q.bad, .slice q.gA q.gs.length q.gc] : Array Value)[j]? = some v → wr.cell? ⟨w.heap.size, j, none⟩ = some v := fun j v hv => (Hb.out.cell (p := ⟨w.heap.size, j, none⟩) hs1).trans ((Hb1.out.cell (p := ⟨w.heap.size, j, none⟩) (by simp; omega)).trans ((World.cell?_alloc_lt _ _ _ (by simp)).trans (alloc_cell hv)))
      have e0 := q0 0 _ rfl
      have e1 := q0 1 _ rfl
      have e2 := q0 2 _ rfl
      have e3 := q0 3 _ rfl
      have e4 := q0 4 _ rfl
      have e5 := q0 5 _ rfl
      have e6 := q0 6 _ rfl
      clear h0 q0
      have HE0 := Lib.hid (rErrAt_at (q := q) (l := l) hlt)
      cases hgb : (rErr q l[k] != 0)
      · have Hgb := Lib.hid (show rErr q l[k] = 0 by simpa using hgb)
        go_wp2_with (first | (go_at_call 85; refine (checkReading_any q l[k] _ hgl).mono ?_; rintro e w2 ⟨rfl, hb2⟩))
        go_roundw
        case rel => exact ⟨k + 1, by omega, by go_num, Lib.hid (by rw [firstErr_succ He.out, HE0.out, Hgb.out]), Lib.hid (Hb.out.trans (((Below.refl _ _).alloc Hb.out.size _).trans (hb2.mono (by have := Hb.out.size; simp; omega))))⟩
        case measure => simp [intOf]; omega
      · have HE := Lib.hid (firstErr_at He.out (by rw [HE0.out]; simpa using hgb) hlt)
        go_wp2_with (first | (go_at_call 85; refine (checkReading_any q l[k] _ hgl).mono ?_; rintro e w2 ⟨rfl, hb2⟩))
        go_ret
        exact ⟨ret_int (by rw [HC.out, HE.out, HE0.out]), Hbel.out.trans (((Below.refl _ _).alloc (Nat.le_of_lt hsz) _).trans (hb2.mono (by simp; omega)))⟩
    · go_wp2
      go_ret
      exact ⟨ret_int (by rw [HC.out, ← He.out]; congr 1; omega), Hbel.out⟩
end Go.Proofs.YtcgnpndfhhcplaaGreatDoor
