/-
  Package watch's checkQuantity: the first error of a quantity, its name left out. Condition: how the gauges lie in memory.
-/
import Derived.Test.YtcgnpndfhhcplaaGreatDoorName
import Derived.Test.YtcgnpndfhhcplaaGreatDoorIdxG
namespace Go.Proofs.YtcgnpndfhhcplaaGreatDoor
open Go.RowKit W7
theorem gErr_at {l : List Gauge} {k : Nat} (hk : k < l.length) (h : firstErr (gErrAt l) k = 0) (he : gErrAt l k ≠ 0) : gErr l = gErrAt l k := firstErr_at h he hk
theorem gErrAt_name {l : List Gauge} {k : Nat} (hk : k < l.length) (h : nameB l[k].name = false) : gErrAt l k = 5 := by
  simp [gErrAt, List.getD_eq_getElem?_getD, List.getElem?_eq_getElem hk, h]
theorem gErrAt_twice {l : List Gauge} {k : Nat} (hk : k < l.length) (h : nameB l[k].name = true) (h2 : (l.take k).any (fun x => strEq x.name l[k].name) = true) : gErrAt l k = 6 := by
  simp only [gErrAt, List.getD_eq_getElem?_getD, List.getElem?_eq_getElem hk, h, h2, Option.getD_some, if_true]
theorem gErrAt_rest {l : List Gauge} {k : Nat} (hk : k < l.length) (h : nameB l[k].name = true) (h2 : (l.take k).any (fun x => strEq x.name l[k].name) = false) : gErrAt l k = if gaugeB l[k] then 0 else 1 := by
  simp only [gErrAt, List.getD_eq_getElem?_getD, List.getElem?_eq_getElem hk, h, h2, Option.getD_some, if_true, if_false, Bool.false_eq_true]
set_option maxHeartbeats 4000000 in
theorem checkQuantity_any (q : Quantity) (B : Nat) (w : World) (hq : QIn w B q) (hB : B ≤ w.heap.size) :
    Calls Tryz.prog 69 #[.agg #[.string q.name, .int .i64 q.lo, .int .i64 q.hi, .int .i64 q.rise, .int .i64 q.fall, .int .i64 q.bad, .slice q.gA q.gs.length q.gc]] w fun e w' =>
      e = .returned (.int .i64 (checkQB q)) ∧ Below w.heap.size w w' := by
  have hl := hq.len
  have hcap := hq.cap
  have hcap2 := hq.cap2
  cases h1 : isVal q.lo
  · have HC := Lib.hid (show checkQB q = 1 from by simp [checkQB, h1])
    go_enter Tryz.func69, Tryz.ntmps69
    go_wp2_with (first | (go_at_call 33; refine (isValue_any _ _).mono ?_; rintro e w' ⟨rfl, rfl⟩) | (go_at_call 32; refine (within_any _ _ _ _).mono ?_; rintro e w' ⟨rfl, rfl⟩))
    go_ret
    exact ⟨ret_int HC.out.symm, (by (repeat (refine Below.alloc ?_ (by first | exact Nat.le_refl _ | omega | (simp; done) | (simp; omega)) _)); exact Below.refl _ _)⟩
  cases h2 : isVal q.hi
  · have HC := Lib.hid (show checkQB q = 1 from by simp [checkQB, h1, h2])
    go_enter Tryz.func69, Tryz.ntmps69
    go_wp2_with (first | (go_at_call 33; refine (isValue_any _ _).mono ?_; rintro e w' ⟨rfl, rfl⟩) | (go_at_call 32; refine (within_any _ _ _ _).mono ?_; rintro e w' ⟨rfl, rfl⟩))
    go_ret
    exact ⟨ret_int HC.out.symm, (by (repeat (refine Below.alloc ?_ (by first | exact Nat.le_refl _ | omega | (simp; done) | (simp; omega)) _)); exact Below.refl _ _)⟩
  cases h3 : decide (q.lo ≤ q.hi)
  · have h3' : decide (q.hi < q.lo) = true := by simp at h3 ⊢; omega
    have HC := Lib.hid (show checkQB q = 1 from by simp [checkQB, h1, h2, h3])
    go_enter Tryz.func69, Tryz.ntmps69
    go_wp2_with (first | (go_at_call 33; refine (isValue_any _ _).mono ?_; rintro e w' ⟨rfl, rfl⟩) | (go_at_call 32; refine (within_any _ _ _ _).mono ?_; rintro e w' ⟨rfl, rfl⟩))
    go_ret
    exact ⟨ret_int HC.out.symm, (by (repeat (refine Below.alloc ?_ (by first | exact Nat.le_refl _ | omega | (simp; done) | (simp; omega)) _)); exact Below.refl _ _)⟩
  have h3' : decide (q.hi < q.lo) = false := by simp at h3 ⊢; omega
  cases h4 : withinB q.rise 0 10000
  · have HC := Lib.hid (show checkQB q = 1 from by simp [checkQB, h1, h2, h3, h4])
    go_enter Tryz.func69, Tryz.ntmps69
    go_wp2_with (first | (go_at_call 33; refine (isValue_any _ _).mono ?_; rintro e w' ⟨rfl, rfl⟩) | (go_at_call 32; refine (within_any _ _ _ _).mono ?_; rintro e w' ⟨rfl, rfl⟩))
    go_ret
    exact ⟨ret_int HC.out.symm, (by (repeat (refine Below.alloc ?_ (by first | exact Nat.le_refl _ | omega | (simp; done) | (simp; omega)) _)); exact Below.refl _ _)⟩
  cases h5 : withinB q.fall 0 10000
  · have HC := Lib.hid (show checkQB q = 1 from by simp [checkQB, h1, h2, h3, h4, h5])
    go_enter Tryz.func69, Tryz.ntmps69
    go_wp2_with (first | (go_at_call 33; refine (isValue_any _ _).mono ?_; rintro e w' ⟨rfl, rfl⟩) | (go_at_call 32; refine (within_any _ _ _ _).mono ?_; rintro e w' ⟨rfl, rfl⟩))
    go_ret
    exact ⟨ret_int HC.out.symm, (by (repeat (refine Below.alloc ?_ (by first | exact Nat.le_refl _ | omega | (simp; done) | (simp; omega)) _)); exact Below.refl _ _)⟩
  by_cases h6 : q.gs.length ≤ 8
  rotate_left
  · have HC := Lib.hid (show checkQB q = 3 from by simp [checkQB, h1, h2, h3, h4, h5, h6])
    go_enter Tryz.func69, Tryz.ntmps69
    go_wp2_with (first | (go_at_call 33; refine (isValue_any _ _).mono ?_; rintro e w' ⟨rfl, rfl⟩) | (go_at_call 32; refine (within_any _ _ _ _).mono ?_; rintro e w' ⟨rfl, rfl⟩))
    go_ret
    exact ⟨ret_int HC.out.symm, (by (repeat (refine Below.alloc ?_ (by first | exact Nat.le_refl _ | omega | (simp; done) | (simp; omega)) _)); exact Below.refl _ _)⟩
  cases h7 : withinB q.bad 0 q.gs.length
  · have HC := Lib.hid (show checkQB q = 1 from by simp [checkQB, h1, h2, h3, h4, h5, h6, h7])
    go_enter Tryz.func69, Tryz.ntmps69
    go_wp2_with (first | (go_at_call 33; refine (isValue_any _ _).mono ?_; rintro e w' ⟨rfl, rfl⟩) | (go_at_call 32; refine (within_any _ _ _ _).mono ?_; rintro e w' ⟨rfl, rfl⟩))
    go_ret
    exact ⟨ret_int HC.out.symm, (by (repeat (refine Below.alloc ?_ (by first | exact Nat.le_refl _ | omega | (simp; done) | (simp; omega)) _)); exact Below.refl _ _)⟩
  have HC := Lib.hid (show checkQB q = gErr q.gs from by simp [checkQB, h1, h2, h3, h4, h5, h6, h7])
  have Hsl := Lib.hid hq.sl; have Hnm := Lib.hid hq.gnm
  go_enter Tryz.func69, Tryz.ntmps69
  go_wp2_with (first | (go_at_call 33; refine (isValue_any _ _).mono ?_; rintro e w' ⟨rfl, rfl⟩) | (go_at_call 32; refine (within_any _ _ _ _).mono ?_; rintro e w' ⟨rfl, rfl⟩))
  have Hw : Hid (Below (w.heap.size + 1) (w.alloc (.cells #[.string q.name, .int .i64 q.lo, .int .i64 q.hi, .int .i64 q.rise, .int .i64 q.fall, .int .i64 q.bad, .slice q.gA q.gs.length q.gc] 47)) (w.alloc (.cells #[.string q.name, .int .i64 q.lo, .int .i64 q.hi, .int .i64 q.rise, .int .i64 q.fall, .int .i64 q.bad, .slice q.gA q.gs.length q.gc] 47))) := Below.refl _ _
  have Hbw := Lib.hid ((Below.refl w.heap.size w).alloc (Nat.le_refl _) (.cells #[.string q.name, .int .i64 q.lo, .int .i64 q.hi, .int .i64 q.rise, .int .i64 q.fall, .int .i64 q.bad, .slice q.gA q.gs.length q.gc] 47))
  go_loopw [55] (fun i wr => ∃ k : Nat, k ≤ q.gs.length ∧ i = .int .i64 k ∧ Hid (firstErr (gErrAt q.gs) k = 0) ∧ Hid (Below (w.heap.size + 1) (w.alloc (.cells #[.string q.name, .int .i64 q.lo, .int .i64 q.hi, .int .i64 q.rise, .int .i64 q.fall, .int .i64 q.bad, .slice q.gA q.gs.length q.gc] 47)) wr)) (fun i _ => q.gs.length - (intOf i).toNat)
  case atStart => exact ⟨0, by omega, rfl, Lib.hid rfl, Hw⟩
  case round =>
    clear Hw
    obtain ⟨k, hk, rfl, He, Hb⟩ := hrel
    have hsz : w.heap.size < wr.heap.size := by have := Hb.out.size; simp at this; omega
    have Hbel := Lib.hid (Hbw.out.trans (Hb.out.mono (Nat.le_succ _)))
    by_cases hlt : k < q.gs.length
    · have HA := Lib.hid ((Hsl.out.below_le Hbel.out hB).mono (B' := w.heap.size) hB)
      obtain ⟨b, off, hgA, hbB, hcells⟩ := HA.out (by omega)
      have h0 := hcells k hlt
      have Hn := Lib.hid (Hnm.out q.gs[k] (List.getElem_mem hlt))
      clear hcells
      have q0 : ∀ j v, (#[Value.string q.name, .int .i64 q.lo, .int .i64 q.hi, .int .i64 q.rise, .int .i64 q.fall, .int .i64 q.bad, .slice q.gA q.gs.length q.gc] : Array Value)[j]? = some v → wr.cell? ⟨w.heap.size, j, none⟩ = some v := fun j v hv => (Hb.out.cell (p := ⟨w.heap.size, j, none⟩) (by simp)).trans (alloc_cell hv)
      have q6 := q0 6 _ rfl
      clear q0
      have c0 : wr.cell? ⟨b, off + k * 4, none⟩ = some (.string q.gs[k].name) := h0 0 _ rfl
      have c1 : wr.cell? ⟨b, off + k * 4 + 1, none⟩ = some (.int .i64 q.gs[k].acc) := h0 1 _ rfl
      have c2 : wr.cell? ⟨b, off + k * 4 + 2, none⟩ = some (.int .i64 q.gs[k].drift) := h0 2 _ rfl
      have c3 : wr.cell? ⟨b, off + k * 4 + 3, none⟩ = some (.int .i64 q.gs[k].since) := h0 3 _ rfl
      have Hg := Lib.hid hgA
      clear h0
      cases hn : nameB q.gs[k].name
      · have HE := Lib.hid (gErr_at hlt He.out (by rw [gErrAt_name hlt hn]; decide))
        have HE2 := Lib.hid (gErrAt_name hlt hn)
        rw [hgA] at q6 ⊢
        go_wp2_with (go_at_call 66; refine (isName_any q.gs[k].name (by have := Hn.out; unfold maxLen; omega) _).mono ?_; rintro e w1 ⟨rfl, rfl⟩)
        go_ret
        exact ⟨ret_int (by rw [HC.out, HE.out, HE2.out]), Hbel.out.trans ((by (repeat (refine Below.alloc ?_ (by first | exact Nat.le_refl _ | omega | (simp; done) | (simp; omega)) _)); exact Below.refl _ _))⟩
      have HB1 := Lib.hid ((Below.refl w.heap.size wr).alloc (Nat.le_of_lt hsz) (.cells #[.string q.gs[k].name, .int .i64 q.gs[k].acc, .int .i64 q.gs[k].drift, .int .i64 q.gs[k].since] 28))
      have HCon := Lib.hid (conGauge_any (q.gs.take k) q.gs[k].name k (by simp; omega) (some ⟨b, off, none⟩) q.gc w.heap.size wr.heap.size (wr.alloc (.cells #[.string q.gs[k].name, .int .i64 q.gs[k].acc, .int .i64 q.gs[k].drift, .int .i64 q.gs[k].since] 28))
        ((by rw [← hgA]; exact HA.out.take k : Sl wr w.heap.size 4 encG (some ⟨b, off, none⟩) (q.gs.take k)).below HB1.out) (by simp; omega) (by simp; omega) (alloc_cell rfl) (by simp))
      have hn' := Lib.hid hn
      cases ht : (q.gs.take k).any (fun x => strEq x.name q.gs[k].name)
      rotate_left
      · have HE := Lib.hid (gErr_at hlt He.out (by rw [gErrAt_twice hlt hn ht]; decide))
        have HE2 := Lib.hid (gErrAt_twice hlt hn ht)
        rw [hgA] at q6 ⊢
        go_wp2_with (first | (go_at_call 66; refine (isName_any q.gs[k].name (by have := Hn.out; unfold maxLen; omega) _).mono ?_; rintro e w1 ⟨rfl, rfl⟩) | (go_at_call 102; refine HCon.out.mono ?_; rintro e w1 ⟨rfl, hb1⟩))
        go_ret
        exact ⟨ret_int (by rw [HC.out, HE.out, HE2.out]), Hbel.out.trans (HB1.out.trans (hb1.mono (by simp; omega)))⟩
      have HE0 := Lib.hid (gErrAt_rest hlt hn ht)
      cases hgb : gaugeB q.gs[k]
      · have HE := Lib.hid (gErr_at hlt He.out (by rw [HE0.out, hgb]; decide))
        rw [hgA] at q6 ⊢
        go_wp2_with (first | (go_at_call 66; refine (isName_any q.gs[k].name (by have := Hn.out; unfold maxLen; omega) _).mono ?_; rintro e w1 ⟨rfl, rfl⟩) | (go_at_call 102; refine HCon.out.mono ?_; rintro e w1 ⟨rfl, hb1⟩; obtain ⟨hcl, hfr⟩ := bcell hb1) | (go_at_call 46; refine (checkGauge_any q.gs[k] _).mono ?_; rintro e w2 ⟨rfl, hb2⟩))
        go_ret
        exact ⟨ret_int (by rw [HC.out, HE.out, HE0.out, hgb]; rfl), Hbel.out.trans (HB1.out.trans ((hb1.mono (by simp; omega)).trans (hb2.mono (by have := hb1.size; simp at this; omega))))⟩
      · rw [hgA] at q6 ⊢
        go_wp2_with (first | (go_at_call 66; refine (isName_any q.gs[k].name (by have := Hn.out; unfold maxLen; omega) _).mono ?_; rintro e w1 ⟨rfl, rfl⟩) | (go_at_call 102; refine HCon.out.mono ?_; rintro e w1 ⟨rfl, hb1⟩; obtain ⟨hcl, hfr⟩ := bcell hb1) | (go_at_call 46; refine (checkGauge_any q.gs[k] _).mono ?_; rintro e w2 ⟨rfl, hb2⟩))
        go_roundw
        case rel => exact ⟨k + 1, by omega, by go_num, Lib.hid (by rw [firstErr_succ He.out, HE0.out, hgb]; rfl), by rw [hgA] at Hb; exact Lib.hid (Hb.out.trans (((Below.refl _ _).alloc (by omega) _).trans ((hb1.mono (by simp; omega)).trans (hb2.mono (by have := hb1.size; simp at this; omega)))))⟩
        case measure => simp [intOf]; omega
    · go_wp2
      go_ret
      exact ⟨ret_int (by rw [HC.out, gErr, ← He.out]; congr 1; omega), Hbel.out⟩
end Go.Proofs.YtcgnpndfhhcplaaGreatDoor
