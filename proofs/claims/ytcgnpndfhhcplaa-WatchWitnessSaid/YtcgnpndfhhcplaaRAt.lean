/-
  The specification's at: where a quantity may be at a time, by what is known. Conditions: bounds.
-/
import Derived.Test.YtcgnpndfhhcplaaRAgree
import Derived.Test.YtcgnpndfhhcplaaRange
import Derived.Test.YtcgnpndfhhcplaaBlk
namespace Go.Proofs.Ytcgnpndfhhcplaa
open Go.RowKit W7
attribute [local go_sem] Oper.semAt_some
def loAt (r f : Int) (a : K) (T : List K) (t : Int) (j : Nat) : Int := (T.take j).foldl (fun x b => max x (b.lo - dn r f b.t t)) (a.lo - dn r f a.t t)
def hiAt (r f : Int) (a : K) (T : List K) (t : Int) (j : Nat) : Int := (T.take j).foldl (fun x b => min x (b.hi + dn r f t b.t)) (a.hi + dn r f t a.t)
theorem loAt_succ (r f : Int) (a : K) (T : List K) (t : Int) (j : Nat) (h : j < T.length) : loAt r f a T t (j + 1) = max (loAt r f a T t j) (T[j].lo - dn r f T[j].t t) := by
  unfold loAt; rw [List.take_succ_eq_append_getElem h, List.foldl_append]; rfl
theorem hiAt_succ (r f : Int) (a : K) (T : List K) (t : Int) (j : Nat) (h : j < T.length) : hiAt r f a T t (j + 1) = min (hiAt r f a T t j) (T[j].hi + dn r f t T[j].t) := by
  unfold hiAt; rw [List.take_succ_eq_append_getElem h, List.foldl_append]; rfl
theorem loAt_all (r f : Int) (a : K) (T : List K) (t : Int) : loAt r f a T t T.length = loX r f (a :: T) t := by unfold loAt loX; rw [List.take_length]; rfl
theorem hiAt_all (r f : Int) (a : K) (T : List K) (t : Int) : hiAt r f a T t T.length = hiX r f (a :: T) t := by unfold hiAt hiX; rw [List.take_length]; rfl
set_option maxHeartbeats 1000000 in
set_option maxRecDepth 100000 in
theorem refAt_any (q : Quantity) (a : K) (T : List K) (t : Int) (A : Option Addr) (c B n : Nat) (hn : n = T.length + 1) (w : World) (hr : 0 ≤ q.rise ∧ q.rise ≤ 10000) (hf : 0 ≤ q.fall ∧ q.fall ≤ 10000) (ht : 0 ≤ t ∧ t ≤ 100000) (hA : Sl w B 3 encK A (a :: T)) (hB : B ≤ w.heap.size) (hL : ∀ x ∈ a :: T, BndK 1000000000000 x) (hl : T.length ≤ 1000) :
    Calls Try.prog 70 #[.agg #[.string q.name, .int .i64 q.lo, .int .i64 q.hi, .int .i64 q.rise, .int .i64 q.fall, .int .i64 q.bad, .slice q.gA q.gs.length q.gc], .slice A n c, .int .i64 t] w fun e w' =>
      e = .returned (.agg #[.int .i64 (loX q.rise q.fall (a :: T) t), .int .i64 (hiX q.rise q.fall (a :: T) t)]) ∧ Below w.heap.size w w' := by
  obtain ⟨b, off, rfl, hbB, hcells⟩ := hA (by simp)
  have hbw : b < w.heap.size := by omega
  have HC := Lib.hid (fun (X : World) (hX : Below w.heap.size w X) (k : Nat) (hk : k < (a :: T).length) (j : Nat) (v : Value) (hv : (encK (a :: T)[k])[j]? = some v) => (hX.cell (p := ⟨b, off + k * 3 + j, none⟩) hbw).trans (hcells k hk j v hv))
  have HL := Lib.hid hL
  have Hr := Lib.hid hr
  have Hf := Lib.hid hf
  have Hn := Lib.hid hn
  have hn1 : (0 : Int) < (n : Int) := by omega
  have hn0 : 0 < n := by omega
  obtain ⟨r0, hr0⟩ : ∃ x, x = loX q.rise q.fall (a :: T) t := ⟨_, rfl⟩
  obtain ⟨r1, hr1⟩ : ∃ x, x = hiX q.rise q.fall (a :: T) t := ⟨_, rfl⟩
  rw [← hr0, ← hr1]
  have Hr0 := Lib.hid (hr0.trans (loAt_all q.rise q.fall a T t).symm)
  have Hr1 := Lib.hid (hr1.trans (hiAt_all q.rise q.fall a T t).symm)
  obtain ⟨W0, hW0⟩ : ∃ W0, W0 = (w.alloc (.cells #[.string q.name, .int .i64 q.lo, .int .i64 q.hi, .int .i64 q.rise, .int .i64 q.fall, .int .i64 q.bad, .slice q.gA q.gs.length q.gc] 26)).alloc (.cells #[.int .i64 0, .int .i64 0] 23) := ⟨_, rfl⟩
  have HB0 := Lib.hid (show Below w.heap.size w W0 by rw [hW0]; exact ((Below.refl _ _).alloc (Nat.le_refl _) _).alloc (by simp) _)
  have hs0 : w.heap.size + 1 < W0.heap.size := by rw [hW0]; simp
  have HQ0 := Lib.hid (show ∀ (X : World), Below (w.heap.size + 1) W0 X → ∀ j v, (#[.string q.name, .int .i64 q.lo, .int .i64 q.hi, .int .i64 q.rise, .int .i64 q.fall, .int .i64 q.bad, .slice q.gA q.gs.length q.gc] : Array Value)[j]? = some v → X.cell? ⟨w.heap.size, j, none⟩ = some v from fun X hX j v hv =>
    (hX.cell (p := ⟨w.heap.size, j, none⟩) (by simp)).trans (by rw [hW0, World.cell?_alloc_lt _ _ _ (by simp)]; exact alloc_cell hv))
  have HC6 := Lib.hid (show W0.cell? ⟨w.heap.size + 1, 0, none⟩ = some (.int .i64 0) ∧ W0.cell? ⟨w.heap.size + 1, 1, none⟩ = some (.int .i64 0) by
    rw [hW0]
    have h := BlkAt.new (W := w) (X := w.alloc (.cells #[.string q.name, .int .i64 q.lo, .int .i64 q.hi, .int .i64 q.rise, .int .i64 q.fall, .int .i64 q.bad, .slice q.gA q.gs.length q.gc] 26)) (cs := #[.int .i64 0, .int .i64 0]) (e := 23) (by simp)
    rw [World.size_alloc] at h
    exact ⟨h.cell 0 _ rfl, h.cell 1 _ rfl⟩)
  have HF6 := Lib.hid (show W0.frozen? ⟨w.heap.size + 1, 0, none⟩ = false ∧ W0.frozen? ⟨w.heap.size + 1, 1, none⟩ = false by
    rw [hW0]
    have h := BlkAt.new (W := w) (X := w.alloc (.cells #[.string q.name, .int .i64 q.lo, .int .i64 q.hi, .int .i64 q.rise, .int .i64 q.fall, .int .i64 q.bad, .slice q.gA q.gs.length q.gc] 26)) (cs := #[.int .i64 0, .int .i64 0]) (e := 23) (by simp)
    rw [World.size_alloc] at h
    exact ⟨h.free 0, h.free 1⟩)
  have HW0 := Lib.hid hW0
  clear hW0 hA hL hr hf hcells hn hr0 hr1
  go_enter Try.func70, Try.ntmps70
  go_wp2
  rw [← HW0.out]
  have a0 : W0.cell? ⟨b, off, none⟩ = some (.int .i64 a.t) := HC.out W0 HB0.out 0 (by simp) 0 _ rfl
  have a1 : W0.cell? ⟨b, off + 1, none⟩ = some (.int .i64 a.lo) := HC.out W0 HB0.out 0 (by simp) 1 _ rfl
  have a2 : W0.cell? ⟨b, off + 2, none⟩ = some (.int .i64 a.hi) := HC.out W0 HB0.out 0 (by simp) 2 _ rfl
  have hb0 : b < W0.heap.size := by omega
  have m0 := later_cell a0 hb0
  have m1 := later_cell a1 hb0
  have m2 := later_cell a2 hb0
  have hw0 : w.heap.size < W0.heap.size := by omega
  have n0 := later_cell (HQ0.out W0 (Below.refl _ _) 0 _ rfl) hw0
  have n1 := later_cell (HQ0.out W0 (Below.refl _ _) 1 _ rfl) hw0
  have n2 := later_cell (HQ0.out W0 (Below.refl _ _) 2 _ rfl) hw0
  have n3 := later_cell (HQ0.out W0 (Below.refl _ _) 3 _ rfl) hw0
  have n4 := later_cell (HQ0.out W0 (Below.refl _ _) 4 _ rfl) hw0
  have n5 := later_cell (HQ0.out W0 (Below.refl _ _) 5 _ rfl) hw0
  have n6 := later_cell (HQ0.out W0 (Below.refl _ _) 6 _ rfl) hw0
  have Ba := Lib.hid (HL.out a (by simp))
  have HF := Lib.hid (fun (X : World) => refFrom_any q a t X Hr.out Hf.out ht (by have := Ba.out; unfold BndK at this; omega) (by have := Ba.out; unfold BndK at this; omega) (by have := Ba.out; unfold BndK at this; omega))
  obtain ⟨l0, hl0⟩ : ∃ x, x = a.lo - dn q.rise q.fall a.t t := ⟨_, rfl⟩
  obtain ⟨hi0, hh0⟩ : ∃ x, x = a.hi + dn q.rise q.fall t a.t := ⟨_, rfl⟩
  rw [← hl0, ← hh0] at HF
  have Hl0 := Lib.hid (show loAt q.rise q.fall a T t 0 = l0 by rw [hl0]; rfl)
  have Hh0 := Lib.hid (show hiAt q.rise q.fall a T t 0 = hi0 by rw [hh0]; rfl)
  clear hl0 hh0 a0 a1 a2
  obtain ⟨RA, hRA⟩ : ∃ R : (Nat → Bool) → Act → World → Prop, R = fun L a' w' => ∃ (e : Later W0) (v9 v10 v11 v12 v13 v14 v7 : Value), w' = e.w ∧ a' = { tmps := #[.agg #[.string q.name, .int .i64 q.lo, .int .i64 q.hi, .int .i64 q.rise, .int .i64 q.fall, .int .i64 q.bad, .slice q.gA q.gs.length q.gc], .slice (some ⟨b, off, none⟩) n c, .int .i64 t, .pointer (some ⟨w.heap.size, 0, none⟩), undef, undef, .pointer (some ⟨w.heap.size + 1, 0, none⟩), v7, undef, v9, v10, v11, v12, v13, v14, undef, undef, undef, undef, undef, undef, undef, undef, undef, undef, undef, undef, undef, undef, undef, undef], defers := [] } ∧ (L 0 = true → v9 = .agg #[.string q.name, .int .i64 q.lo, .int .i64 q.hi, .int .i64 q.rise, .int .i64 q.fall, .int .i64 q.bad, .slice q.gA q.gs.length q.gc]) ∧ (L 1 = true → v10 = .slice (some ⟨b, off, none⟩) n c) ∧ (L 2 = true → v11 = .pointer (some ⟨b, off, none⟩)) ∧ (L 3 = true → v12 = .agg #[.int .i64 a.t, .int .i64 a.lo, .int .i64 a.hi]) ∧ (L 4 = true → v13 = .int .i64 t) ∧ (L 5 = true → v14 = .agg #[.int .i64 l0, .int .i64 hi0]) ∧ (L 6 = true → Hid (∃ gb, v7 = .pointer (some ⟨gb, 0, none⟩) ∧ BlkAt W0 e.w gb [.int .i64 0, .int .i64 0])) := ⟨_, rfl⟩
  have HRA := Lib.hid hRA
  clear hRA
  refine wp_region_inv 7 RA (by kernel_rfl) (by kernel_rfl) (by kernel_rfl) (by kernel_rfl) (by decide) (by kernel_rfl) ?_ ?_ ?_
  · rw [HRA.out]
    exact ⟨⟨_, (Below.refl W0.heap.size W0).drew⟩, _, _, _, _, _, _, _, rfl, rfl, by simp, by simp, by simp, by simp, by simp, by simp, by simp⟩
  · rintro L a' w' i o hi ho hLi haf hInv
    rw [HRA.out] at hInv
    obtain ⟨e, v9, v10, v11, v12, v13, v14, v7, rfl, rfl, h0, h1, h2, h3, h4, h5, h6⟩ := hInv
    have hse : W0.heap.size ≤ e.w.heap.size := e.b.size
    rcases i with _ | _ | _ | _ | _ | _ | _ | i
    case succ.succ.succ.succ.succ.succ.succ => omega
    all_goals (simp only [List.getElem?_cons_zero, List.getElem?_cons_succ, Option.some.injEq] at ho; subst ho)
    · go_wp2
      rw [HRA.out]
      exact ⟨e, _, _, _, _, _, _, _, rfl, rfl, fun _ => rfl, fun z => h1 (by simpa using z), fun z => h2 (by simpa using z), fun z => h3 (by simpa using z), fun z => h4 (by simpa using z), fun z => h5 (by simpa using z), fun z => h6 (by simpa using z)⟩
    · go_wp2
      rw [HRA.out]
      exact ⟨e, _, _, _, _, _, _, _, rfl, rfl, fun z => h0 (by simpa using z), fun _ => rfl, fun z => h2 (by simpa using z), fun z => h3 (by simpa using z), fun z => h4 (by simpa using z), fun z => h5 (by simpa using z), fun z => h6 (by simpa using z)⟩
    · obtain rfl := h1 (haf ⟨1, .data⟩ (by simp) rfl)
      go_wp2
      rw [HRA.out]
      exact ⟨e, _, _, _, _, _, _, _, rfl, rfl, fun z => h0 (by simpa using z), fun _ => rfl, fun _ => rfl, fun z => h3 (by simpa using z), fun z => h4 (by simpa using z), fun z => h5 (by simpa using z), fun z => h6 (by simpa using z)⟩
    · obtain rfl := h2 (haf ⟨2, .data⟩ (by simp) rfl)
      go_wp2
      rw [HRA.out]
      exact ⟨e, _, _, _, _, _, _, _, rfl, rfl, fun z => h0 (by simpa using z), fun z => h1 (by simpa using z), fun _ => rfl, fun _ => rfl, fun z => h4 (by simpa using z), fun z => h5 (by simpa using z), fun z => h6 (by simpa using z)⟩
    · go_wp2
      rw [HRA.out]
      exact ⟨e, _, _, _, _, _, _, _, rfl, rfl, fun z => h0 (by simpa using z), fun z => h1 (by simpa using z), fun z => h2 (by simpa using z), fun z => h3 (by simpa using z), fun _ => rfl, fun z => h5 (by simpa using z), fun z => h6 (by simpa using z)⟩
    · obtain rfl := h0 (haf ⟨0, .data⟩ (by simp) rfl)
      obtain rfl := h3 (haf ⟨3, .data⟩ (by simp) rfl)
      obtain rfl := h4 (haf ⟨4, .data⟩ (by simp) rfl)
      go_wp2_with (go_at_call 80; refine (HF.out _).mono ?_; rintro r w4 ⟨rfl, hNew⟩)
      rw [HRA.out]
      exact ⟨⟨w4, e.b.trans (hNew.mono e.b.size)⟩, _, _, _, _, _, _, _, rfl, rfl, fun _ => rfl, fun z => h1 (by simpa using z), fun z => h2 (by simpa using z), fun _ => rfl, fun _ => rfl, fun _ => rfl, fun z => (by obtain ⟨gb, p1, p2⟩ := (h6 (by simpa using z)).out; exact Lib.hid ⟨gb, p1, p2.below hNew⟩)⟩
    · have hNew : Below e.w.heap.size e.w (e.w.alloc (.cells #[.int .i64 0, .int .i64 0] 23)) := (Below.refl _ _).alloc (Nat.le_refl _) _
      go_wp2
      rw [HRA.out]
      exact ⟨⟨_, e.b.alloc hse (.cells #[.int .i64 0, .int .i64 0] 23)⟩, _, _, _, _, _, _, _, rfl, rfl, fun z => h0 (by simpa using z), fun z => h1 (by simpa using z), fun z => h2 (by simpa using z), fun z => h3 (by simpa using z), fun z => h4 (by simpa using z), fun z => h5 (by simpa using z), fun _ => Lib.hid ⟨_, rfl, BlkAt.new hse⟩⟩
  · rintro L a' w' hL hInv
    rw [HRA.out] at hInv
    obtain ⟨e, v9, v10, v11, v12, v13, v14, v7, rfl, rfl, h0, h1, h2, h3, h4, h5, h6⟩ := hInv
    obtain rfl := h0 (hL 0 (by omega))
    obtain rfl := h1 (hL 1 (by omega))
    obtain rfl := h2 (hL 2 (by omega))
    obtain rfl := h3 (hL 3 (by omega))
    obtain rfl := h4 (hL 4 (by omega))
    obtain rfl := h5 (hL 5 (by omega))
    obtain ⟨gb7, rfl, hgb7⟩ := (h6 (hL 6 (by omega))).out
    have hse : W0.heap.size ≤ e.w.heap.size := e.b.size
    clear h6 hL HRA
    have z0 := hgb7.cell 0 _ rfl
    have z1 := hgb7.cell 1 _ rfl
    have z2 := hgb7.free 0
    have z3 := hgb7.free 1
    have hg7 := hgb7.hi
    have Hg7 := Lib.hid hgb7
    clear hgb7
    go_wp2
    have hn7 : W0.heap.size ≤ gb7 := Hg7.out.lo
    have HbE := Lib.hid (show Below W0.heap.size W0 ((e.w.setCell ⟨gb7, 0, none⟩ (.int .i64 l0)).setCell ⟨gb7, 1, none⟩ (.int .i64 hi0)) from (e.b.setCell (p := ⟨gb7, 0, none⟩) hn7 _).setCell (p := ⟨gb7, 1, none⟩) hn7 _)
    have y0 : ((e.w.setCell ⟨gb7, 0, none⟩ (.int .i64 l0)).setCell ⟨gb7, 1, none⟩ (.int .i64 hi0)).cell? ⟨gb7, 0, none⟩ = some (.int .i64 l0) := by
      rw [World.cell?_setCell_other _ _ _ _ (by simp)]; exact World.cell?_setCell_same' _ _ _ (by rw [z0]; rfl)
    have y1 : ((e.w.setCell ⟨gb7, 0, none⟩ (.int .i64 l0)).setCell ⟨gb7, 1, none⟩ (.int .i64 hi0)).cell? ⟨gb7, 1, none⟩ = some (.int .i64 hi0) :=
      World.cell?_setCell_same' _ _ _ (by rw [World.cell?_setCell_other _ _ _ _ (by simp), z1]; rfl)
    go_loopw [8] (fun v8 wr => ∃ j : Nat, j ≤ T.length ∧ v8 = .int .i64 ((j : Int) + 1) ∧ Hid (wr.cell? ⟨gb7, 0, none⟩ = some (.int .i64 (loAt q.rise q.fall a T t j))) ∧ Hid (wr.cell? ⟨gb7, 1, none⟩ = some (.int .i64 (hiAt q.rise q.fall a T t j))) ∧ Hid (wr.frozen? ⟨gb7, 0, none⟩ = false ∧ wr.frozen? ⟨gb7, 1, none⟩ = false) ∧ Hid (Below W0.heap.size W0 wr) ∧ gb7 < wr.heap.size) (fun v8 _ => n - (intOf v8).toNat)
    case atStart => exact ⟨0, by omega, rfl, Lib.hid (by rw [Hl0.out]; exact y0), Lib.hid (by rw [Hh0.out]; exact y1), Lib.hid ⟨by rw [World.frozen?_setCell, World.frozen?_setCell]; exact z2, by rw [World.frozen?_setCell, World.frozen?_setCell]; exact z3⟩, HbE, by simpa [World.setCell] using hg7⟩
    case round =>
      obtain ⟨j, hj, rfl, Hy0, Hy1, Hyf, Hbr, hgr⟩ := hrel
      have hsz := Hbr.out.size
      have HwR := Lib.hid (HB0.out.trans (Hbr.out.mono (by omega)))
      have hnn := Hn.out
      by_cases hlt : j < T.length
      · have hltI : (j : Int) + 1 < (n : Int) := by omega
        have hw1 : w.heap.size < wr.heap.size := by omega
        have hbr : b < wr.heap.size := by omega
        have e1 : ((j : Int) + 1).toNat = j + 1 := by omega
        obtain ⟨z, hz⟩ : ∃ z, z = T[j] := ⟨_, rfl⟩
        have c0 : wr.cell? ⟨b, off + (j + 1) * 3, none⟩ = some (.int .i64 z.t) := by rw [hz]; exact HC.out wr HwR.out (j + 1) (by simp; omega) 0 _ rfl
        have c1 : wr.cell? ⟨b, off + (j + 1) * 3 + 1, none⟩ = some (.int .i64 z.lo) := by rw [hz]; exact HC.out wr HwR.out (j + 1) (by simp; omega) 1 _ rfl
        have c2 : wr.cell? ⟨b, off + (j + 1) * 3 + 2, none⟩ = some (.int .i64 z.hi) := by rw [hz]; exact HC.out wr HwR.out (j + 1) (by simp; omega) 2 _ rfl
        have Bz := Lib.hid (HL.out z (by rw [hz]; simp))
        have HF2 := Lib.hid (fun (X : World) => refFrom_any q z t X Hr.out Hf.out ht (by have := Bz.out; unfold BndK at this; omega) (by have := Bz.out; unfold BndK at this; omega) (by have := Bz.out; unfold BndK at this; omega))
        have HS0 := Lib.hid (loAt_succ q.rise q.fall a T t j hlt)
        have HS1 := Lib.hid (hiAt_succ q.rise q.fall a T t j hlt)
        rw [← hz] at HS0 HS1
        obtain ⟨F0, hF0⟩ : ∃ x, x = z.lo - dn q.rise q.fall z.t t := ⟨_, rfl⟩
        obtain ⟨F1, hF1⟩ : ∃ x, x = z.hi + dn q.rise q.fall t z.t := ⟨_, rfl⟩
        rw [← hF0] at HF2 HS0
        rw [← hF1] at HF2 HS1
        have y0' := Hy0.out
        have y1' := Hy1.out
        revert HS0 HS1 y0' y1'
        generalize loAt q.rise q.fall a T t j = lj
        generalize hiAt q.rise q.fall a T t j = hj'
        intro HS0 HS1 y0' y1'
        obtain ⟨G0, hG0⟩ : ∃ x, x = max lj F0 := ⟨_, rfl⟩
        obtain ⟨G1, hG1⟩ : ∃ x, x = min hj' F1 := ⟨_, rfl⟩
        have HM := Lib.hid (fun (X : World) => refMeet_any lj hj' F0 F1 X)
        rw [← hG0, ← hG1] at HM
        rw [← hG0] at HS0
        rw [← hG1] at HS1
        clear hz hF0 hF1 hG0 hG1
        have m0 := later_cell c0 hbr
        have m1 := later_cell c1 hbr
        have m2 := later_cell c2 hbr
        have m3 := later_cell y0' hgr
        have m4 := later_cell y1' hgr
        have m5 := later_free Hyf.out.1 hgr
        have m6 := later_free Hyf.out.2 hgr
        have n0 := later_cell (HQ0.out wr (Hbr.out.mono (by omega)) 0 _ rfl) hw1
        have n1 := later_cell (HQ0.out wr (Hbr.out.mono (by omega)) 1 _ rfl) hw1
        have n2 := later_cell (HQ0.out wr (Hbr.out.mono (by omega)) 2 _ rfl) hw1
        have n3 := later_cell (HQ0.out wr (Hbr.out.mono (by omega)) 3 _ rfl) hw1
        have n4 := later_cell (HQ0.out wr (Hbr.out.mono (by omega)) 4 _ rfl) hw1
        have n5 := later_cell (HQ0.out wr (Hbr.out.mono (by omega)) 5 _ rfl) hw1
        have n6 := later_cell (HQ0.out wr (Hbr.out.mono (by omega)) 6 _ rfl) hw1
        clear c0 c1 c2
        go_wp2
        refine wp_region_later_tail 9 (by kernel_rfl) (by kernel_rfl) ?_
        simp only [List.take_succ_cons, List.take_zero, List.drop_succ_cons, List.drop_zero]
        repeat (any_goals (first | go_big_quiet_step ((first | (go_at_call 80; exact later_call _ (HF2.out _)) | (go_at_call 79; exact later_call _ (HM.out _)))) | quiet_step ((first | (go_at_call 80; exact later_call _ (HF2.out _)) | (go_at_call 79; exact later_call _ (HM.out _))))))
        refine wpQuiet_nil ?_
        rintro w' ⟨e2, rfl⟩
        have HbN := Lib.hid (((Hbr.out.trans (e2.b.mono hsz)).setCell (p := ⟨gb7, 0, none⟩) hn7 (.int .i64 G0)).setCell (p := ⟨gb7, 1, none⟩) hn7 (.int .i64 G1))
        have x0 := m3 e2
        have x1 := m4 e2
        have x2 := m5 e2
        have x3 := m6 e2
        have hge : gb7 < e2.w.heap.size := by have := e2.b.size; omega
        have X0 := Lib.hid (show ((e2.w.setCell ⟨gb7, 0, none⟩ (.int .i64 G0)).setCell ⟨gb7, 1, none⟩ (.int .i64 G1)).cell? ⟨gb7, 0, none⟩ = some (.int .i64 G0) by
          rw [World.cell?_setCell_other _ _ _ _ (by simp)]; exact World.cell?_setCell_same' _ _ _ (by rw [x0]; rfl))
        have X1 := Lib.hid (show ((e2.w.setCell ⟨gb7, 0, none⟩ (.int .i64 G0)).setCell ⟨gb7, 1, none⟩ (.int .i64 G1)).cell? ⟨gb7, 1, none⟩ = some (.int .i64 G1) from
          World.cell?_setCell_same' _ _ _ (by rw [World.cell?_setCell_other _ _ _ _ (by simp), x1]; rfl))
        have X2 := Lib.hid (show ((e2.w.setCell ⟨gb7, 0, none⟩ (.int .i64 G0)).setCell ⟨gb7, 1, none⟩ (.int .i64 G1)).frozen? ⟨gb7, 0, none⟩ = false ∧ ((e2.w.setCell ⟨gb7, 0, none⟩ (.int .i64 G0)).setCell ⟨gb7, 1, none⟩ (.int .i64 G1)).frozen? ⟨gb7, 1, none⟩ = false from
          ⟨by rw [World.frozen?_setCell, World.frozen?_setCell]; exact x2, by rw [World.frozen?_setCell, World.frozen?_setCell]; exact x3⟩)
        go_wp2
        go_roundw
        case rel => exact ⟨j + 1, by omega, by go_num, Lib.hid (by rw [HS0.out]; exact X0.out), Lib.hid (by rw [HS1.out]; exact X1.out), X2, HbN, by simpa [World.setCell] using hge⟩
        case measure => simp [intOf]; omega
      · obtain rfl : j = T.length := by omega
        have y0' := Hy0.out
        have y1' := Hy1.out
        rw [← Hr0.out] at y0'
        rw [← Hr1.out] at y1'
        have hnI : (n : Int) = (T.length : Int) + 1 := by omega
        have hltI : decide ((T.length : Int) + 1 < (n : Int)) = false := by simp; omega
        have hf6 : wr.frozen? ⟨w.heap.size + 1, 0, none⟩ = false := (Hbr.out.frozen (p := ⟨w.heap.size + 1, 0, none⟩) hs0).trans HF6.out.1
        have hf7 : wr.frozen? ⟨w.heap.size + 1, 1, none⟩ = false := (Hbr.out.frozen (p := ⟨w.heap.size + 1, 1, none⟩) hs0).trans HF6.out.2
        have hc6 := (Hbr.out.cell (p := ⟨w.heap.size + 1, 0, none⟩) hs0).trans HC6.out.1
        have hc7 := (Hbr.out.cell (p := ⟨w.heap.size + 1, 1, none⟩) hs0).trans HC6.out.2
        have hne : gb7 ≠ w.heap.size + 1 := by omega
        have hw1 : w.heap.size + 1 < wr.heap.size := by omega
        clear hnI
        go_wp2
        have hWF := HwR.out
        obtain ⟨WF, hF⟩ : ∃ WF, WF = (wr.setCell ⟨w.heap.size + 1, 0, none⟩ (.int .i64 r0)).setCell ⟨w.heap.size + 1, 1, none⟩ (.int .i64 r1) := ⟨_, rfl⟩
        have q0 : WF.cell? ⟨w.heap.size + 1, 0, none⟩ = some (.int .i64 r0) := by
          rw [hF, World.cell?_setCell_other _ _ _ _ (by simp)]; exact World.cell?_setCell_same' _ _ _ (by rw [hc6]; rfl)
        have q1 : WF.cell? ⟨w.heap.size + 1, 1, none⟩ = some (.int .i64 r1) := by
          rw [hF]; exact World.cell?_setCell_same' _ _ _ (by rw [World.cell?_setCell_other _ _ _ _ (by simp), hc7]; rfl)
        have hBF : Below w.heap.size w WF := by
          rw [hF]
          exact (hWF.setCell (p := ⟨w.heap.size + 1, 0, none⟩) (by simp) _).setCell (p := ⟨w.heap.size + 1, 1, none⟩) (by simp) _
        rw [← hF]
        clear hF
        exact bodyPost_ret (v := .agg #[.int .i64 r0, .int .i64 r1]) (by simp [results, Try.results70, go_sem, q0, q1]) rfl ⟨rfl, hBF⟩
end Go.Proofs.Ytcgnpndfhhcplaa
