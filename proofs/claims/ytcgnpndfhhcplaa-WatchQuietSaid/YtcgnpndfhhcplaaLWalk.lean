/-
  The law's walk: a history. Conditions: bounds.
-/
import Derived.Test.YtcgnpndfhhcplaaBroken
import Derived.Test.YtcgnpndfhhcplaaBlk
namespace Go.Proofs.Ytcgnpndfhhcplaa
open Go.RowKit W7
attribute [local go_sem] Oper.semAt_some
theorem lawWithin_b (n lo hi : Int) (w : World) (h : lo ≤ hi) (h1 : -1000000000000 ≤ lo) (h2 : hi ≤ 1000000000000) :
    Calls Try.prog 26 #[.int .i64 n, .int .i64 lo, .int .i64 hi] w fun e w' => e = .returned (.int .i64 (withinV n lo hi)) ∧ Below w.heap.size w w' :=
  (lawWithin_any n lo hi w h h1 h2).mono fun _ _ ⟨k1, k2⟩ => ⟨k1, by rw [k2]; exact Below.refl _ _⟩
theorem walk_one {q : Quantity} {y : Int} (h1 : q.lo ≤ y) (h2 : y ≤ q.hi) : Walk q [y] := ⟨by simp, by simpa using h1, by simpa using h2, fun i hi => by simp at hi⟩
theorem walk_snoc {q : Quantity} {X : List Int} {k : Nat} {y : Int} (h : Walk q X) (hk : X.length = k + 1) (h1 : X.getD k 0 - q.fall ≤ y) (h2 : y ≤ X.getD k 0 + q.rise) : Walk q (X ++ [y]) := by
  have e0 : ∀ i, i < X.length → (X ++ [y]).getD i 0 = X.getD i 0 := fun i hi => by
    rw [List.getD_eq_getElem?_getD, List.getD_eq_getElem?_getD, List.getElem?_append_left hi]
  have e1 : (X ++ [y]).getD (k + 1) 0 = y := by
    rw [List.getD_eq_getElem?_getD, List.getElem?_append_right (by omega), hk]; simp
  refine ⟨by simp, by rw [e0 0 (by omega)]; exact h.lo, by rw [e0 0 (by omega)]; exact h.hi, fun i hi => ?_⟩
  rw [List.length_append] at hi
  simp only [List.length_cons, List.length_nil] at hi
  by_cases hik : i = k
  · subst hik
    rw [e1, e0 i (by omega)]
    exact ⟨h1, h2⟩
  · rw [e0 i (by omega), e0 (i + 1) (by omega)]
    exact h.st i (by omega)
def WalkR (q : Quantity) (n : Nat) (w : World) (e : Ending) (w' : World) : Prop :=
  ∃ (v : Value) (X : List Int), e = .returned v ∧ X.length = n + 1 ∧ Walk q X ∧ w'.ownsRow w.heap.size 3 1 v X.length (X.map (.int .i64)) ∧ Below w.heap.size w w'
set_option maxHeartbeats 1000000 in
set_option maxRecDepth 100000 in
theorem lawWalk_any (q : Quantity) (bg : Int) (st : List Int) (A : Option Addr) (c B : Nat) (w : World) (hA : Sl w B 1 encInt1 A st) (hB : B ≤ w.heap.size) (hl : st.length ≤ 1000)
    (hlo : -1000000000 ≤ q.lo ∧ q.lo ≤ 1000000000) (hhi : -1000000000 ≤ q.hi ∧ q.hi ≤ 1000000000) (hlh : q.lo ≤ q.hi) (hr : 0 ≤ q.rise ∧ q.rise ≤ 10000) (hf : 0 ≤ q.fall ∧ q.fall ≤ 10000) :
    Calls Try.prog 21 #[.agg #[.string q.name, .int .i64 q.lo, .int .i64 q.hi, .int .i64 q.rise, .int .i64 q.fall, .int .i64 q.bad, .slice q.gA q.gs.length q.gc], .int .i64 bg, .slice A st.length c] w (WalkR q st.length w) := by
  have HA := Lib.hid hA
  obtain ⟨W0, hW0⟩ : ∃ W0, W0 = w.alloc (.cells #[.string q.name, .int .i64 q.lo, .int .i64 q.hi, .int .i64 q.rise, .int .i64 q.fall, .int .i64 q.bad, .slice q.gA q.gs.length q.gc] 26) := ⟨_, rfl⟩
  have HB0 := Lib.hid (show Below w.heap.size w W0 by rw [hW0]; exact (Below.refl _ _).alloc (Nat.le_refl _) _)
  have Hs0 := Lib.hid (show W0.heap.size = w.heap.size + 1 by rw [hW0]; simp)
  have hs0 : w.heap.size < W0.heap.size := by have := Hs0.out; omega
  have HQ0 := Lib.hid (show ∀ (X : World), Below (w.heap.size + 1) W0 X → ∀ j v, (#[.string q.name, .int .i64 q.lo, .int .i64 q.hi, .int .i64 q.rise, .int .i64 q.fall, .int .i64 q.bad, .slice q.gA q.gs.length q.gc] : Array Value)[j]? = some v → X.cell? ⟨w.heap.size, j, none⟩ = some v from fun X hX j v hv =>
    (hX.cell (p := ⟨w.heap.size, j, none⟩) (by simp)).trans (by rw [hW0]; exact alloc_cell hv))
  have q1 : W0.cell? ⟨w.heap.size, 1, none⟩ = some (.int .i64 q.lo) := HQ0.out W0 (Below.refl _ _) 1 _ rfl
  have q2 : W0.cell? ⟨w.heap.size, 2, none⟩ = some (.int .i64 q.hi) := HQ0.out W0 (Below.refl _ _) 2 _ rfl
  have HW0 := Lib.hid hW0
  have HWi := Lib.hid (fun (X : World) => lawWithin_any bg q.lo q.hi X hlh (by omega) (by omega))
  have hVb := withinV_bnd (n := bg) hlh
  obtain ⟨y0, hy0⟩ : ∃ y0, y0 = withinV bg q.lo q.hi := ⟨_, rfl⟩
  rw [← hy0] at HWi hVb
  have HO0 := Lib.hid (World.ownsRow_lit (base := w.heap.size + 1) (e := 3) (size := 1) W0 #[.int .i64 y0] 1 (by rw [Hs0.out]; omega) (by decide) rfl)
  rw [Hs0.out] at HO0
  have HX0 := Lib.hid (walk_one (q := q) hVb.1 hVb.2)
  have HBd := Lib.hid (fun (X : List Int) (h : Walk q X) (t : Int) (ht : 0 ≤ t ∧ t ≤ 100000) => hv_bnd h hr hf hlo hhi t ht)
  have HBW := Lib.hid (show Below (w.heap.size + 1) W0 (W0.alloc (.cells #[.int .i64 y0] 3)) from (Below.refl _ _).alloc (by rw [Hs0.out]; omega) _)
  clear hW0 hA hy0 hVb hlo hhi hlh
  go_enter Try.func21, Try.ntmps21
  go_wp2_with (go_at_call 26; rw [← HW0.out]; refine (HWi.out _).mono ?_; rintro r w1 ⟨rfl, hw1⟩; obtain rfl := hw1.symm)
  go_loopw [7, 8] (fun v7 v8 wr => ∃ (k : Nat) (X : List Int), k ≤ st.length ∧ v8 = .int .i64 k ∧ Hid (X.length = k + 1) ∧ Hid (Walk q X) ∧ Hid (wr.ownsRow (w.heap.size + 1) 3 1 v7 X.length (X.map (.int .i64))) ∧ Hid (Below (w.heap.size + 1) W0 wr)) (fun _ v8 _ => st.length - (intOf v8).toNat)
  case atStart => exact ⟨0, [y0], by omega, rfl, Lib.hid rfl, HX0, (by rw [Hs0.out]; exact HO0), HBW⟩
  case round =>
    obtain ⟨k, X, hk, rfl, Hl, Hw, Ho, Hb⟩ := hrel
    have hsz : w.heap.size < wr.heap.size := by have := Hb.out.size; omega
    have Hwr := Lib.hid (show Below w.heap.size w wr from HB0.out.trans (Hb.out.mono (by omega)))
    by_cases hlt : k < st.length
    · obtain ⟨b, off, rfl, hbB, hcells⟩ := HA.out (by omega)
      have hbw : b < w.heap.size := by omega
      have hbr : b < wr.heap.size := by omega
      have hkX : k < X.length := by have := Hl.out; omega
      obtain ⟨g', cap', rfl, hg'⟩ := own_form Ho.out (by omega)
      have hgr : g' < wr.heap.size := (Ho.out.lt g' rfl).2
      obtain ⟨xk, hxk⟩ : ∃ xk, xk = X[k] := ⟨_, rfl⟩
      obtain ⟨s, hs⟩ : ∃ s, s = st[k] := ⟨_, rfl⟩
      have hgd : X.getD k 0 = xk := by rw [hxk, List.getD_eq_getElem?_getD, List.getElem?_eq_getElem hkX]; rfl
      have hxb := HBd.out X Hw.out k (by omega)
      have e0 : hv X (k : Int) = xk := by unfold hv hvN; rw [← hgd, Int.toNat_natCast, show min k (X.length - 1) = k by omega]
      rw [e0] at hxb
      have m0 := later_cell (show wr.cell? ⟨g', k, none⟩ = some (.int .i64 xk) from (Ho.out.cellAt k (by omega)).trans (by simp [hxk, hkX])) hgr
      have m1 := later_cell (show wr.cell? ⟨b, off + k, none⟩ = some (.int .i64 s) by rw [hs]; have := (Hwr.out.cell (p := ⟨b, off + k * 1 + 0, none⟩) hbw).trans (hcells k hlt 0 _ rfl); simpa using this) hbr
      have m3 := later_cell (show wr.cell? ⟨w.heap.size, 3, none⟩ = some (.int .i64 q.rise) from HQ0.out wr Hb.out 3 _ rfl) hsz
      have m4 := later_cell (show wr.cell? ⟨w.heap.size, 4, none⟩ = some (.int .i64 q.fall) from HQ0.out wr Hb.out 4 _ rfl) hsz
      have HWk := Lib.hid (fun (X : World) => lawWithin_b s (-q.fall) q.rise X (by omega) (by omega) (by omega))
      have hVb := withinV_bnd (n := s) (lo := -q.fall) (hi := q.rise) (by omega)
      obtain ⟨V, hV⟩ : ∃ V, V = withinV s (-q.fall) q.rise := ⟨_, rfl⟩
      rw [← hV] at HWk hVb
      have HN := Lib.hid (walk_snoc (y := xk + V) Hw.out Hl.out (by rw [hgd]; omega) (by rw [hgd]; omega))
      have hkI : (k : Int) < (X.length : Int) := by omega
      have hn1 : X.length ≤ 1001 := by have := Hl.out; omega
      clear hV hs hxk hcells e0 hgd
      go_wp2
      obtain ⟨RW, hRW⟩ : ∃ R : (Nat → Bool) → Act → World → Prop, R = fun L a' w' => ∃ (e : Later wr) (v24 v25 v26 v27 v28 v29 v30 v31 v32 v33 v34 v35 v36 v37 v38 v39 v40 : Value), w' = e.w ∧ a' = { tmps := #[Value.agg #[Value.string q.name, Value.int IntKind.i64 q.lo, Value.int IntKind.i64 q.hi, Value.int IntKind.i64 q.rise, Value.int IntKind.i64 q.fall, Value.int IntKind.i64 q.bad, Value.slice q.gA q.gs.length q.gc], Value.int IntKind.i64 bg, Value.slice (some { block := b, off := off }) st.length c, Value.pointer (some { block := w.heap.size, off := 0 }), undef, undef, Value.slice none 0 0, Value.slice (some { block := g', off := 0 }) X.length cap', Value.int IntKind.i64 ↑k, Value.int IntKind.i64 bg, Value.pointer (some { block := w.heap.size, off := 1 }), Value.pointer (some { block := w.heap.size, off := 1 }), Value.int IntKind.i64 q.lo, Value.pointer (some { block := w.heap.size, off := 1 }), Value.pointer (some { block := w.heap.size, off := 2 }), Value.int IntKind.i64 q.hi, Value.int IntKind.i64 y0, Value.slice (some { block := W0.heap.size, off := 0 }) 1 1, Value.int IntKind.i64 ↑k, Value.slice (some { block := b, off := off }) st.length c, Value.int IntKind.i64 ↑st.length, Value.bool true, u22, u23, v24, v25, v26, v27, v28, v29, v30, v31, v32, v33, v34, v35, v36, v37, v38, v39, v40, u41, undef], defers := [] } ∧ (L 0 = true → v24 = Value.slice (some { block := g', off := 0 }) X.length cap') ∧ (L 1 = true → v25 = Value.slice (some { block := g', off := 0 }) X.length cap') ∧ (L 2 = true → v26 = Value.int IntKind.i64 ↑k) ∧ (L 3 = true → v27 = .pointer (some ⟨g', k, none⟩)) ∧ (L 4 = true → v28 = .int .i64 (xk)) ∧ (L 5 = true → v29 = Value.slice (some { block := b, off := off }) st.length c) ∧ (L 6 = true → v30 = Value.int IntKind.i64 ↑k) ∧ (L 7 = true → v31 = .pointer (some ⟨b, off + k, none⟩)) ∧ (L 8 = true → v32 = .int .i64 (s)) ∧ (L 9 = true → v33 = .pointer (some ⟨w.heap.size, 4, none⟩)) ∧ (L 10 = true → v34 = .int .i64 (q.fall)) ∧ (L 11 = true → v35 = .int .i64 (-q.fall)) ∧ (L 12 = true → v36 = .pointer (some ⟨w.heap.size, 3, none⟩)) ∧ (L 13 = true → v37 = .int .i64 (q.rise)) ∧ (L 14 = true → v38 = .int .i64 (V)) ∧ (L 15 = true → v39 = .int .i64 (xk + V)) ∧ (L 16 = true → Hid (∃ gb, v40 = .slice (some ⟨gb, 0, none⟩) 1 1 ∧ BlkAt wr e.w gb [.int .i64 (xk + V)])) := ⟨_, rfl⟩
      have HRW := Lib.hid hRW
      clear hRW
      refine wp_region_inv 17 RW (by kernel_rfl) (by kernel_rfl) (by kernel_rfl) (by kernel_rfl) (by decide) (by kernel_rfl) ?_ ?_ ?_
      · rw [HRW.out]
        exact ⟨⟨_, (Below.refl wr.heap.size wr).drew⟩, _, _, _, _, _, _, _, _, _, _, _, _, _, _, _, _, _, rfl, rfl, by simp, by simp, by simp, by simp, by simp, by simp, by simp, by simp, by simp, by simp, by simp, by simp, by simp, by simp, by simp, by simp, by simp⟩
      · rintro L a' w' i o hi ho hLi haf hInv
        rw [HRW.out] at hInv
        obtain ⟨e, v24, v25, v26, v27, v28, v29, v30, v31, v32, v33, v34, v35, v36, v37, v38, v39, v40, rfl, rfl, h0, h1, h2, h3, h4, h5, h6, h7, h8, h9, h10, h11, h12, h13, h14, h15, h16⟩ := hInv
        have hse : wr.heap.size ≤ e.w.heap.size := e.b.size
        rcases i with _ | _ | _ | _ | _ | _ | _ | _ | _ | _ | _ | _ | _ | _ | _ | _ | _ | i
        case succ.succ.succ.succ.succ.succ.succ.succ.succ.succ.succ.succ.succ.succ.succ.succ.succ => omega
        all_goals (simp only [List.getElem?_cons_zero, List.getElem?_cons_succ, Option.some.injEq] at ho; subst ho)
        · go_wp2
          rw [HRW.out]
          exact ⟨e, _, _, _, _, _, _, _, _, _, _, _, _, _, _, _, _, _, rfl, rfl, fun _ => rfl, fun z => h1 (by simpa using z), fun z => h2 (by simpa using z), fun z => h3 (by simpa using z), fun z => h4 (by simpa using z), fun z => h5 (by simpa using z), fun z => h6 (by simpa using z), fun z => h7 (by simpa using z), fun z => h8 (by simpa using z), fun z => h9 (by simpa using z), fun z => h10 (by simpa using z), fun z => h11 (by simpa using z), fun z => h12 (by simpa using z), fun z => h13 (by simpa using z), fun z => h14 (by simpa using z), fun z => h15 (by simpa using z), fun z => h16 (by simpa using z)⟩
        · go_wp2
          rw [HRW.out]
          exact ⟨e, _, _, _, _, _, _, _, _, _, _, _, _, _, _, _, _, _, rfl, rfl, fun z => h0 (by simpa using z), fun _ => rfl, fun z => h2 (by simpa using z), fun z => h3 (by simpa using z), fun z => h4 (by simpa using z), fun z => h5 (by simpa using z), fun z => h6 (by simpa using z), fun z => h7 (by simpa using z), fun z => h8 (by simpa using z), fun z => h9 (by simpa using z), fun z => h10 (by simpa using z), fun z => h11 (by simpa using z), fun z => h12 (by simpa using z), fun z => h13 (by simpa using z), fun z => h14 (by simpa using z), fun z => h15 (by simpa using z), fun z => h16 (by simpa using z)⟩
        · go_wp2
          rw [HRW.out]
          exact ⟨e, _, _, _, _, _, _, _, _, _, _, _, _, _, _, _, _, _, rfl, rfl, fun z => h0 (by simpa using z), fun z => h1 (by simpa using z), fun _ => rfl, fun z => h3 (by simpa using z), fun z => h4 (by simpa using z), fun z => h5 (by simpa using z), fun z => h6 (by simpa using z), fun z => h7 (by simpa using z), fun z => h8 (by simpa using z), fun z => h9 (by simpa using z), fun z => h10 (by simpa using z), fun z => h11 (by simpa using z), fun z => h12 (by simpa using z), fun z => h13 (by simpa using z), fun z => h14 (by simpa using z), fun z => h15 (by simpa using z), fun z => h16 (by simpa using z)⟩
        · obtain rfl := h1 (haf ⟨1, .data⟩ (by simp) rfl)
          obtain rfl := h2 (haf ⟨2, .data⟩ (by simp) rfl)
          go_wp2
          rw [HRW.out]
          exact ⟨e, _, _, _, _, _, _, _, _, _, _, _, _, _, _, _, _, _, rfl, rfl, fun z => h0 (by simpa using z), fun _ => rfl, fun _ => rfl, fun _ => rfl, fun z => h4 (by simpa using z), fun z => h5 (by simpa using z), fun z => h6 (by simpa using z), fun z => h7 (by simpa using z), fun z => h8 (by simpa using z), fun z => h9 (by simpa using z), fun z => h10 (by simpa using z), fun z => h11 (by simpa using z), fun z => h12 (by simpa using z), fun z => h13 (by simpa using z), fun z => h14 (by simpa using z), fun z => h15 (by simpa using z), fun z => h16 (by simpa using z)⟩
        · obtain rfl := h3 (haf ⟨3, .data⟩ (by simp) rfl)
          go_wp2
          rw [HRW.out]
          exact ⟨e, _, _, _, _, _, _, _, _, _, _, _, _, _, _, _, _, _, rfl, rfl, fun z => h0 (by simpa using z), fun z => h1 (by simpa using z), fun z => h2 (by simpa using z), fun _ => rfl, fun _ => rfl, fun z => h5 (by simpa using z), fun z => h6 (by simpa using z), fun z => h7 (by simpa using z), fun z => h8 (by simpa using z), fun z => h9 (by simpa using z), fun z => h10 (by simpa using z), fun z => h11 (by simpa using z), fun z => h12 (by simpa using z), fun z => h13 (by simpa using z), fun z => h14 (by simpa using z), fun z => h15 (by simpa using z), fun z => h16 (by simpa using z)⟩
        · go_wp2
          rw [HRW.out]
          exact ⟨e, _, _, _, _, _, _, _, _, _, _, _, _, _, _, _, _, _, rfl, rfl, fun z => h0 (by simpa using z), fun z => h1 (by simpa using z), fun z => h2 (by simpa using z), fun z => h3 (by simpa using z), fun z => h4 (by simpa using z), fun _ => rfl, fun z => h6 (by simpa using z), fun z => h7 (by simpa using z), fun z => h8 (by simpa using z), fun z => h9 (by simpa using z), fun z => h10 (by simpa using z), fun z => h11 (by simpa using z), fun z => h12 (by simpa using z), fun z => h13 (by simpa using z), fun z => h14 (by simpa using z), fun z => h15 (by simpa using z), fun z => h16 (by simpa using z)⟩
        · go_wp2
          rw [HRW.out]
          exact ⟨e, _, _, _, _, _, _, _, _, _, _, _, _, _, _, _, _, _, rfl, rfl, fun z => h0 (by simpa using z), fun z => h1 (by simpa using z), fun z => h2 (by simpa using z), fun z => h3 (by simpa using z), fun z => h4 (by simpa using z), fun z => h5 (by simpa using z), fun _ => rfl, fun z => h7 (by simpa using z), fun z => h8 (by simpa using z), fun z => h9 (by simpa using z), fun z => h10 (by simpa using z), fun z => h11 (by simpa using z), fun z => h12 (by simpa using z), fun z => h13 (by simpa using z), fun z => h14 (by simpa using z), fun z => h15 (by simpa using z), fun z => h16 (by simpa using z)⟩
        · obtain rfl := h5 (haf ⟨5, .data⟩ (by simp) rfl)
          obtain rfl := h6 (haf ⟨6, .data⟩ (by simp) rfl)
          go_wp2
          rw [HRW.out]
          exact ⟨e, _, _, _, _, _, _, _, _, _, _, _, _, _, _, _, _, _, rfl, rfl, fun z => h0 (by simpa using z), fun z => h1 (by simpa using z), fun z => h2 (by simpa using z), fun z => h3 (by simpa using z), fun z => h4 (by simpa using z), fun _ => rfl, fun _ => rfl, fun _ => rfl, fun z => h8 (by simpa using z), fun z => h9 (by simpa using z), fun z => h10 (by simpa using z), fun z => h11 (by simpa using z), fun z => h12 (by simpa using z), fun z => h13 (by simpa using z), fun z => h14 (by simpa using z), fun z => h15 (by simpa using z), fun z => h16 (by simpa using z)⟩
        · obtain rfl := h7 (haf ⟨7, .data⟩ (by simp) rfl)
          go_wp2
          rw [HRW.out]
          exact ⟨e, _, _, _, _, _, _, _, _, _, _, _, _, _, _, _, _, _, rfl, rfl, fun z => h0 (by simpa using z), fun z => h1 (by simpa using z), fun z => h2 (by simpa using z), fun z => h3 (by simpa using z), fun z => h4 (by simpa using z), fun z => h5 (by simpa using z), fun z => h6 (by simpa using z), fun _ => rfl, fun _ => rfl, fun z => h9 (by simpa using z), fun z => h10 (by simpa using z), fun z => h11 (by simpa using z), fun z => h12 (by simpa using z), fun z => h13 (by simpa using z), fun z => h14 (by simpa using z), fun z => h15 (by simpa using z), fun z => h16 (by simpa using z)⟩
        · go_wp2
          rw [HRW.out]
          exact ⟨e, _, _, _, _, _, _, _, _, _, _, _, _, _, _, _, _, _, rfl, rfl, fun z => h0 (by simpa using z), fun z => h1 (by simpa using z), fun z => h2 (by simpa using z), fun z => h3 (by simpa using z), fun z => h4 (by simpa using z), fun z => h5 (by simpa using z), fun z => h6 (by simpa using z), fun z => h7 (by simpa using z), fun z => h8 (by simpa using z), fun _ => rfl, fun z => h10 (by simpa using z), fun z => h11 (by simpa using z), fun z => h12 (by simpa using z), fun z => h13 (by simpa using z), fun z => h14 (by simpa using z), fun z => h15 (by simpa using z), fun z => h16 (by simpa using z)⟩
        · obtain rfl := h9 (haf ⟨9, .data⟩ (by simp) rfl)
          go_wp2
          rw [HRW.out]
          exact ⟨e, _, _, _, _, _, _, _, _, _, _, _, _, _, _, _, _, _, rfl, rfl, fun z => h0 (by simpa using z), fun z => h1 (by simpa using z), fun z => h2 (by simpa using z), fun z => h3 (by simpa using z), fun z => h4 (by simpa using z), fun z => h5 (by simpa using z), fun z => h6 (by simpa using z), fun z => h7 (by simpa using z), fun z => h8 (by simpa using z), fun _ => rfl, fun _ => rfl, fun z => h11 (by simpa using z), fun z => h12 (by simpa using z), fun z => h13 (by simpa using z), fun z => h14 (by simpa using z), fun z => h15 (by simpa using z), fun z => h16 (by simpa using z)⟩
        · obtain rfl := h10 (haf ⟨10, .data⟩ (by simp) rfl)
          go_wp2
          rw [HRW.out]
          exact ⟨e, _, _, _, _, _, _, _, _, _, _, _, _, _, _, _, _, _, rfl, rfl, fun z => h0 (by simpa using z), fun z => h1 (by simpa using z), fun z => h2 (by simpa using z), fun z => h3 (by simpa using z), fun z => h4 (by simpa using z), fun z => h5 (by simpa using z), fun z => h6 (by simpa using z), fun z => h7 (by simpa using z), fun z => h8 (by simpa using z), fun z => h9 (by simpa using z), fun _ => rfl, fun _ => rfl, fun z => h12 (by simpa using z), fun z => h13 (by simpa using z), fun z => h14 (by simpa using z), fun z => h15 (by simpa using z), fun z => h16 (by simpa using z)⟩
        · go_wp2
          rw [HRW.out]
          exact ⟨e, _, _, _, _, _, _, _, _, _, _, _, _, _, _, _, _, _, rfl, rfl, fun z => h0 (by simpa using z), fun z => h1 (by simpa using z), fun z => h2 (by simpa using z), fun z => h3 (by simpa using z), fun z => h4 (by simpa using z), fun z => h5 (by simpa using z), fun z => h6 (by simpa using z), fun z => h7 (by simpa using z), fun z => h8 (by simpa using z), fun z => h9 (by simpa using z), fun z => h10 (by simpa using z), fun z => h11 (by simpa using z), fun _ => rfl, fun z => h13 (by simpa using z), fun z => h14 (by simpa using z), fun z => h15 (by simpa using z), fun z => h16 (by simpa using z)⟩
        · obtain rfl := h12 (haf ⟨12, .data⟩ (by simp) rfl)
          go_wp2
          rw [HRW.out]
          exact ⟨e, _, _, _, _, _, _, _, _, _, _, _, _, _, _, _, _, _, rfl, rfl, fun z => h0 (by simpa using z), fun z => h1 (by simpa using z), fun z => h2 (by simpa using z), fun z => h3 (by simpa using z), fun z => h4 (by simpa using z), fun z => h5 (by simpa using z), fun z => h6 (by simpa using z), fun z => h7 (by simpa using z), fun z => h8 (by simpa using z), fun z => h9 (by simpa using z), fun z => h10 (by simpa using z), fun z => h11 (by simpa using z), fun _ => rfl, fun _ => rfl, fun z => h14 (by simpa using z), fun z => h15 (by simpa using z), fun z => h16 (by simpa using z)⟩
        · obtain rfl := h8 (haf ⟨8, .data⟩ (by simp) rfl)
          obtain rfl := h11 (haf ⟨11, .data⟩ (by simp) rfl)
          obtain rfl := h13 (haf ⟨13, .data⟩ (by simp) rfl)
          go_wp2_with (go_at_call 26; refine (HWk.out _).mono ?_; rintro r w4 ⟨rfl, hNew⟩)
          rw [HRW.out]
          exact ⟨⟨w4, e.b.trans (hNew.mono e.b.size)⟩, _, _, _, _, _, _, _, _, _, _, _, _, _, _, _, _, _, rfl, rfl, fun z => h0 (by simpa using z), fun z => h1 (by simpa using z), fun z => h2 (by simpa using z), fun z => h3 (by simpa using z), fun z => h4 (by simpa using z), fun z => h5 (by simpa using z), fun z => h6 (by simpa using z), fun z => h7 (by simpa using z), fun _ => rfl, fun z => h9 (by simpa using z), fun z => h10 (by simpa using z), fun _ => rfl, fun z => h12 (by simpa using z), fun _ => rfl, fun _ => rfl, fun z => h15 (by simpa using z), fun z => (by obtain ⟨gb, p1, p2⟩ := (h16 (by simpa using z)).out; exact Lib.hid ⟨gb, p1, p2.below hNew⟩)⟩
        · obtain rfl := h4 (haf ⟨4, .data⟩ (by simp) rfl)
          obtain rfl := h14 (haf ⟨14, .data⟩ (by simp) rfl)
          go_wp2
          rw [HRW.out]
          exact ⟨e, _, _, _, _, _, _, _, _, _, _, _, _, _, _, _, _, _, rfl, rfl, fun z => h0 (by simpa using z), fun z => h1 (by simpa using z), fun z => h2 (by simpa using z), fun z => h3 (by simpa using z), fun _ => rfl, fun z => h5 (by simpa using z), fun z => h6 (by simpa using z), fun z => h7 (by simpa using z), fun z => h8 (by simpa using z), fun z => h9 (by simpa using z), fun z => h10 (by simpa using z), fun z => h11 (by simpa using z), fun z => h12 (by simpa using z), fun z => h13 (by simpa using z), fun _ => rfl, fun _ => rfl, fun z => h16 (by simpa using z)⟩
        · obtain rfl := h15 (haf ⟨15, .data⟩ (by simp) rfl)
          have hNew : Below e.w.heap.size e.w (e.w.alloc (.cells #[.int .i64 (xk + V)] 3)) := (Below.refl _ _).alloc (Nat.le_refl _) _
          go_wp2
          rw [HRW.out]
          exact ⟨⟨_, e.b.alloc hse (.cells #[.int .i64 (xk + V)] 3)⟩, _, _, _, _, _, _, _, _, _, _, _, _, _, _, _, _, _, rfl, rfl, fun z => h0 (by simpa using z), fun z => h1 (by simpa using z), fun z => h2 (by simpa using z), fun z => h3 (by simpa using z), fun z => h4 (by simpa using z), fun z => h5 (by simpa using z), fun z => h6 (by simpa using z), fun z => h7 (by simpa using z), fun z => h8 (by simpa using z), fun z => h9 (by simpa using z), fun z => h10 (by simpa using z), fun z => h11 (by simpa using z), fun z => h12 (by simpa using z), fun z => h13 (by simpa using z), fun z => h14 (by simpa using z), fun _ => rfl, fun _ => Lib.hid ⟨_, rfl, BlkAt.new hse⟩⟩
      · rintro L a' w' hL hInv
        rw [HRW.out] at hInv
        obtain ⟨e, v24, v25, v26, v27, v28, v29, v30, v31, v32, v33, v34, v35, v36, v37, v38, v39, v40, rfl, rfl, h0, h1, h2, h3, h4, h5, h6, h7, h8, h9, h10, h11, h12, h13, h14, h15, h16⟩ := hInv
        obtain rfl := h0 (hL 0 (by omega))
        obtain rfl := h1 (hL 1 (by omega))
        obtain rfl := h2 (hL 2 (by omega))
        obtain rfl := h3 (hL 3 (by omega))
        obtain rfl := h4 (hL 4 (by omega))
        obtain rfl := h5 (hL 5 (by omega))
        obtain rfl := h6 (hL 6 (by omega))
        obtain rfl := h7 (hL 7 (by omega))
        obtain rfl := h8 (hL 8 (by omega))
        obtain rfl := h9 (hL 9 (by omega))
        obtain rfl := h10 (hL 10 (by omega))
        obtain rfl := h11 (hL 11 (by omega))
        obtain rfl := h12 (hL 12 (by omega))
        obtain rfl := h13 (hL 13 (by omega))
        obtain rfl := h14 (hL 14 (by omega))
        obtain rfl := h15 (hL 15 (by omega))
        obtain ⟨gb40, rfl, hgb40⟩ := (h16 (hL 16 (by omega))).out
        have hse : wr.heap.size ≤ e.w.heap.size := e.b.size
        clear h16 hL HRW
        have HS := Lib.hid (show Src e.w 1 (some ⟨gb40, 0, none⟩) 1 [.int .i64 (xk + V)] from .inr ⟨_, rfl, rfl, fun z u hu => by
          have e0 : (⟨gb40, 0, none⟩ : Addr).add z = ⟨gb40, z, none⟩ := by unfold Addr.add; split <;> simp_all
          rw [e0]; exact hgb40.cell z u hu⟩)
        have HoE := Lib.hid (own_below Ho.out e.b)
        have hbse : w.heap.size + 1 ≤ e.w.heap.size := by omega
        clear hgb40
        refine wpList_appendL rfl _ _ 35 rfl (w.heap.size + 1) 3 _ 1 8 elemInt _ _ _ rfl HoE.out _ _ _ _ rfl HS.out (by simp [Value.oneCell']) (by omega) hbse ?_
        intro v6 w6 hown6 hb6 hsz6 hg6 hblk6
        have Ho6 := Lib.hid hown6
        have Hb6 := Lib.hid hb6
        clear hown6 hb6 hsz6 hg6 hblk6
        go_wp2
        go_roundw
        case rel => exact ⟨k + 1, X ++ [xk + V], by omega, by go_num, Lib.hid (by rw [List.length_append, Hl.out]; rfl), HN, Lib.hid (by rw [List.length_append, List.map_append]; exact Ho6.out), Lib.hid ((Hb.out.trans (e.b.mono (by omega))).trans Hb6.out)⟩
        case measure => simp [intOf]; omega
    · obtain rfl : k = st.length := by omega
      go_wp2
      go_ret
      exact ⟨_, X, rfl, Hl.out, Hw.out, own_mono Ho.out (by omega), HB0.out.trans (Hb.out.mono (by omega))⟩
end Go.Proofs.Ytcgnpndfhhcplaa
