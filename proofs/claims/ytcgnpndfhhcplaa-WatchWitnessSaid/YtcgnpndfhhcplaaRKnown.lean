/-
  The specification's known: what is known if the gauges of a set have failed. Conditions: bounds; at most 60 readings.
-/
import Derived.Test.YtcgnpndfhhcplaaRAt
namespace Go.Proofs.Ytcgnpndfhhcplaa
open Go.RowKit W7
attribute [local go_sem] Oper.semAt_some
theorem elemKn : Elem Try.prog 83 98 (.agg #[.int .i64 0, .int .i64 0, .int .i64 0]) 3 24 := Elem.mk' Try.underlying83 (by kernel_rfl) rfl (by decide) (by decide)
def coreAt (q : Quantity) (l : List Reading) (s k : Nat) : List K := ⟨0, q.lo, q.hi⟩ :: ((l.take k).filter (fun r => !(s.testBit r.g.toNat))).map (spR q)
theorem coreAt_all (q : Quantity) (l : List Reading) (s : Nat) : coreAt q l s l.length = coreS q l s := by unfold coreAt coreS; rw [List.take_length]
theorem coreAt_in (q : Quantity) (l : List Reading) (s k : Nat) (h : k < l.length) (hb : s.testBit l[k].g.toNat = false) : coreAt q l s (k + 1) = coreAt q l s k ++ [spR q l[k]] := by
  unfold coreAt; rw [List.take_succ_eq_append_getElem h, List.filter_append, List.map_append]; simp [hb]
theorem coreAt_out (q : Quantity) (l : List Reading) (s k : Nat) (h : k < l.length) (hb : s.testBit l[k].g.toNat = true) : coreAt q l s (k + 1) = coreAt q l s k := by
  unfold coreAt; rw [List.take_succ_eq_append_getElem h, List.filter_append, List.map_append]; simp [hb]
theorem coreAt_len (q : Quantity) (l : List Reading) (s k : Nat) : (coreAt q l s k).length ≤ k + 1 := by
  unfold coreAt
  have h1 := List.length_filter_le (fun r : Reading => !(s.testBit r.g.toNat)) (l.take k)
  have h2 : (l.take k).length ≤ k := by simp; omega
  simp only [List.length_cons, List.length_map]; omega
def KnownR (q : Quantity) (l : List Reading) (s : Nat) (w : World) (e : Ending) (w' : World) : Prop :=
  ∃ v, e = .returned v ∧ w'.ownsRow w.heap.size 98 3 v (coreS q l s).length (encKs (coreS q l s)) ∧ Below w.heap.size w w'
set_option maxHeartbeats 1000000 in
set_option maxRecDepth 100000 in
theorem refKnown_any (q : Quantity) (l : List Reading) (s : Nat) (A : Option Addr) (c B : Nat) (w : World) (hq : QIn w B q) (hA : Sl w B 3 encR A l) (hB : B ≤ w.heap.size) (hg : Good q l) (hs : s < 256) (hl : l.length ≤ 60) :
    Calls Try.prog 47 #[.agg #[.string q.name, .int .i64 q.lo, .int .i64 q.hi, .int .i64 q.rise, .int .i64 q.fall, .int .i64 q.bad, .slice q.gA q.gs.length q.gc], .slice A l.length c, .int .i64 s] w (KnownR q l s w) := by
  have HG := Lib.hid hg
  have Hq := Lib.hid hq
  have HA := Lib.hid hA
  have hgl := hg.gl
  obtain ⟨W0, hW0⟩ : ∃ W0, W0 = w.alloc (.cells #[.string q.name, .int .i64 q.lo, .int .i64 q.hi, .int .i64 q.rise, .int .i64 q.fall, .int .i64 q.bad, .slice q.gA q.gs.length q.gc] 26) := ⟨_, rfl⟩
  have HB0 := Lib.hid (show Below w.heap.size w W0 by rw [hW0]; exact (Below.refl _ _).alloc (Nat.le_refl _) _)
  have hs0 : w.heap.size < W0.heap.size := by rw [hW0]; simp
  have HQ0 := Lib.hid (show ∀ (X : World), Below (w.heap.size + 1) W0 X → ∀ j v, (#[.string q.name, .int .i64 q.lo, .int .i64 q.hi, .int .i64 q.rise, .int .i64 q.fall, .int .i64 q.bad, .slice q.gA q.gs.length q.gc] : Array Value)[j]? = some v → X.cell? ⟨w.heap.size, j, none⟩ = some v from fun X hX j v hv =>
    (hX.cell (p := ⟨w.heap.size, j, none⟩) (by simp)).trans (by rw [hW0]; exact alloc_cell hv))
  have Hs0 := Lib.hid (show W0.heap.size = w.heap.size + 1 by rw [hW0]; simp)
  have HO0 := Lib.hid (World.ownsRow_lit (base := w.heap.size + 1) (e := 98) (size := 3) W0 #[.int .i64 0, .int .i64 q.lo, .int .i64 q.hi] 1 (by rw [Hs0.out]; omega) (by decide) rfl)
  rw [Hs0.out] at HO0
  have HW0 := Lib.hid hW0
  clear hW0 hA hq hg
  go_enter Try.func47, Try.ntmps47
  go_wp2
  rw [← HW0.out]
  have HBW := Lib.hid (show Below (w.heap.size + 1) W0 (W0.alloc (.cells #[.int .i64 0, .int .i64 q.lo, .int .i64 q.hi] 98)) from (Below.refl _ _).alloc (by rw [Hs0.out]; omega) _)
  go_loopw [7, 8] (fun v7 v8 wr => ∃ k : Nat, k ≤ l.length ∧ v8 = .int .i64 k ∧ Hid (wr.ownsRow (w.heap.size + 1) 98 3 v7 (coreAt q l s k).length (encKs (coreAt q l s k))) ∧ Hid (Below (w.heap.size + 1) W0 wr)) (fun _ v8 _ => l.length - (intOf v8).toNat)
  case atStart => exact ⟨0, by omega, rfl, HO0, HBW⟩
  case round =>
    obtain ⟨k, hk, rfl, Ho, Hb⟩ := hrel
    have hsz : w.heap.size < wr.heap.size := by have := Hb.out.size; omega
    have Hwr := Lib.hid (show Below w.heap.size w wr from HB0.out.trans (Hb.out.mono (by omega)))
    by_cases hlt : k < l.length
    · obtain ⟨b, off, rfl, hbB, hcells⟩ := HA.out (by omega)
      have hbw : b < w.heap.size := by omega
      have hbr : b < wr.heap.size := by omega
      have Hr := Lib.hid (HG.out.r l[k] (List.getElem_mem hlt))
      obtain ⟨j, hj⟩ : ∃ j : Nat, l[k].g = (j : Int) := ⟨l[k].g.toNat, by have := Hr.out; omega⟩
      have hjl : j < q.gs.length := by have := Hr.out; omega
      have r0 : wr.cell? ⟨b, off + k * 3, none⟩ = some (.int .i64 (j : Int)) := by rw [← hj]; exact (Hwr.out.cell (p := ⟨b, off + k * 3 + 0, none⟩) hbw).trans (hcells k hlt 0 _ rfl)
      have r1 : wr.cell? ⟨b, off + k * 3 + 1, none⟩ = some (.int .i64 l[k].t) := (Hwr.out.cell (p := ⟨b, off + k * 3 + 1, none⟩) hbw).trans (hcells k hlt 1 _ rfl)
      have r2 : wr.cell? ⟨b, off + k * 3 + 2, none⟩ = some (.int .i64 l[k].v) := (Hwr.out.cell (p := ⟨b, off + k * 3 + 2, none⟩) hbw).trans (hcells k hlt 2 _ rfl)
      have hjt : l[k].g.toNat = j := by omega
      have HIn := Lib.hid (coreAt_in q l s k hlt)
      have HOut := Lib.hid (coreAt_out q l s k hlt)
      rw [hjt] at HIn HOut
      have HSp := Lib.hid (show spR q l[k] = ⟨l[k].t, l[k].v - devi q.gs[j] l[k].t, l[k].v + devi q.gs[j] l[k].t⟩ by unfold spR; rw [hjt, getD_mem _ _ hjl])
      clear hj hjt hcells
      cases hbit : s.testBit j
      · have HS := Lib.hid (HIn.out hbit)
        have HOt := Lib.hid (refOut_any s j wr hs (by omega))
        rw [hbit] at HOt
        obtain ⟨bg, og, hgA, hbgB, hgc⟩ := Hq.out.sl (by omega)
        have hbgr : bg < wr.heap.size := by omega
        have hg' := HG.out.g q.gs[j] (List.getElem_mem hjl)
        have c6 := HQ0.out wr Hb.out 6 _ rfl
        rw [hgA] at c6
        have n6 := later_cell c6 hsz
        have g0 := later_cell (show wr.cell? ⟨bg, og + j * 4, none⟩ = some (.string q.gs[j].name) from (Hwr.out.cell (p := ⟨bg, og + j * 4 + 0, none⟩) (by simp; omega)).trans (hgc j hjl 0 _ rfl)) hbgr
        have g1 := later_cell ((Hwr.out.cell (p := ⟨bg, og + j * 4 + 1, none⟩) (by simp; omega)).trans (hgc j hjl 1 _ rfl)) hbgr
        have g2 := later_cell ((Hwr.out.cell (p := ⟨bg, og + j * 4 + 2, none⟩) (by simp; omega)).trans (hgc j hjl 2 _ rfl)) hbgr
        have g3 := later_cell ((Hwr.out.cell (p := ⟨bg, og + j * 4 + 3, none⟩) (by simp; omega)).trans (hgc j hjl 3 _ rfl)) hbgr
        have m0 := later_cell r0 hbr
        have m1 := later_cell r1 hbr
        have m2 := later_cell r2 hbr
        have hdv := devi_bnd hg' (t := l[k].t) (by have := Hr.out; omega)
        have HWo := Lib.hid (fun (X : World) => refWorst_any q.gs[j] l[k].t X (by omega) (by omega) (by omega) (by omega) (by omega) (by omega) (by have := Hr.out; omega) (by have := Hr.out; omega))
        obtain ⟨D, hD⟩ : ∃ D, D = devi q.gs[j] l[k].t := ⟨_, rfl⟩
        rw [← hD] at HWo HSp hdv
        have hjI : (j : Int) < (q.gs.length : Int) := by omega
        clear hD hgA hgc c6
        go_wp2_with (go_at_call 59; refine HOt.out.mono ?_; rintro r w2 ⟨rfl, hw2⟩; obtain rfl := hw2.symm)
        refine wp_region_later (by kernel_rfl) (by kernel_rfl) ?_
        repeat (any_goals (first | go_big_quiet_step ((go_at_call 52; exact later_call _ (HWo.out _))) | quiet_step ((go_at_call 52; exact later_call _ (HWo.out _)))))
        refine wpQuiet_nil ?_
        rintro w' ⟨e, rfl⟩
        obtain ⟨W5, hW5⟩ : ∃ W5, W5 = e.w := ⟨_, rfl⟩
        have HbW5 := Lib.hid (show Below wr.heap.size wr W5 by rw [hW5]; exact e.b)
        have hs5 : wr.heap.size ≤ W5.heap.size := HbW5.out.size
        have hb5 : b < W5.heap.size := by omega
        have s1 := later_cell ((HbW5.out.cell (p := ⟨b, off + k * 3 + 1, none⟩) hbr).trans r1) hb5
        have s2 := later_cell ((HbW5.out.cell (p := ⟨b, off + k * 3 + 2, none⟩) hbr).trans r2) hb5
        have hv1 : wrap64 (l[k].v - D) = l[k].v - D := IntWalk.wrap64_in _ (by have := Hr.out; omega)
        have hv2 : wrap64 (l[k].v + D) = l[k].v + D := IntWalk.wrap64_in _ (by have := Hr.out; omega)
        have HS2 := HS
        clear HS
        go_wp2
        rw [← hW5]
        clear hW5 r0 r1 r2 m0 m1 m2 n6 g0 g1 g2 g3
        obtain ⟨RK, hRK⟩ : ∃ R : (Nat → Bool) → Act → World → Prop, R = fun L a' w' => ∃ (e : Later W5) (v43 v44 v45 v46 v47 v48 v49 v50 v51 v52 v53 v54 v55 v56 v57 v58 v59 v60 v61 v62 v63 v64 v65 : Value), w' = e.w ∧ a' = { tmps := #[Value.agg #[Value.string q.name, Value.int IntKind.i64 q.lo, Value.int IntKind.i64 q.hi, Value.int IntKind.i64 q.rise, Value.int IntKind.i64 q.fall, Value.int IntKind.i64 q.bad, Value.slice q.gA q.gs.length q.gc], Value.slice (some { block := b, off := off }) l.length c, Value.int IntKind.i64 ↑s, Value.pointer (some { block := w.heap.size, off := 0 }), undef, undef, Value.slice none 0 0, u7, Value.int IntKind.i64 ↑k, Value.int IntKind.i64 D, Value.pointer (some { block := w.heap.size, off := 1 }), Value.agg #[Value.int IntKind.i64 q.lo, Value.int IntKind.i64 q.hi], Value.agg #[Value.int IntKind.i64 0, Value.int IntKind.i64 q.lo, Value.int IntKind.i64 q.hi], Value.slice (some { block := w.heap.size + 1, off := 0 }) 1 1, Value.int IntKind.i64 ↑k, Value.slice (some { block := b, off := off }) l.length c, Value.int IntKind.i64 ↑l.length, Value.bool true, u18, u19, Value.int IntKind.i64 ↑s, Value.slice (some { block := b, off := off }) l.length c, Value.int IntKind.i64 ↑k, Value.pointer (some { block := b, off := off + k * 3 }), Value.pointer (some { block := b, off := off + k * 3 }), Value.int IntKind.i64 ↑j, Value.bool false, Value.bool true, Value.pointer (some { block := w.heap.size, off := 6 }), Value.slice (some { block := bg, off := og }) q.gs.length q.gc, Value.slice (some { block := b, off := off }) l.length c, Value.int IntKind.i64 ↑k, Value.pointer (some { block := b, off := off + k * 3 }), Value.pointer (some { block := b, off := off + k * 3 }), Value.int IntKind.i64 ↑j, Value.pointer (some { block := bg, off := og + j * 4 }), Value.agg #[Value.string q.gs[j].name, Value.int IntKind.i64 q.gs[j].acc, Value.int IntKind.i64 q.gs[j].drift, Value.int IntKind.i64 q.gs[j].since], Value.slice (some { block := b, off := off }) l.length c, Value.int IntKind.i64 ↑k, Value.pointer (some { block := b, off := off + k * 3 }), Value.pointer (some { block := b, off := off + k * 3 + 1 }), Value.int IntKind.i64 l[k].t, Value.int IntKind.i64 D, v43, v44, v45, v46, v47, v48, v49, v50, v51, v52, v53, v54, v55, v56, v57, v58, v59, v60, v61, v62, v63, v64, v65, u66, undef], defers := [] } ∧ (L 0 = true → v43 = u7) ∧ (L 1 = true → v44 = .slice (some ⟨b, off, none⟩) l.length c) ∧ (L 2 = true → v45 = .int .i64 (k : Int)) ∧ (L 3 = true → v46 = .pointer (some ⟨b, off + k * 3, none⟩)) ∧ (L 4 = true → v47 = .pointer (some ⟨b, off + k * 3 + 1, none⟩)) ∧ (L 5 = true → v48 = .int .i64 l[k].t) ∧ (L 6 = true → v49 = .slice (some ⟨b, off, none⟩) l.length c) ∧ (L 7 = true → v50 = .int .i64 (k : Int)) ∧ (L 8 = true → v51 = .pointer (some ⟨b, off + k * 3, none⟩)) ∧ (L 9 = true → v52 = .pointer (some ⟨b, off + k * 3 + 2, none⟩)) ∧ (L 10 = true → v53 = .int .i64 l[k].v) ∧ (L 11 = true → v54 = .int .i64 D) ∧ (L 12 = true → v55 = .int .i64 (l[k].v - D)) ∧ (L 13 = true → v56 = .slice (some ⟨b, off, none⟩) l.length c) ∧ (L 14 = true → v57 = .int .i64 (k : Int)) ∧ (L 15 = true → v58 = .pointer (some ⟨b, off + k * 3, none⟩)) ∧ (L 16 = true → v59 = .pointer (some ⟨b, off + k * 3 + 2, none⟩)) ∧ (L 17 = true → v60 = .int .i64 l[k].v) ∧ (L 18 = true → v61 = .int .i64 D) ∧ (L 19 = true → v62 = .int .i64 (l[k].v + D)) ∧ (L 20 = true → v63 = .agg #[.int .i64 (l[k].v - D), .int .i64 (l[k].v + D)]) ∧ (L 21 = true → v64 = .agg #[.int .i64 l[k].t, .int .i64 (l[k].v - D), .int .i64 (l[k].v + D)]) ∧ (L 22 = true → Hid (∃ gb, v65 = .slice (some ⟨gb, 0, none⟩) 1 1 ∧ BlkAt W5 e.w gb [.int .i64 l[k].t, .int .i64 (l[k].v - D), .int .i64 (l[k].v + D)])) := ⟨_, rfl⟩
        have HRK := Lib.hid hRK
        clear hRK
        refine wp_region_inv 23 RK (by kernel_rfl) (by kernel_rfl) (by kernel_rfl) (by kernel_rfl) (by decide) (by kernel_rfl) ?_ ?_ ?_
        · rw [HRK.out]
          exact ⟨⟨_, (Below.refl W5.heap.size W5).drew⟩, _, _, _, _, _, _, _, _, _, _, _, _, _, _, _, _, _, _, _, _, _, _, _, rfl, rfl, by simp, by simp, by simp, by simp, by simp, by simp, by simp, by simp, by simp, by simp, by simp, by simp, by simp, by simp, by simp, by simp, by simp, by simp, by simp, by simp, by simp, by simp, by simp⟩
        · rintro L a' w' i o hi ho hLi haf hInv
          rw [HRK.out] at hInv
          obtain ⟨e, v43, v44, v45, v46, v47, v48, v49, v50, v51, v52, v53, v54, v55, v56, v57, v58, v59, v60, v61, v62, v63, v64, v65, rfl, rfl, h0, h1, h2, h3, h4, h5, h6, h7, h8, h9, h10, h11, h12, h13, h14, h15, h16, h17, h18, h19, h20, h21, h22⟩ := hInv
          have hse : W5.heap.size ≤ e.w.heap.size := e.b.size
          rcases i with _ | _ | _ | _ | _ | _ | _ | _ | _ | _ | _ | _ | _ | _ | _ | _ | _ | _ | _ | _ | _ | _ | _ | i
          case succ.succ.succ.succ.succ.succ.succ.succ.succ.succ.succ.succ.succ.succ.succ.succ.succ.succ.succ.succ.succ.succ.succ => omega
          all_goals (simp only [List.getElem?_cons_zero, List.getElem?_cons_succ, Option.some.injEq] at ho; subst ho)
          · go_wp2
            rw [HRK.out]
            exact ⟨e, _, _, _, _, _, _, _, _, _, _, _, _, _, _, _, _, _, _, _, _, _, _, _, rfl, rfl, fun _ => rfl, fun z => h1 (by simpa using z), fun z => h2 (by simpa using z), fun z => h3 (by simpa using z), fun z => h4 (by simpa using z), fun z => h5 (by simpa using z), fun z => h6 (by simpa using z), fun z => h7 (by simpa using z), fun z => h8 (by simpa using z), fun z => h9 (by simpa using z), fun z => h10 (by simpa using z), fun z => h11 (by simpa using z), fun z => h12 (by simpa using z), fun z => h13 (by simpa using z), fun z => h14 (by simpa using z), fun z => h15 (by simpa using z), fun z => h16 (by simpa using z), fun z => h17 (by simpa using z), fun z => h18 (by simpa using z), fun z => h19 (by simpa using z), fun z => h20 (by simpa using z), fun z => h21 (by simpa using z), fun z => h22 (by simpa using z)⟩
          · go_wp2
            rw [HRK.out]
            exact ⟨e, _, _, _, _, _, _, _, _, _, _, _, _, _, _, _, _, _, _, _, _, _, _, _, rfl, rfl, fun z => h0 (by simpa using z), fun _ => rfl, fun z => h2 (by simpa using z), fun z => h3 (by simpa using z), fun z => h4 (by simpa using z), fun z => h5 (by simpa using z), fun z => h6 (by simpa using z), fun z => h7 (by simpa using z), fun z => h8 (by simpa using z), fun z => h9 (by simpa using z), fun z => h10 (by simpa using z), fun z => h11 (by simpa using z), fun z => h12 (by simpa using z), fun z => h13 (by simpa using z), fun z => h14 (by simpa using z), fun z => h15 (by simpa using z), fun z => h16 (by simpa using z), fun z => h17 (by simpa using z), fun z => h18 (by simpa using z), fun z => h19 (by simpa using z), fun z => h20 (by simpa using z), fun z => h21 (by simpa using z), fun z => h22 (by simpa using z)⟩
          · go_wp2
            rw [HRK.out]
            exact ⟨e, _, _, _, _, _, _, _, _, _, _, _, _, _, _, _, _, _, _, _, _, _, _, _, rfl, rfl, fun z => h0 (by simpa using z), fun z => h1 (by simpa using z), fun _ => rfl, fun z => h3 (by simpa using z), fun z => h4 (by simpa using z), fun z => h5 (by simpa using z), fun z => h6 (by simpa using z), fun z => h7 (by simpa using z), fun z => h8 (by simpa using z), fun z => h9 (by simpa using z), fun z => h10 (by simpa using z), fun z => h11 (by simpa using z), fun z => h12 (by simpa using z), fun z => h13 (by simpa using z), fun z => h14 (by simpa using z), fun z => h15 (by simpa using z), fun z => h16 (by simpa using z), fun z => h17 (by simpa using z), fun z => h18 (by simpa using z), fun z => h19 (by simpa using z), fun z => h20 (by simpa using z), fun z => h21 (by simpa using z), fun z => h22 (by simpa using z)⟩
          · obtain rfl := h1 (haf ⟨1, .data⟩ (by simp) rfl)
            obtain rfl := h2 (haf ⟨2, .data⟩ (by simp) rfl)
            go_wp2
            rw [HRK.out]
            exact ⟨e, _, _, _, _, _, _, _, _, _, _, _, _, _, _, _, _, _, _, _, _, _, _, _, rfl, rfl, fun z => h0 (by simpa using z), fun _ => rfl, fun _ => rfl, fun _ => rfl, fun z => h4 (by simpa using z), fun z => h5 (by simpa using z), fun z => h6 (by simpa using z), fun z => h7 (by simpa using z), fun z => h8 (by simpa using z), fun z => h9 (by simpa using z), fun z => h10 (by simpa using z), fun z => h11 (by simpa using z), fun z => h12 (by simpa using z), fun z => h13 (by simpa using z), fun z => h14 (by simpa using z), fun z => h15 (by simpa using z), fun z => h16 (by simpa using z), fun z => h17 (by simpa using z), fun z => h18 (by simpa using z), fun z => h19 (by simpa using z), fun z => h20 (by simpa using z), fun z => h21 (by simpa using z), fun z => h22 (by simpa using z)⟩
          · obtain rfl := h3 (haf ⟨3, .data⟩ (by simp) rfl)
            go_wp2
            rw [HRK.out]
            exact ⟨e, _, _, _, _, _, _, _, _, _, _, _, _, _, _, _, _, _, _, _, _, _, _, _, rfl, rfl, fun z => h0 (by simpa using z), fun z => h1 (by simpa using z), fun z => h2 (by simpa using z), fun _ => rfl, fun _ => rfl, fun z => h5 (by simpa using z), fun z => h6 (by simpa using z), fun z => h7 (by simpa using z), fun z => h8 (by simpa using z), fun z => h9 (by simpa using z), fun z => h10 (by simpa using z), fun z => h11 (by simpa using z), fun z => h12 (by simpa using z), fun z => h13 (by simpa using z), fun z => h14 (by simpa using z), fun z => h15 (by simpa using z), fun z => h16 (by simpa using z), fun z => h17 (by simpa using z), fun z => h18 (by simpa using z), fun z => h19 (by simpa using z), fun z => h20 (by simpa using z), fun z => h21 (by simpa using z), fun z => h22 (by simpa using z)⟩
          · obtain rfl := h4 (haf ⟨4, .data⟩ (by simp) rfl)
            go_wp2
            rw [HRK.out]
            exact ⟨e, _, _, _, _, _, _, _, _, _, _, _, _, _, _, _, _, _, _, _, _, _, _, _, rfl, rfl, fun z => h0 (by simpa using z), fun z => h1 (by simpa using z), fun z => h2 (by simpa using z), fun z => h3 (by simpa using z), fun _ => rfl, fun _ => rfl, fun z => h6 (by simpa using z), fun z => h7 (by simpa using z), fun z => h8 (by simpa using z), fun z => h9 (by simpa using z), fun z => h10 (by simpa using z), fun z => h11 (by simpa using z), fun z => h12 (by simpa using z), fun z => h13 (by simpa using z), fun z => h14 (by simpa using z), fun z => h15 (by simpa using z), fun z => h16 (by simpa using z), fun z => h17 (by simpa using z), fun z => h18 (by simpa using z), fun z => h19 (by simpa using z), fun z => h20 (by simpa using z), fun z => h21 (by simpa using z), fun z => h22 (by simpa using z)⟩
          · go_wp2
            rw [HRK.out]
            exact ⟨e, _, _, _, _, _, _, _, _, _, _, _, _, _, _, _, _, _, _, _, _, _, _, _, rfl, rfl, fun z => h0 (by simpa using z), fun z => h1 (by simpa using z), fun z => h2 (by simpa using z), fun z => h3 (by simpa using z), fun z => h4 (by simpa using z), fun z => h5 (by simpa using z), fun _ => rfl, fun z => h7 (by simpa using z), fun z => h8 (by simpa using z), fun z => h9 (by simpa using z), fun z => h10 (by simpa using z), fun z => h11 (by simpa using z), fun z => h12 (by simpa using z), fun z => h13 (by simpa using z), fun z => h14 (by simpa using z), fun z => h15 (by simpa using z), fun z => h16 (by simpa using z), fun z => h17 (by simpa using z), fun z => h18 (by simpa using z), fun z => h19 (by simpa using z), fun z => h20 (by simpa using z), fun z => h21 (by simpa using z), fun z => h22 (by simpa using z)⟩
          · go_wp2
            rw [HRK.out]
            exact ⟨e, _, _, _, _, _, _, _, _, _, _, _, _, _, _, _, _, _, _, _, _, _, _, _, rfl, rfl, fun z => h0 (by simpa using z), fun z => h1 (by simpa using z), fun z => h2 (by simpa using z), fun z => h3 (by simpa using z), fun z => h4 (by simpa using z), fun z => h5 (by simpa using z), fun z => h6 (by simpa using z), fun _ => rfl, fun z => h8 (by simpa using z), fun z => h9 (by simpa using z), fun z => h10 (by simpa using z), fun z => h11 (by simpa using z), fun z => h12 (by simpa using z), fun z => h13 (by simpa using z), fun z => h14 (by simpa using z), fun z => h15 (by simpa using z), fun z => h16 (by simpa using z), fun z => h17 (by simpa using z), fun z => h18 (by simpa using z), fun z => h19 (by simpa using z), fun z => h20 (by simpa using z), fun z => h21 (by simpa using z), fun z => h22 (by simpa using z)⟩
          · obtain rfl := h6 (haf ⟨6, .data⟩ (by simp) rfl)
            obtain rfl := h7 (haf ⟨7, .data⟩ (by simp) rfl)
            go_wp2
            rw [HRK.out]
            exact ⟨e, _, _, _, _, _, _, _, _, _, _, _, _, _, _, _, _, _, _, _, _, _, _, _, rfl, rfl, fun z => h0 (by simpa using z), fun z => h1 (by simpa using z), fun z => h2 (by simpa using z), fun z => h3 (by simpa using z), fun z => h4 (by simpa using z), fun z => h5 (by simpa using z), fun _ => rfl, fun _ => rfl, fun _ => rfl, fun z => h9 (by simpa using z), fun z => h10 (by simpa using z), fun z => h11 (by simpa using z), fun z => h12 (by simpa using z), fun z => h13 (by simpa using z), fun z => h14 (by simpa using z), fun z => h15 (by simpa using z), fun z => h16 (by simpa using z), fun z => h17 (by simpa using z), fun z => h18 (by simpa using z), fun z => h19 (by simpa using z), fun z => h20 (by simpa using z), fun z => h21 (by simpa using z), fun z => h22 (by simpa using z)⟩
          · obtain rfl := h8 (haf ⟨8, .data⟩ (by simp) rfl)
            go_wp2
            rw [HRK.out]
            exact ⟨e, _, _, _, _, _, _, _, _, _, _, _, _, _, _, _, _, _, _, _, _, _, _, _, rfl, rfl, fun z => h0 (by simpa using z), fun z => h1 (by simpa using z), fun z => h2 (by simpa using z), fun z => h3 (by simpa using z), fun z => h4 (by simpa using z), fun z => h5 (by simpa using z), fun z => h6 (by simpa using z), fun z => h7 (by simpa using z), fun _ => rfl, fun _ => rfl, fun z => h10 (by simpa using z), fun z => h11 (by simpa using z), fun z => h12 (by simpa using z), fun z => h13 (by simpa using z), fun z => h14 (by simpa using z), fun z => h15 (by simpa using z), fun z => h16 (by simpa using z), fun z => h17 (by simpa using z), fun z => h18 (by simpa using z), fun z => h19 (by simpa using z), fun z => h20 (by simpa using z), fun z => h21 (by simpa using z), fun z => h22 (by simpa using z)⟩
          · obtain rfl := h9 (haf ⟨9, .data⟩ (by simp) rfl)
            go_wp2
            rw [HRK.out]
            exact ⟨e, _, _, _, _, _, _, _, _, _, _, _, _, _, _, _, _, _, _, _, _, _, _, _, rfl, rfl, fun z => h0 (by simpa using z), fun z => h1 (by simpa using z), fun z => h2 (by simpa using z), fun z => h3 (by simpa using z), fun z => h4 (by simpa using z), fun z => h5 (by simpa using z), fun z => h6 (by simpa using z), fun z => h7 (by simpa using z), fun z => h8 (by simpa using z), fun _ => rfl, fun _ => rfl, fun z => h11 (by simpa using z), fun z => h12 (by simpa using z), fun z => h13 (by simpa using z), fun z => h14 (by simpa using z), fun z => h15 (by simpa using z), fun z => h16 (by simpa using z), fun z => h17 (by simpa using z), fun z => h18 (by simpa using z), fun z => h19 (by simpa using z), fun z => h20 (by simpa using z), fun z => h21 (by simpa using z), fun z => h22 (by simpa using z)⟩
          · go_wp2
            rw [HRK.out]
            exact ⟨e, _, _, _, _, _, _, _, _, _, _, _, _, _, _, _, _, _, _, _, _, _, _, _, rfl, rfl, fun z => h0 (by simpa using z), fun z => h1 (by simpa using z), fun z => h2 (by simpa using z), fun z => h3 (by simpa using z), fun z => h4 (by simpa using z), fun z => h5 (by simpa using z), fun z => h6 (by simpa using z), fun z => h7 (by simpa using z), fun z => h8 (by simpa using z), fun z => h9 (by simpa using z), fun z => h10 (by simpa using z), fun _ => rfl, fun z => h12 (by simpa using z), fun z => h13 (by simpa using z), fun z => h14 (by simpa using z), fun z => h15 (by simpa using z), fun z => h16 (by simpa using z), fun z => h17 (by simpa using z), fun z => h18 (by simpa using z), fun z => h19 (by simpa using z), fun z => h20 (by simpa using z), fun z => h21 (by simpa using z), fun z => h22 (by simpa using z)⟩
          · obtain rfl := h10 (haf ⟨10, .data⟩ (by simp) rfl)
            obtain rfl := h11 (haf ⟨11, .data⟩ (by simp) rfl)
            go_wp2
            rw [HRK.out]
            exact ⟨e, _, _, _, _, _, _, _, _, _, _, _, _, _, _, _, _, _, _, _, _, _, _, _, rfl, rfl, fun z => h0 (by simpa using z), fun z => h1 (by simpa using z), fun z => h2 (by simpa using z), fun z => h3 (by simpa using z), fun z => h4 (by simpa using z), fun z => h5 (by simpa using z), fun z => h6 (by simpa using z), fun z => h7 (by simpa using z), fun z => h8 (by simpa using z), fun z => h9 (by simpa using z), fun _ => rfl, fun _ => rfl, fun _ => rfl, fun z => h13 (by simpa using z), fun z => h14 (by simpa using z), fun z => h15 (by simpa using z), fun z => h16 (by simpa using z), fun z => h17 (by simpa using z), fun z => h18 (by simpa using z), fun z => h19 (by simpa using z), fun z => h20 (by simpa using z), fun z => h21 (by simpa using z), fun z => h22 (by simpa using z)⟩
          · go_wp2
            rw [HRK.out]
            exact ⟨e, _, _, _, _, _, _, _, _, _, _, _, _, _, _, _, _, _, _, _, _, _, _, _, rfl, rfl, fun z => h0 (by simpa using z), fun z => h1 (by simpa using z), fun z => h2 (by simpa using z), fun z => h3 (by simpa using z), fun z => h4 (by simpa using z), fun z => h5 (by simpa using z), fun z => h6 (by simpa using z), fun z => h7 (by simpa using z), fun z => h8 (by simpa using z), fun z => h9 (by simpa using z), fun z => h10 (by simpa using z), fun z => h11 (by simpa using z), fun z => h12 (by simpa using z), fun _ => rfl, fun z => h14 (by simpa using z), fun z => h15 (by simpa using z), fun z => h16 (by simpa using z), fun z => h17 (by simpa using z), fun z => h18 (by simpa using z), fun z => h19 (by simpa using z), fun z => h20 (by simpa using z), fun z => h21 (by simpa using z), fun z => h22 (by simpa using z)⟩
          · go_wp2
            rw [HRK.out]
            exact ⟨e, _, _, _, _, _, _, _, _, _, _, _, _, _, _, _, _, _, _, _, _, _, _, _, rfl, rfl, fun z => h0 (by simpa using z), fun z => h1 (by simpa using z), fun z => h2 (by simpa using z), fun z => h3 (by simpa using z), fun z => h4 (by simpa using z), fun z => h5 (by simpa using z), fun z => h6 (by simpa using z), fun z => h7 (by simpa using z), fun z => h8 (by simpa using z), fun z => h9 (by simpa using z), fun z => h10 (by simpa using z), fun z => h11 (by simpa using z), fun z => h12 (by simpa using z), fun z => h13 (by simpa using z), fun _ => rfl, fun z => h15 (by simpa using z), fun z => h16 (by simpa using z), fun z => h17 (by simpa using z), fun z => h18 (by simpa using z), fun z => h19 (by simpa using z), fun z => h20 (by simpa using z), fun z => h21 (by simpa using z), fun z => h22 (by simpa using z)⟩
          · obtain rfl := h13 (haf ⟨13, .data⟩ (by simp) rfl)
            obtain rfl := h14 (haf ⟨14, .data⟩ (by simp) rfl)
            go_wp2
            rw [HRK.out]
            exact ⟨e, _, _, _, _, _, _, _, _, _, _, _, _, _, _, _, _, _, _, _, _, _, _, _, rfl, rfl, fun z => h0 (by simpa using z), fun z => h1 (by simpa using z), fun z => h2 (by simpa using z), fun z => h3 (by simpa using z), fun z => h4 (by simpa using z), fun z => h5 (by simpa using z), fun z => h6 (by simpa using z), fun z => h7 (by simpa using z), fun z => h8 (by simpa using z), fun z => h9 (by simpa using z), fun z => h10 (by simpa using z), fun z => h11 (by simpa using z), fun z => h12 (by simpa using z), fun _ => rfl, fun _ => rfl, fun _ => rfl, fun z => h16 (by simpa using z), fun z => h17 (by simpa using z), fun z => h18 (by simpa using z), fun z => h19 (by simpa using z), fun z => h20 (by simpa using z), fun z => h21 (by simpa using z), fun z => h22 (by simpa using z)⟩
          · obtain rfl := h15 (haf ⟨15, .data⟩ (by simp) rfl)
            go_wp2
            rw [HRK.out]
            exact ⟨e, _, _, _, _, _, _, _, _, _, _, _, _, _, _, _, _, _, _, _, _, _, _, _, rfl, rfl, fun z => h0 (by simpa using z), fun z => h1 (by simpa using z), fun z => h2 (by simpa using z), fun z => h3 (by simpa using z), fun z => h4 (by simpa using z), fun z => h5 (by simpa using z), fun z => h6 (by simpa using z), fun z => h7 (by simpa using z), fun z => h8 (by simpa using z), fun z => h9 (by simpa using z), fun z => h10 (by simpa using z), fun z => h11 (by simpa using z), fun z => h12 (by simpa using z), fun z => h13 (by simpa using z), fun z => h14 (by simpa using z), fun _ => rfl, fun _ => rfl, fun z => h17 (by simpa using z), fun z => h18 (by simpa using z), fun z => h19 (by simpa using z), fun z => h20 (by simpa using z), fun z => h21 (by simpa using z), fun z => h22 (by simpa using z)⟩
          · obtain rfl := h16 (haf ⟨16, .data⟩ (by simp) rfl)
            go_wp2
            rw [HRK.out]
            exact ⟨e, _, _, _, _, _, _, _, _, _, _, _, _, _, _, _, _, _, _, _, _, _, _, _, rfl, rfl, fun z => h0 (by simpa using z), fun z => h1 (by simpa using z), fun z => h2 (by simpa using z), fun z => h3 (by simpa using z), fun z => h4 (by simpa using z), fun z => h5 (by simpa using z), fun z => h6 (by simpa using z), fun z => h7 (by simpa using z), fun z => h8 (by simpa using z), fun z => h9 (by simpa using z), fun z => h10 (by simpa using z), fun z => h11 (by simpa using z), fun z => h12 (by simpa using z), fun z => h13 (by simpa using z), fun z => h14 (by simpa using z), fun z => h15 (by simpa using z), fun _ => rfl, fun _ => rfl, fun z => h18 (by simpa using z), fun z => h19 (by simpa using z), fun z => h20 (by simpa using z), fun z => h21 (by simpa using z), fun z => h22 (by simpa using z)⟩
          · go_wp2
            rw [HRK.out]
            exact ⟨e, _, _, _, _, _, _, _, _, _, _, _, _, _, _, _, _, _, _, _, _, _, _, _, rfl, rfl, fun z => h0 (by simpa using z), fun z => h1 (by simpa using z), fun z => h2 (by simpa using z), fun z => h3 (by simpa using z), fun z => h4 (by simpa using z), fun z => h5 (by simpa using z), fun z => h6 (by simpa using z), fun z => h7 (by simpa using z), fun z => h8 (by simpa using z), fun z => h9 (by simpa using z), fun z => h10 (by simpa using z), fun z => h11 (by simpa using z), fun z => h12 (by simpa using z), fun z => h13 (by simpa using z), fun z => h14 (by simpa using z), fun z => h15 (by simpa using z), fun z => h16 (by simpa using z), fun z => h17 (by simpa using z), fun _ => rfl, fun z => h19 (by simpa using z), fun z => h20 (by simpa using z), fun z => h21 (by simpa using z), fun z => h22 (by simpa using z)⟩
          · obtain rfl := h17 (haf ⟨17, .data⟩ (by simp) rfl)
            obtain rfl := h18 (haf ⟨18, .data⟩ (by simp) rfl)
            go_wp2
            rw [HRK.out]
            exact ⟨e, _, _, _, _, _, _, _, _, _, _, _, _, _, _, _, _, _, _, _, _, _, _, _, rfl, rfl, fun z => h0 (by simpa using z), fun z => h1 (by simpa using z), fun z => h2 (by simpa using z), fun z => h3 (by simpa using z), fun z => h4 (by simpa using z), fun z => h5 (by simpa using z), fun z => h6 (by simpa using z), fun z => h7 (by simpa using z), fun z => h8 (by simpa using z), fun z => h9 (by simpa using z), fun z => h10 (by simpa using z), fun z => h11 (by simpa using z), fun z => h12 (by simpa using z), fun z => h13 (by simpa using z), fun z => h14 (by simpa using z), fun z => h15 (by simpa using z), fun z => h16 (by simpa using z), fun _ => rfl, fun _ => rfl, fun _ => rfl, fun z => h20 (by simpa using z), fun z => h21 (by simpa using z), fun z => h22 (by simpa using z)⟩
          · obtain rfl := h12 (haf ⟨12, .data⟩ (by simp) rfl)
            obtain rfl := h19 (haf ⟨19, .data⟩ (by simp) rfl)
            go_wp2
            rw [HRK.out]
            exact ⟨e, _, _, _, _, _, _, _, _, _, _, _, _, _, _, _, _, _, _, _, _, _, _, _, rfl, rfl, fun z => h0 (by simpa using z), fun z => h1 (by simpa using z), fun z => h2 (by simpa using z), fun z => h3 (by simpa using z), fun z => h4 (by simpa using z), fun z => h5 (by simpa using z), fun z => h6 (by simpa using z), fun z => h7 (by simpa using z), fun z => h8 (by simpa using z), fun z => h9 (by simpa using z), fun z => h10 (by simpa using z), fun z => h11 (by simpa using z), fun _ => rfl, fun z => h13 (by simpa using z), fun z => h14 (by simpa using z), fun z => h15 (by simpa using z), fun z => h16 (by simpa using z), fun z => h17 (by simpa using z), fun z => h18 (by simpa using z), fun _ => rfl, fun _ => rfl, fun z => h21 (by simpa using z), fun z => h22 (by simpa using z)⟩
          · obtain rfl := h5 (haf ⟨5, .data⟩ (by simp) rfl)
            obtain rfl := h20 (haf ⟨20, .data⟩ (by simp) rfl)
            go_wp2
            rw [HRK.out]
            exact ⟨e, _, _, _, _, _, _, _, _, _, _, _, _, _, _, _, _, _, _, _, _, _, _, _, rfl, rfl, fun z => h0 (by simpa using z), fun z => h1 (by simpa using z), fun z => h2 (by simpa using z), fun z => h3 (by simpa using z), fun z => h4 (by simpa using z), fun _ => rfl, fun z => h6 (by simpa using z), fun z => h7 (by simpa using z), fun z => h8 (by simpa using z), fun z => h9 (by simpa using z), fun z => h10 (by simpa using z), fun z => h11 (by simpa using z), fun z => h12 (by simpa using z), fun z => h13 (by simpa using z), fun z => h14 (by simpa using z), fun z => h15 (by simpa using z), fun z => h16 (by simpa using z), fun z => h17 (by simpa using z), fun z => h18 (by simpa using z), fun z => h19 (by simpa using z), fun _ => rfl, fun _ => rfl, fun z => h22 (by simpa using z)⟩
          · obtain rfl := h21 (haf ⟨21, .data⟩ (by simp) rfl)
            have hNew : Below e.w.heap.size e.w (e.w.alloc (.cells #[.int .i64 l[k].t, .int .i64 (l[k].v - D), .int .i64 (l[k].v + D)] 98)) := (Below.refl _ _).alloc (Nat.le_refl _) _
            go_wp2
            rw [HRK.out]
            exact ⟨⟨_, e.b.alloc hse (.cells #[.int .i64 l[k].t, .int .i64 (l[k].v - D), .int .i64 (l[k].v + D)] 98)⟩, _, _, _, _, _, _, _, _, _, _, _, _, _, _, _, _, _, _, _, _, _, _, _, rfl, rfl, fun z => h0 (by simpa using z), fun z => h1 (by simpa using z), fun z => h2 (by simpa using z), fun z => h3 (by simpa using z), fun z => h4 (by simpa using z), fun z => h5 (by simpa using z), fun z => h6 (by simpa using z), fun z => h7 (by simpa using z), fun z => h8 (by simpa using z), fun z => h9 (by simpa using z), fun z => h10 (by simpa using z), fun z => h11 (by simpa using z), fun z => h12 (by simpa using z), fun z => h13 (by simpa using z), fun z => h14 (by simpa using z), fun z => h15 (by simpa using z), fun z => h16 (by simpa using z), fun z => h17 (by simpa using z), fun z => h18 (by simpa using z), fun z => h19 (by simpa using z), fun z => h20 (by simpa using z), fun _ => rfl, fun _ => Lib.hid ⟨_, rfl, BlkAt.new hse⟩⟩
        · rintro L a' w' hL hInv
          rw [HRK.out] at hInv
          obtain ⟨e, v43, v44, v45, v46, v47, v48, v49, v50, v51, v52, v53, v54, v55, v56, v57, v58, v59, v60, v61, v62, v63, v64, v65, rfl, rfl, h0, h1, h2, h3, h4, h5, h6, h7, h8, h9, h10, h11, h12, h13, h14, h15, h16, h17, h18, h19, h20, h21, h22⟩ := hInv
          obtain rfl := h0 (hL 0 (by omega))
          obtain rfl := h1 (hL 1 (by omega))
          obtain rfl := h2 (hL 2 (by omega))
          obtain rfl := h3 (hL 3 (by omega))
          obtain rfl := h4 (hL 4 (by omega))
          obtain rfl := h5 (hL 5 (by omega))
          obtain rfl := h6 (hL 6 (by omega))
          obtain rfl := h7 (hL 7 (by omega))
          obtain rfl := h8 (hL 8 (by omega))
          obtain rfl := h9 (hL 9 (by omega))
          obtain rfl := h10 (hL 10 (by omega))
          obtain rfl := h11 (hL 11 (by omega))
          obtain rfl := h12 (hL 12 (by omega))
          obtain rfl := h13 (hL 13 (by omega))
          obtain rfl := h14 (hL 14 (by omega))
          obtain rfl := h15 (hL 15 (by omega))
          obtain rfl := h16 (hL 16 (by omega))
          obtain rfl := h17 (hL 17 (by omega))
          obtain rfl := h18 (hL 18 (by omega))
          obtain rfl := h19 (hL 19 (by omega))
          obtain rfl := h20 (hL 20 (by omega))
          obtain rfl := h21 (hL 21 (by omega))
          obtain ⟨gb65, rfl, hgb65⟩ := (h22 (hL 22 (by omega))).out
          have hse : W5.heap.size ≤ e.w.heap.size := e.b.size
          clear h22 hL HRK
          have HS := Lib.hid (show Src e.w 3 (some ⟨gb65, 0, none⟩) 1 [.int .i64 l[k].t, .int .i64 (l[k].v - D), .int .i64 (l[k].v + D)] from .inr ⟨_, rfl, rfl, fun z u hu => by
            have e0 : (⟨gb65, 0, none⟩ : Addr).add z = ⟨gb65, z, none⟩ := by unfold Addr.add; split <;> simp_all
            rw [e0]; exact hgb65.cell z u hu⟩)
          have HoE := Lib.hid (own_below (own_below Ho.out HbW5.out) e.b)
          have HbE := Lib.hid (Hb.out.trans ((HbW5.out.trans (e.b.mono HbW5.out.size)).mono (by omega)))
          have hbse : w.heap.size + 1 ≤ e.w.heap.size := by have := HbW5.out.size; omega
          have hcl := coreAt_len q l s k
          clear hgb65
          refine wpList_appendL rfl _ _ 83 rfl (w.heap.size + 1) 98 _ 3 24 elemKn _ _ _ rfl HoE.out _ _ _ _ rfl HS.out (by simp [Value.oneCell']) (by omega) hbse ?_
          intro v8 w8 hown8 hb8 hsz8 hg8 hblk8
          have Hown8 := Lib.hid hown8
          have Hb8 := Lib.hid hb8
          clear hown8 hb8 hsz8 hg8 hblk8
          go_wp2
          go_roundw
          case rel => exact ⟨k + 1, by omega, by go_num, Lib.hid (by rw [HS2.out, HSp.out, encKs_append, List.length_append]; exact Hown8.out), Lib.hid (HbE.out.trans Hb8.out)⟩
          case measure => simp [intOf]; omega
      · have HS := Lib.hid (HOut.out hbit)
        have HOt := Lib.hid (refOut_any s j wr hs (by omega))
        rw [hbit] at HOt
        go_wp2_with (go_at_call 59; refine HOt.out.mono ?_; rintro r w2 ⟨rfl, hw2⟩; obtain rfl := hw2.symm)
        go_roundw
        case rel => exact ⟨k + 1, by omega, by go_num, Lib.hid (by rw [HS.out]; exact Ho.out), Hb⟩
        case measure => simp [intOf]; omega
    · obtain rfl : k = l.length := by omega
      rw [coreAt_all] at Ho
      go_wp2
      go_ret
      exact ⟨_, rfl, own_mono Ho.out (by omega), Hwr.out⟩
end Go.Proofs.Ytcgnpndfhhcplaa
