/-
  The law's readings of a history: of gauges that have failed any value. Conditions: bounds.
-/
import Derived.Test.YtcgnpndfhhcplaaLWalk
import Derived.Test.YtcgnpndfhhcplaaBlk
import Derived.Test.YtcgnpndfhhcplaaShrinks
import Derived.Deep.CutRange
import Derived.Deep.CutBlock
import Derived.Deep.DeepCutAuto
namespace Go.Proofs.Ytcgnpndfhhcplaa
open Go.RowKit W7
attribute [local go_sem] Oper.semAt_some
def encBool1 (b : Bool) : List Value := [.bool b]
theorem map_bool1 (l : List Bool) : l.map Value.bool = l.flatMap encBool1 := by
  induction l with
  | nil => rfl
  | cons x l ih => simp [encBool1, ih]
theorem BlkAt_set {W X : World} {g : Nat} {cs : List Value} (h : BlkAt W X g cs) (j : Nat) (v : Value) (hj : j < cs.length) : BlkAt W (X.setCell ⟨g, j, none⟩ v) g (cs.set j v) := by
  refine ⟨h.lo, by simpa [World.setCell] using h.hi, fun i u hu => ?_, fun i => by rw [World.frozen?_setCell]; exact h.free i⟩
  by_cases hij : i = j
  · subst hij
    rw [List.getElem?_set_self hj] at hu
    cases hu
    exact World.cell?_setCell_same' _ _ _ (by rw [h.cell i _ (List.getElem?_eq_getElem hj)]; rfl)
  · rw [List.getElem?_set_ne (Ne.symm hij)] at hu
    rw [World.cell?_setCell_other _ _ _ _ (by simp)]
    exact h.cell i u hu
theorem BlkAt_grown {W X Y : World} {g : Nat} {cs : List Value} {row : Option Nat} (h : BlkAt W X g cs) (hg : X.grownBy Y row) (hne : row ≠ some g) : BlkAt W Y g cs := by
  have hb := hg.block g h.hi (fun e => hne e.symm)
  refine ⟨h.lo, Nat.lt_of_lt_of_le h.hi hg.size, fun j v hv => ?_, fun j => ?_⟩
  · have := h.cell j v hv
    simp only [World.cell?] at this ⊢
    rw [hb]; exact this
  · have := h.free j
    simp only [World.frozen?] at this ⊢
    rw [hb]; exact this
def ShownR (q : Quantity) (X : List Int) (bs : List Bool) (n : Nat) (w : World) (e : Ending) (w' : World) : Prop :=
  ∃ (v : Value) (l : List Reading), e = .returned v ∧ l.length ≤ n ∧ (∀ r ∈ l, RdOk q X bs r) ∧ w'.ownsRow w.heap.size 43 3 v l.length (l.flatMap encR) ∧ Below w.heap.size w w'
set_option maxHeartbeats 4000000 in
set_option maxRecDepth 100000 in
theorem shown_any (q : Quantity) (X : List Int) (bs : List Bool) (raw : List Reading) (AX AB AR : Option Addr) (cX cB cR B : Nat) (w : World) (hq : QIn w B q) (hX : Sl w B 1 encInt1 AX X) (hBs : Sl w B 1 encBool1 AB bs) (hR : Sl w B 3 encR AR raw) (hB : B ≤ w.heap.size)
    (hw : Walk q X) (hXl : X.length ≤ 1000) (hbl : bs.length = q.gs.length) (hraw : raw.length ≤ 1000) (hgl : q.gs.length ≤ 8)
    (hlo : -1000000000 ≤ q.lo ∧ q.lo ≤ 1000000000) (hhi : -1000000000 ≤ q.hi ∧ q.hi ≤ 1000000000) (hr : 0 ≤ q.rise ∧ q.rise ≤ 10000) (hf : 0 ≤ q.fall ∧ q.fall ≤ 10000)
    (hgs : ∀ g ∈ q.gs, 0 ≤ g.acc ∧ g.acc ≤ 1000000000 ∧ 0 ≤ g.drift ∧ g.drift ≤ 1000000000 ∧ 0 ≤ g.since ∧ g.since ≤ 100000) :
    Calls Try.prog 23 #[.agg #[.string q.name, .int .i64 q.lo, .int .i64 q.hi, .int .i64 q.rise, .int .i64 q.fall, .int .i64 q.bad, .slice q.gA q.gs.length q.gc], .slice AX X.length cX, .slice AB bs.length cB, .slice AR raw.length cR] w (ShownR q X bs raw.length w) := by
  have HR := Lib.hid hR
  have HX := Lib.hid hX
  have HBs := Lib.hid hBs
  have Hq := Lib.hid hq
  have Hw := Lib.hid hw
  have Hgs := Lib.hid hgs
  have Hbl := Lib.hid hbl
  have Hne := hw.ne
  have Hhv := Lib.hid (fun (t : Int) (ht : 0 ≤ t ∧ t ≤ 100000) => hv_bnd hw hr hf hlo hhi t ht)
  obtain ⟨W0, hW0⟩ : ∃ W0, W0 = w.alloc (.cells #[.string q.name, .int .i64 q.lo, .int .i64 q.hi, .int .i64 q.rise, .int .i64 q.fall, .int .i64 q.bad, .slice q.gA q.gs.length q.gc] 26) := ⟨_, rfl⟩
  have HB0 := Lib.hid (show Below w.heap.size w W0 by rw [hW0]; exact (Below.refl _ _).alloc (Nat.le_refl _) _)
  have Hs0 := Lib.hid (show W0.heap.size = w.heap.size + 1 by rw [hW0]; simp)
  have hs0 : w.heap.size < W0.heap.size := by have := Hs0.out; omega
  have HQ6 := Lib.hid (show ∀ (X : World), Below (w.heap.size + 1) W0 X → X.cell? ⟨w.heap.size, 6, none⟩ = some (.slice q.gA q.gs.length q.gc) from fun X hX =>
    (hX.cell (p := ⟨w.heap.size, 6, none⟩) (by simp)).trans (by rw [hW0]; exact alloc_cell rfl))
  have HW0 := Lib.hid hW0
  clear hW0 hR hX hBs hq hw hgs hbl hlo hhi hr hf
  go_enter Try.func23, Try.ntmps23
  go_wp2
  rw [← HW0.out]
  go_loopw [9, 10] (fun v9 v10 wr => ∃ (k : Nat) (out : List Reading), k ≤ raw.length ∧ v10 = .int .i64 k ∧ out.length ≤ k ∧ Hid (∀ r ∈ out, RdOk q X bs r) ∧ Hid (wr.ownsRow (w.heap.size + 1) 43 3 v9 out.length (out.flatMap encR)) ∧ Hid (Below (w.heap.size + 1) W0 wr)) (fun _ v10 _ => raw.length - (intOf v10).toNat)
  case atStart => exact ⟨0, [], by omega, rfl, by simp, Lib.hid (by simp), Lib.hid (World.ownsRow_nil _ _ _ _), Lib.hid (Below.refl _ _)⟩
  case round =>
    obtain ⟨k, out, hk, rfl, hok, Hout, Ho, Hb⟩ := hrel
    have hsz : w.heap.size < wr.heap.size := by have := Hb.out.size; omega
    have Hwr := Lib.hid (show Below w.heap.size w wr from HB0.out.trans (Hb.out.mono (by omega)))
    have c6 := HQ6.out wr Hb.out
    by_cases hlt : k < raw.length
    rotate_left
    · obtain rfl : k = raw.length := by omega
      go_wp2
      go_ret
      exact ⟨_, out, rfl, by omega, Hout.out, own_mono Ho.out (by omega), HB0.out.trans (Hb.out.mono (by omega))⟩
    · cases hg0 : decide (0 < (q.gs.length : Int))
      · have hz1 : ¬ 0 < q.gs.length := by have := of_decide_eq_false hg0; omega
        have hz2 : decide (0 < q.gs.length) = false := decide_eq_false hz1
        go_wp2
        go_ret
        exact ⟨_, out, rfl, by omega, Hout.out, own_mono Ho.out (by omega), HB0.out.trans (Hb.out.mono (by omega))⟩
      · have hg1 : 0 < q.gs.length := by simpa using hg0
        obtain ⟨ng, hng⟩ : ∃ ng, ng = q.gs.length := ⟨_, rfl⟩
        obtain ⟨br, offr, rfl, hbrB, hrc⟩ := HR.out (by omega)
        have hbrw : br < w.heap.size := by omega
        have hbrr : br < wr.heap.size := by omega
        obtain ⟨rd, hrd⟩ : ∃ rd, rd = raw[k] := ⟨_, rfl⟩
        have HrC := Lib.hid (show ∀ (Y : World), Below wr.heap.size wr Y → Y.cell? ⟨br, offr + k * 3, none⟩ = some (.int .i64 rd.g) ∧ Y.cell? ⟨br, offr + k * 3 + 1, none⟩ = some (.int .i64 rd.t) ∧ Y.cell? ⟨br, offr + k * 3 + 2, none⟩ = some (.int .i64 rd.v) from fun Y hY => by
          rw [hrd]
          exact ⟨((hY.cell (p := ⟨br, offr + k * 3 + 0, none⟩) hbrr).trans (Hwr.out.cell (p := ⟨br, offr + k * 3 + 0, none⟩) hbrw)).trans (hrc k hlt 0 _ rfl), ((hY.cell (p := ⟨br, offr + k * 3 + 1, none⟩) hbrr).trans (Hwr.out.cell (p := ⟨br, offr + k * 3 + 1, none⟩) hbrw)).trans (hrc k hlt 1 _ rfl), ((hY.cell (p := ⟨br, offr + k * 3 + 2, none⟩) hbrr).trans (Hwr.out.cell (p := ⟨br, offr + k * 3 + 2, none⟩) hbrw)).trans (hrc k hlt 2 _ rfl)⟩)
        have HG1 := Lib.hid (fun (Y : World) => lawWithin_b rd.g 0 ((q.gs.length : Int) - 1) Y (by omega) (by omega) (by omega))
        have HG2 := Lib.hid (fun (Y : World) => lawWithin_b rd.t 0 40 Y (by omega) (by omega) (by omega))
        have hgb := withinV_bnd (n := rd.g) (lo := 0) (hi := (q.gs.length : Int) - 1) (by omega)
        have htb := withinV_bnd (n := rd.t) (lo := 0) (hi := 40) (by omega)
        obtain ⟨gn, hgn⟩ : ∃ gn : Nat, withinV rd.g 0 ((q.gs.length : Int) - 1) = (gn : Int) := ⟨(withinV rd.g 0 ((q.gs.length : Int) - 1)).toNat, by omega⟩
        obtain ⟨tt, htt⟩ : ∃ tt, withinV rd.t 0 40 = tt := ⟨_, rfl⟩
        rw [hgn] at HG1 hgb
        rw [htt] at HG2 htb
        have hgnl : gn < q.gs.length := by omega
        clear hrc hrd hgn htt
        obtain ⟨x0, x1, x2⟩ := HrC.out wr (Below.refl _ _)
        have m0 := later_cell x0 hbrr
        have m1 := later_cell x1 hbrr
        have m6 := later_cell c6 hsz
        go_wp2_with fail
        obtain ⟨RW, hRW⟩ : ∃ R : (Nat → Bool) → Act → World → Prop, R = fun L a' w' => ∃ (e : Later wr) (v27 v28 v29 v30 v31 v32 v33 v34 v35 v36 v37 v38 v39 v40 v41 v42 v43 v11 : Value), w' = e.w ∧ a' = { tmps := #[Value.agg #[Value.string q.name, Value.int IntKind.i64 q.lo, Value.int IntKind.i64 q.hi, Value.int IntKind.i64 q.rise, Value.int IntKind.i64 q.fall, Value.int IntKind.i64 q.bad, Value.slice q.gA q.gs.length q.gc], Value.slice AX X.length cX, Value.slice AB bs.length cB, Value.slice (some { block := br, off := offr }) raw.length cR, Value.pointer (some { block := w.heap.size, off := 0 }), undef, undef, undef, Value.slice none 0 0, u9, Value.int IntKind.i64 ↑k, v11, u12, u13, u14, Value.int IntKind.i64 ↑k, Value.slice (some { block := br, off := offr }) raw.length cR, Value.int IntKind.i64 ↑raw.length, Value.bool true, Value.bool true, Value.pointer (some { block := w.heap.size, off := 6 }), Value.slice q.gA q.gs.length q.gc, Value.int IntKind.i64 ↑q.gs.length, Value.bool true, Value.bool true, u25, u26, v27, v28, v29, v30, v31, v32, v33, v34, v35, v36, v37, v38, v39, v40, v41, v42, v43, u44, u45, u46, u47, u48, u49, u50, u51, u52, u53, u54, u55, u56, u57, u58, u59, u60, u61, u62, u63, u64, u65, u66, u67, u68, u69, u70, u71, u72, u73, u74, u75, u76, u77, u78, u79, u80, u81, u82, u83, u84, u85, u86, u87, u88, u89, u90, u91, u92, u93, u94, u95, u96, u97, u98, u99, u100, u101, u102, u103, u104, u105, u106, u107, u108, u109, u110, u111, u112, u113, u114, u115, u116, u117, u118, u119, undef], defers := [] } ∧ (L 0 = true → v27 = Value.slice (some { block := br, off := offr }) raw.length cR) ∧ (L 1 = true → v28 = Value.int IntKind.i64 ↑k) ∧ (L 2 = true → v29 = .pointer (some ⟨br, offr + k * 3, none⟩)) ∧ (L 3 = true → v30 = .pointer (some ⟨br, offr + k * 3, none⟩)) ∧ (L 4 = true → v31 = .int .i64 (rd.g)) ∧ (L 5 = true → v32 = .pointer (some ⟨w.heap.size, 6, none⟩)) ∧ (L 6 = true → v33 = .slice q.gA q.gs.length q.gc) ∧ (L 7 = true → v34 = .int .i64 ↑q.gs.length) ∧ (L 8 = true → v35 = .int .i64 ((q.gs.length : Int) - 1)) ∧ (L 9 = true → v36 = .int .i64 ↑gn) ∧ (L 10 = true → v37 = Value.slice (some { block := br, off := offr }) raw.length cR) ∧ (L 11 = true → v38 = Value.int IntKind.i64 ↑k) ∧ (L 12 = true → v39 = .pointer (some ⟨br, offr + k * 3, none⟩)) ∧ (L 13 = true → v40 = .pointer (some ⟨br, offr + k * 3 + 1, none⟩)) ∧ (L 14 = true → v41 = .int .i64 (rd.t)) ∧ (L 15 = true → v42 = .int .i64 tt) ∧ (L 16 = true → v43 = .agg #[.int .i64 ↑gn, .int .i64 tt, .int .i64 0]) ∧ (L 17 = true → Hid (∃ gb, v11 = .pointer (some ⟨gb, 0, none⟩) ∧ BlkAt wr e.w gb [.int .i64 0, .int .i64 0, .int .i64 0])) := ⟨_, rfl⟩
        have HRW := Lib.hid hRW
        clear hRW
        refine wp_region_inv 18 RW (by kernel_rfl) (by kernel_rfl) (by kernel_rfl) (by kernel_rfl) (by decide) (by kernel_rfl) ?_ ?_ ?_
        · rw [HRW.out]
          exact ⟨⟨_, (Below.refl wr.heap.size wr).drew⟩, _, _, _, _, _, _, _, _, _, _, _, _, _, _, _, _, _, _, rfl, rfl, by simp, by simp, by simp, by simp, by simp, by simp, by simp, by simp, by simp, by simp, by simp, by simp, by simp, by simp, by simp, by simp, by simp, by simp⟩
        · rintro L a' w' i o hi ho hLi haf hInv
          rw [HRW.out] at hInv
          obtain ⟨e, v27, v28, v29, v30, v31, v32, v33, v34, v35, v36, v37, v38, v39, v40, v41, v42, v43, v11, rfl, rfl, h0, h1, h2, h3, h4, h5, h6, h7, h8, h9, h10, h11, h12, h13, h14, h15, h16, h17⟩ := hInv
          have hse : wr.heap.size ≤ e.w.heap.size := e.b.size
          rcases i with _ | _ | _ | _ | _ | _ | _ | _ | _ | _ | _ | _ | _ | _ | _ | _ | _ | _ | i
          case succ.succ.succ.succ.succ.succ.succ.succ.succ.succ.succ.succ.succ.succ.succ.succ.succ.succ => omega
          all_goals (simp only [List.getElem?_cons_zero, List.getElem?_cons_succ, Option.some.injEq] at ho; subst ho)
          · go_wp2
            rw [HRW.out]
            exact ⟨e, _, _, _, _, _, _, _, _, _, _, _, _, _, _, _, _, _, _, rfl, rfl, fun _ => rfl, fun z => h1 (by simpa using z), fun z => h2 (by simpa using z), fun z => h3 (by simpa using z), fun z => h4 (by simpa using z), fun z => h5 (by simpa using z), fun z => h6 (by simpa using z), fun z => h7 (by simpa using z), fun z => h8 (by simpa using z), fun z => h9 (by simpa using z), fun z => h10 (by simpa using z), fun z => h11 (by simpa using z), fun z => h12 (by simpa using z), fun z => h13 (by simpa using z), fun z => h14 (by simpa using z), fun z => h15 (by simpa using z), fun z => h16 (by simpa using z), fun z => h17 (by simpa using z)⟩
          · go_wp2
            rw [HRW.out]
            exact ⟨e, _, _, _, _, _, _, _, _, _, _, _, _, _, _, _, _, _, _, rfl, rfl, fun z => h0 (by simpa using z), fun _ => rfl, fun z => h2 (by simpa using z), fun z => h3 (by simpa using z), fun z => h4 (by simpa using z), fun z => h5 (by simpa using z), fun z => h6 (by simpa using z), fun z => h7 (by simpa using z), fun z => h8 (by simpa using z), fun z => h9 (by simpa using z), fun z => h10 (by simpa using z), fun z => h11 (by simpa using z), fun z => h12 (by simpa using z), fun z => h13 (by simpa using z), fun z => h14 (by simpa using z), fun z => h15 (by simpa using z), fun z => h16 (by simpa using z), fun z => h17 (by simpa using z)⟩
          · obtain rfl := h0 (haf ⟨0, .data⟩ (by simp) rfl)
            obtain rfl := h1 (haf ⟨1, .data⟩ (by simp) rfl)
            go_wp2
            rw [HRW.out]
            exact ⟨e, _, _, _, _, _, _, _, _, _, _, _, _, _, _, _, _, _, _, rfl, rfl, fun _ => rfl, fun _ => rfl, fun _ => rfl, fun z => h3 (by simpa using z), fun z => h4 (by simpa using z), fun z => h5 (by simpa using z), fun z => h6 (by simpa using z), fun z => h7 (by simpa using z), fun z => h8 (by simpa using z), fun z => h9 (by simpa using z), fun z => h10 (by simpa using z), fun z => h11 (by simpa using z), fun z => h12 (by simpa using z), fun z => h13 (by simpa using z), fun z => h14 (by simpa using z), fun z => h15 (by simpa using z), fun z => h16 (by simpa using z), fun z => h17 (by simpa using z)⟩
          · obtain rfl := h2 (haf ⟨2, .data⟩ (by simp) rfl)
            go_wp2
            rw [HRW.out]
            exact ⟨e, _, _, _, _, _, _, _, _, _, _, _, _, _, _, _, _, _, _, rfl, rfl, fun z => h0 (by simpa using z), fun z => h1 (by simpa using z), fun _ => rfl, fun _ => rfl, fun z => h4 (by simpa using z), fun z => h5 (by simpa using z), fun z => h6 (by simpa using z), fun z => h7 (by simpa using z), fun z => h8 (by simpa using z), fun z => h9 (by simpa using z), fun z => h10 (by simpa using z), fun z => h11 (by simpa using z), fun z => h12 (by simpa using z), fun z => h13 (by simpa using z), fun z => h14 (by simpa using z), fun z => h15 (by simpa using z), fun z => h16 (by simpa using z), fun z => h17 (by simpa using z)⟩
          · obtain rfl := h3 (haf ⟨3, .data⟩ (by simp) rfl)
            go_wp2
            rw [HRW.out]
            exact ⟨e, _, _, _, _, _, _, _, _, _, _, _, _, _, _, _, _, _, _, rfl, rfl, fun z => h0 (by simpa using z), fun z => h1 (by simpa using z), fun z => h2 (by simpa using z), fun _ => rfl, fun _ => rfl, fun z => h5 (by simpa using z), fun z => h6 (by simpa using z), fun z => h7 (by simpa using z), fun z => h8 (by simpa using z), fun z => h9 (by simpa using z), fun z => h10 (by simpa using z), fun z => h11 (by simpa using z), fun z => h12 (by simpa using z), fun z => h13 (by simpa using z), fun z => h14 (by simpa using z), fun z => h15 (by simpa using z), fun z => h16 (by simpa using z), fun z => h17 (by simpa using z)⟩
          · go_wp2
            rw [HRW.out]
            exact ⟨e, _, _, _, _, _, _, _, _, _, _, _, _, _, _, _, _, _, _, rfl, rfl, fun z => h0 (by simpa using z), fun z => h1 (by simpa using z), fun z => h2 (by simpa using z), fun z => h3 (by simpa using z), fun z => h4 (by simpa using z), fun _ => rfl, fun z => h6 (by simpa using z), fun z => h7 (by simpa using z), fun z => h8 (by simpa using z), fun z => h9 (by simpa using z), fun z => h10 (by simpa using z), fun z => h11 (by simpa using z), fun z => h12 (by simpa using z), fun z => h13 (by simpa using z), fun z => h14 (by simpa using z), fun z => h15 (by simpa using z), fun z => h16 (by simpa using z), fun z => h17 (by simpa using z)⟩
          · obtain rfl := h5 (haf ⟨5, .data⟩ (by simp) rfl)
            go_wp2
            rw [HRW.out]
            exact ⟨e, _, _, _, _, _, _, _, _, _, _, _, _, _, _, _, _, _, _, rfl, rfl, fun z => h0 (by simpa using z), fun z => h1 (by simpa using z), fun z => h2 (by simpa using z), fun z => h3 (by simpa using z), fun z => h4 (by simpa using z), fun _ => rfl, fun _ => rfl, fun z => h7 (by simpa using z), fun z => h8 (by simpa using z), fun z => h9 (by simpa using z), fun z => h10 (by simpa using z), fun z => h11 (by simpa using z), fun z => h12 (by simpa using z), fun z => h13 (by simpa using z), fun z => h14 (by simpa using z), fun z => h15 (by simpa using z), fun z => h16 (by simpa using z), fun z => h17 (by simpa using z)⟩
          · obtain rfl := h6 (haf ⟨6, .data⟩ (by simp) rfl)
            go_wp2
            rw [HRW.out]
            exact ⟨e, _, _, _, _, _, _, _, _, _, _, _, _, _, _, _, _, _, _, rfl, rfl, fun z => h0 (by simpa using z), fun z => h1 (by simpa using z), fun z => h2 (by simpa using z), fun z => h3 (by simpa using z), fun z => h4 (by simpa using z), fun z => h5 (by simpa using z), fun _ => rfl, fun _ => rfl, fun z => h8 (by simpa using z), fun z => h9 (by simpa using z), fun z => h10 (by simpa using z), fun z => h11 (by simpa using z), fun z => h12 (by simpa using z), fun z => h13 (by simpa using z), fun z => h14 (by simpa using z), fun z => h15 (by simpa using z), fun z => h16 (by simpa using z), fun z => h17 (by simpa using z)⟩
          · obtain rfl := h7 (haf ⟨7, .data⟩ (by simp) rfl)
            go_wp2
            rw [HRW.out]
            exact ⟨e, _, _, _, _, _, _, _, _, _, _, _, _, _, _, _, _, _, _, rfl, rfl, fun z => h0 (by simpa using z), fun z => h1 (by simpa using z), fun z => h2 (by simpa using z), fun z => h3 (by simpa using z), fun z => h4 (by simpa using z), fun z => h5 (by simpa using z), fun z => h6 (by simpa using z), fun _ => rfl, fun _ => rfl, fun z => h9 (by simpa using z), fun z => h10 (by simpa using z), fun z => h11 (by simpa using z), fun z => h12 (by simpa using z), fun z => h13 (by simpa using z), fun z => h14 (by simpa using z), fun z => h15 (by simpa using z), fun z => h16 (by simpa using z), fun z => h17 (by simpa using z)⟩
          · obtain rfl := h4 (haf ⟨4, .data⟩ (by simp) rfl)
            obtain rfl := h8 (haf ⟨8, .data⟩ (by simp) rfl)
            go_wp2_with (go_at_call 26; refine (HG1.out _).mono ?_; rintro r w4 ⟨rfl, hNew⟩)
            rw [HRW.out]
            exact ⟨⟨w4, e.b.trans (hNew.mono e.b.size)⟩, _, _, _, _, _, _, _, _, _, _, _, _, _, _, _, _, _, _, rfl, rfl, fun z => h0 (by simpa using z), fun z => h1 (by simpa using z), fun z => h2 (by simpa using z), fun z => h3 (by simpa using z), fun _ => rfl, fun z => h5 (by simpa using z), fun z => h6 (by simpa using z), fun z => h7 (by simpa using z), fun _ => rfl, fun _ => rfl, fun z => h10 (by simpa using z), fun z => h11 (by simpa using z), fun z => h12 (by simpa using z), fun z => h13 (by simpa using z), fun z => h14 (by simpa using z), fun z => h15 (by simpa using z), fun z => h16 (by simpa using z), fun z => (by obtain ⟨gb, p1, p2⟩ := (h17 (by simpa using z)).out; exact Lib.hid ⟨gb, p1, p2.below hNew⟩)⟩
          · go_wp2
            rw [HRW.out]
            exact ⟨e, _, _, _, _, _, _, _, _, _, _, _, _, _, _, _, _, _, _, rfl, rfl, fun z => h0 (by simpa using z), fun z => h1 (by simpa using z), fun z => h2 (by simpa using z), fun z => h3 (by simpa using z), fun z => h4 (by simpa using z), fun z => h5 (by simpa using z), fun z => h6 (by simpa using z), fun z => h7 (by simpa using z), fun z => h8 (by simpa using z), fun z => h9 (by simpa using z), fun _ => rfl, fun z => h11 (by simpa using z), fun z => h12 (by simpa using z), fun z => h13 (by simpa using z), fun z => h14 (by simpa using z), fun z => h15 (by simpa using z), fun z => h16 (by simpa using z), fun z => h17 (by simpa using z)⟩
          · go_wp2
            rw [HRW.out]
            exact ⟨e, _, _, _, _, _, _, _, _, _, _, _, _, _, _, _, _, _, _, rfl, rfl, fun z => h0 (by simpa using z), fun z => h1 (by simpa using z), fun z => h2 (by simpa using z), fun z => h3 (by simpa using z), fun z => h4 (by simpa using z), fun z => h5 (by simpa using z), fun z => h6 (by simpa using z), fun z => h7 (by simpa using z), fun z => h8 (by simpa using z), fun z => h9 (by simpa using z), fun z => h10 (by simpa using z), fun _ => rfl, fun z => h12 (by simpa using z), fun z => h13 (by simpa using z), fun z => h14 (by simpa using z), fun z => h15 (by simpa using z), fun z => h16 (by simpa using z), fun z => h17 (by simpa using z)⟩
          · obtain rfl := h10 (haf ⟨10, .data⟩ (by simp) rfl)
            obtain rfl := h11 (haf ⟨11, .data⟩ (by simp) rfl)
            go_wp2
            rw [HRW.out]
            exact ⟨e, _, _, _, _, _, _, _, _, _, _, _, _, _, _, _, _, _, _, rfl, rfl, fun z => h0 (by simpa using z), fun z => h1 (by simpa using z), fun z => h2 (by simpa using z), fun z => h3 (by simpa using z), fun z => h4 (by simpa using z), fun z => h5 (by simpa using z), fun z => h6 (by simpa using z), fun z => h7 (by simpa using z), fun z => h8 (by simpa using z), fun z => h9 (by simpa using z), fun _ => rfl, fun _ => rfl, fun _ => rfl, fun z => h13 (by simpa using z), fun z => h14 (by simpa using z), fun z => h15 (by simpa using z), fun z => h16 (by simpa using z), fun z => h17 (by simpa using z)⟩
          · obtain rfl := h12 (haf ⟨12, .data⟩ (by simp) rfl)
            go_wp2
            rw [HRW.out]
            exact ⟨e, _, _, _, _, _, _, _, _, _, _, _, _, _, _, _, _, _, _, rfl, rfl, fun z => h0 (by simpa using z), fun z => h1 (by simpa using z), fun z => h2 (by simpa using z), fun z => h3 (by simpa using z), fun z => h4 (by simpa using z), fun z => h5 (by simpa using z), fun z => h6 (by simpa using z), fun z => h7 (by simpa using z), fun z => h8 (by simpa using z), fun z => h9 (by simpa using z), fun z => h10 (by simpa using z), fun z => h11 (by simpa using z), fun _ => rfl, fun _ => rfl, fun z => h14 (by simpa using z), fun z => h15 (by simpa using z), fun z => h16 (by simpa using z), fun z => h17 (by simpa using z)⟩
          · obtain rfl := h13 (haf ⟨13, .data⟩ (by simp) rfl)
            go_wp2
            rw [HRW.out]
            exact ⟨e, _, _, _, _, _, _, _, _, _, _, _, _, _, _, _, _, _, _, rfl, rfl, fun z => h0 (by simpa using z), fun z => h1 (by simpa using z), fun z => h2 (by simpa using z), fun z => h3 (by simpa using z), fun z => h4 (by simpa using z), fun z => h5 (by simpa using z), fun z => h6 (by simpa using z), fun z => h7 (by simpa using z), fun z => h8 (by simpa using z), fun z => h9 (by simpa using z), fun z => h10 (by simpa using z), fun z => h11 (by simpa using z), fun z => h12 (by simpa using z), fun _ => rfl, fun _ => rfl, fun z => h15 (by simpa using z), fun z => h16 (by simpa using z), fun z => h17 (by simpa using z)⟩
          · obtain rfl := h14 (haf ⟨14, .data⟩ (by simp) rfl)
            go_wp2_with (go_at_call 26; refine (HG2.out _).mono ?_; rintro r w4 ⟨rfl, hNew⟩)
            rw [HRW.out]
            exact ⟨⟨w4, e.b.trans (hNew.mono e.b.size)⟩, _, _, _, _, _, _, _, _, _, _, _, _, _, _, _, _, _, _, rfl, rfl, fun z => h0 (by simpa using z), fun z => h1 (by simpa using z), fun z => h2 (by simpa using z), fun z => h3 (by simpa using z), fun z => h4 (by simpa using z), fun z => h5 (by simpa using z), fun z => h6 (by simpa using z), fun z => h7 (by simpa using z), fun z => h8 (by simpa using z), fun z => h9 (by simpa using z), fun z => h10 (by simpa using z), fun z => h11 (by simpa using z), fun z => h12 (by simpa using z), fun z => h13 (by simpa using z), fun _ => rfl, fun _ => rfl, fun z => h16 (by simpa using z), fun z => (by obtain ⟨gb, p1, p2⟩ := (h17 (by simpa using z)).out; exact Lib.hid ⟨gb, p1, p2.below hNew⟩)⟩
          · obtain rfl := h9 (haf ⟨9, .data⟩ (by simp) rfl)
            obtain rfl := h15 (haf ⟨15, .data⟩ (by simp) rfl)
            go_wp2
            rw [HRW.out]
            exact ⟨e, _, _, _, _, _, _, _, _, _, _, _, _, _, _, _, _, _, _, rfl, rfl, fun z => h0 (by simpa using z), fun z => h1 (by simpa using z), fun z => h2 (by simpa using z), fun z => h3 (by simpa using z), fun z => h4 (by simpa using z), fun z => h5 (by simpa using z), fun z => h6 (by simpa using z), fun z => h7 (by simpa using z), fun z => h8 (by simpa using z), fun _ => rfl, fun z => h10 (by simpa using z), fun z => h11 (by simpa using z), fun z => h12 (by simpa using z), fun z => h13 (by simpa using z), fun z => h14 (by simpa using z), fun _ => rfl, fun _ => rfl, fun z => h17 (by simpa using z)⟩
          · have hNew : Below e.w.heap.size e.w (e.w.alloc (.cells #[.int .i64 0, .int .i64 0, .int .i64 0] 43)) := (Below.refl _ _).alloc (Nat.le_refl _) _
            go_wp2
            rw [HRW.out]
            exact ⟨⟨_, e.b.alloc hse (.cells #[.int .i64 0, .int .i64 0, .int .i64 0] 43)⟩, _, _, _, _, _, _, _, _, _, _, _, _, _, _, _, _, _, _, rfl, rfl, fun z => h0 (by simpa using z), fun z => h1 (by simpa using z), fun z => h2 (by simpa using z), fun z => h3 (by simpa using z), fun z => h4 (by simpa using z), fun z => h5 (by simpa using z), fun z => h6 (by simpa using z), fun z => h7 (by simpa using z), fun z => h8 (by simpa using z), fun z => h9 (by simpa using z), fun z => h10 (by simpa using z), fun z => h11 (by simpa using z), fun z => h12 (by simpa using z), fun z => h13 (by simpa using z), fun z => h14 (by simpa using z), fun z => h15 (by simpa using z), fun z => h16 (by simpa using z), fun _ => Lib.hid ⟨_, rfl, BlkAt.new hse⟩⟩
        · rintro L a' w' hL hInv
          rw [HRW.out] at hInv
          obtain ⟨e, v27, v28, v29, v30, v31, v32, v33, v34, v35, v36, v37, v38, v39, v40, v41, v42, v43, v11, rfl, rfl, h0, h1, h2, h3, h4, h5, h6, h7, h8, h9, h10, h11, h12, h13, h14, h15, h16, h17⟩ := hInv
          obtain rfl := h0 (hL 0 (by omega))
          obtain rfl := h1 (hL 1 (by omega))
          obtain rfl := h2 (hL 2 (by omega))
          obtain rfl := h3 (hL 3 (by omega))
          obtain rfl := h4 (hL 4 (by omega))
          obtain rfl := h5 (hL 5 (by omega))
          obtain rfl := h6 (hL 6 (by omega))
          obtain rfl := h7 (hL 7 (by omega))
          obtain rfl := h8 (hL 8 (by omega))
          obtain rfl := h9 (hL 9 (by omega))
          obtain rfl := h10 (hL 10 (by omega))
          obtain rfl := h11 (hL 11 (by omega))
          obtain rfl := h12 (hL 12 (by omega))
          obtain rfl := h13 (hL 13 (by omega))
          obtain rfl := h14 (hL 14 (by omega))
          obtain rfl := h15 (hL 15 (by omega))
          obtain rfl := h16 (hL 16 (by omega))
          obtain ⟨gb11, rfl, hgb11⟩ := (h17 (hL 17 (by omega))).out
          have hse : wr.heap.size ≤ e.w.heap.size := e.b.size
          clear h0 h1 h2 h3 h4 h5 h6 h7 h8 h9 h10 h11 h12 h13 h14 h15 h16 h17 hL HRW
          have z0 := hgb11.cell 0 _ rfl
          have z1 := hgb11.cell 1 _ rfl
          have z2 := hgb11.cell 2 _ rfl
          have f0 := hgb11.free 0
          have f1 := hgb11.free 1
          have f2 := hgb11.free 2
          have hn5 : wr.heap.size ≤ gb11 := hgb11.lo
          have HbE := Lib.hid (show Below wr.heap.size wr (((e.w.setCell ⟨gb11, 0, none⟩ (.int .i64 ↑gn)).setCell ⟨gb11, 1, none⟩ (.int .i64 tt)).setCell ⟨gb11, 2, none⟩ (.int .i64 0)) from ((e.b.setCell (p := ⟨gb11, 0, none⟩) hn5 _).setCell (p := ⟨gb11, 1, none⟩) hn5 _).setCell (p := ⟨gb11, 2, none⟩) hn5 _)
          have HK := Lib.hid (BlkAt_set (BlkAt_set (BlkAt_set hgb11 0 (.int .i64 ↑gn) (by simp)) 1 (.int .i64 tt) (by simp)) 2 (.int .i64 0) (by simp))
          clear hgb11
          have hgnb : (gn : Int) < (bs.length : Int) := by have := Hbl.out; omega
          obtain ⟨bB, offB, rfl, hbBB, hbc⟩ := HBs.out (by have := Hbl.out; omega)
          obtain ⟨bb, hbb⟩ : ∃ bb, bb = bs[gn]'(by omega) := ⟨_, rfl⟩
          have Hbb := Lib.hid (show bs.getD gn false = bb by rw [hbb, List.getD_eq_getElem?_getD, List.getElem?_eq_getElem (by omega)]; rfl)
          have Hbc := Lib.hid (show w.cell? ⟨bB, offB + gn, none⟩ = some (.bool bb) by rw [hbb]; have := hbc gn (by omega) 0 _ rfl; simpa using this)
          have hbBw : bB < w.heap.size := by omega
          have hbBr : bB < wr.heap.size := by omega
          clear hbb hbc
          go_upto_region 6 with fail
          obtain ⟨W5, hW5⟩ : ∃ W5, W5 = (((e.w.setCell ⟨gb11, 0, none⟩ (.int .i64 ↑gn)).setCell ⟨gb11, 1, none⟩ (.int .i64 tt)).setCell ⟨gb11, 2, none⟩ (.int .i64 0)) := ⟨_, rfl⟩
          rw [← hW5] at HbE HK ⊢
          have HK5 := Lib.hid (show BlkAt wr W5 gb11 [.int .i64 ↑gn, .int .i64 tt, .int .i64 0] from HK.out)
          clear hW5 HK z0 z1 z2 f0 f1 f2 m0 m1 m6 x0 x1 x2 hse
          have z0 : W5.cell? ⟨gb11, 0, none⟩ = some (.int .i64 ↑gn) := HK5.out.cell 0 _ rfl
          have zb : W5.cell? ⟨bB, offB + gn, none⟩ = some (.bool bb) := (HbE.out.cell (p := ⟨bB, offB + gn, none⟩) hbBr).trans ((Hwr.out.cell (p := ⟨bB, offB + gn, none⟩) hbBw).trans Hbc.out)
          have hs5 : wr.heap.size ≤ W5.heap.size := HbE.out.size
          go_upto_if 48 with fail
          obtain ⟨D, hD⟩ : ∃ D, D = devi (q.gs[gn]'hgnl) tt := ⟨_, rfl⟩
          have hgq := Hgs.out (q.gs[gn]'hgnl) (List.getElem_mem hgnl)
          have hDb := devi_bnd (t := tt) hgq (by omega)
          rw [← hD] at hDb
          obtain ⟨HV, hHV⟩ : ∃ HV, HV = hv X tt := ⟨_, rfl⟩
          have hHb := Hhv.out tt (by omega)
          rw [← hHV] at hHb
          have HD := Lib.hid hD
          have HHV := Lib.hid hHV
          clear hD hHV
          go_cut [12, 13] from 15 to 119 (fun v12 v13 wc => ∃ V : Int, Hid (bb = false → HV - D ≤ V ∧ V ≤ HV + D) ∧ (-300000000000 ≤ V ∧ V ≤ 300000000000) ∧ Hid (BlkAt wr wc gb11 [.int .i64 ↑gn, .int .i64 tt, .int .i64 V]) ∧ Hid (Below wr.heap.size wr wc))
          case first =>
            obtain ⟨x0, x1, x2⟩ := HrC.out W5 HbE.out
            cases hbv : bb
            · obtain ⟨bg, og, hgA, hbgB, hgc⟩ := Hq.out.sl (by omega)
              have hbgw : bg < w.heap.size := by omega
              have hbg5 : bg < W5.heap.size := by omega
              have hw5 : w.heap.size < W5.heap.size := by omega
              have Hw5 := Lib.hid (Hwr.out.trans (HbE.out.mono (by omega)))
              have c65 := (HbE.out.cell (p := ⟨w.heap.size, 6, none⟩) hsz).trans c6
              rw [hgA] at c65
              have n6 := later_cell c65 hw5
              have g0 := later_cell (show W5.cell? ⟨bg, og + gn * 4, none⟩ = some (.string (q.gs[gn]'hgnl).name) from (Hw5.out.cell (p := ⟨bg, og + gn * 4 + 0, none⟩) hbgw).trans (hgc gn hgnl 0 _ rfl)) hbg5
              have g1 := later_cell ((Hw5.out.cell (p := ⟨bg, og + gn * 4 + 1, none⟩) hbgw).trans (hgc gn hgnl 1 _ rfl)) hbg5
              have g2 := later_cell ((Hw5.out.cell (p := ⟨bg, og + gn * 4 + 2, none⟩) hbgw).trans (hgc gn hgnl 2 _ rfl)) hbg5
              have g3 := later_cell ((Hw5.out.cell (p := ⟨bg, og + gn * 4 + 3, none⟩) hbgw).trans (hgc gn hgnl 3 _ rfl)) hbg5
              have k0 := later_cell z0 HK5.out.hi
              have k1 := later_cell (HK5.out.cell 1 _ rfl) HK5.out.hi
              have HEr := Lib.hid (fun (Y : World) => refError_any (q.gs[gn]'hgnl) tt Y hgq (by omega))
              rw [← HD.out] at HEr
              have hgnI : (gn : Int) < (q.gs.length : Int) := by omega
              subst hbv
              clear hgA hgc c65
              go_upto_region 8 with fail
              refine wp_region_later (by kernel_rfl) (by kernel_rfl) ?_
              repeat (any_goals (first | go_big_quiet_step ((go_at_call 56; exact later_call _ (HEr.out _))) | quiet_step ((go_at_call 56; exact later_call _ (HEr.out _)))))
              refine wpQuiet_nil ?_
              rintro w' ⟨e8, rfl⟩
              obtain ⟨W8, hW8⟩ : ∃ W8, W8 = e8.w := ⟨_, rfl⟩
              have HbW8 := Lib.hid (show Below W5.heap.size W5 W8 by rw [hW8]; exact e8.b)
              rw [← hW8]
              have hs8 : W5.heap.size ≤ W8.heap.size := HbW8.out.size
              have HK8 := Lib.hid (HK5.out.below HbW8.out)
              have Hwr8 := Lib.hid (HbE.out.trans (HbW8.out.mono hs5))
              obtain ⟨y0, y1, y2⟩ := HrC.out W8 Hwr8.out
              have hbr8 : br < W8.heap.size := by omega
              have m2 := later_cell y2 hbr8
              have k1 := later_cell (HK8.out.cell 1 _ rfl) HK8.out.hi
              have HAt := Lib.hid (fun (Y : World) (hY : Below W8.heap.size W8 Y) => histAt_any X tt AX cX B Y (HX.out.below ((Hwr.out.trans (Hwr8.out.mono (by omega))).trans (hY.mono (by omega)) |>.mono hB)) (by have := hY.size; omega) Hne hXl (by omega) (by omega))
              rw [← HHV.out] at HAt
              have HWv := Lib.hid (fun (Y : World) => lawWithin_b rd.v (-D) D Y (by omega) (by omega) (by omega))
              have hvb := withinV_bnd (n := rd.v) (lo := -D) (hi := D) (by omega)
              obtain ⟨V, hV⟩ : ∃ V, V = withinV rd.v (-D) D := ⟨_, rfl⟩
              rw [← hV] at hvb HWv
              clear hV hW8 n6 g0 g1 g2 g3 y0 y1 y2 x0 x1 x2 k0
              go_upto_region 9 with fail
              refine wp_region_later_tail 15 (by kernel_rfl) (by kernel_rfl) ?_
              simp only [List.take_succ_cons, List.take_zero, List.drop_succ_cons, List.drop_zero]
              repeat (any_goals (first | go_big_quiet_step ((first | (go_at_call 25; exact later_call_same _ ((HAt.out _ (Later.b _)).mono fun _ _ ⟨h1, h2⟩ => ⟨h1, h2.symm⟩)) | (go_at_call 26; exact later_call _ (HWv.out _)))) | quiet_step ((first | (go_at_call 25; exact later_call_same _ ((HAt.out _ (Later.b _)).mono fun _ _ ⟨h1, h2⟩ => ⟨h1, h2.symm⟩)) | (go_at_call 26; exact later_call _ (HWv.out _))))))
              refine wpQuiet_nil ?_
              rintro w' ⟨e9, rfl⟩
              have HK9 := Lib.hid (HK8.out.below e9.b)
              have z2 := HK9.out.cell 2 _ rfl
              have f2 := HK9.out.free 2
              have Hb9 := Lib.hid (Hwr8.out.trans (e9.b.mono (by omega)))
              go_wp2
              go_meet
              case rel => exact ⟨HV + V, Lib.hid (fun _ => by omega), by omega, Lib.hid (BlkAt_set HK9.out 2 (.int .i64 (HV + V)) (by simp)), Lib.hid (Hb9.out.setCell (p := ⟨gb11, 2, none⟩) hn5 _)⟩
            · have hvb := withinV_bnd (n := rd.v) (lo := -1000000000) (hi := 1000000000) (by omega)
              have HWv := Lib.hid (fun (Y : World) => lawWithin_b rd.v (-1000000000) 1000000000 Y (by omega) (by omega) (by omega))
              obtain ⟨V, hV⟩ : ∃ V, V = withinV rd.v (-1000000000) 1000000000 := ⟨_, rfl⟩
              rw [← hV] at hvb HWv
              clear hV
              subst hbv
              go_wp2_with (go_at_call 26; refine (HWv.out _).mono ?_; rintro r w6 ⟨rfl, hb6⟩; have HK6 := Lib.hid (HK5.out.below hb6); have z2 := HK6.out.cell 2 _ rfl; have f2 := HK6.out.free 2; have Hb6 := Lib.hid hb6; clear hb6)
              go_meet
              case rel => exact ⟨V, Lib.hid (by simp), by omega, Lib.hid (BlkAt_set HK6.out 2 (.int .i64 V) (by simp)), Lib.hid ((HbE.out.trans (Hb6.out.mono hs5)).setCell (p := ⟨gb11, 2, none⟩) hn5 _)⟩
          case rest =>
            obtain ⟨V, HVf, hVb, HKc, Hbcw⟩ := hcut
            obtain ⟨wd, rfl⟩ : ∃ x, x = wc := ⟨_, rfl⟩
            have zc2 := HKc.out.cell 2 _ rfl
            have hsc := Hbcw.out.size
            have HrdOk := Lib.hid (fun (h1 : -1000000000 ≤ V) (h2 : V ≤ 1000000000) => show RdOk q X bs ⟨gn, tt, V⟩ from ⟨by simp, by simpa using hgnl, htb.1, htb.2, h1, h2, fun hb => by
              have e1 : bs.getD gn false = false := by simpa using hb
              have e2 : q.gs.getD (gn : Int).toNat default = q.gs[gn]'hgnl := by rw [Int.toNat_natCast, getD_mem _ _ hgnl]
              have := HVf.out (by rw [← Hbb.out]; exact e1)
              simp only
              rw [e2, ← HD.out, ← HHV.out]
              omega⟩)
            have HbC := Lib.hid (Hb.out.trans (Hbcw.out.mono (by omega)))
            cases h1 : decide (V < -1000000000)
            rotate_left
            · go_wp2
              go_roundw
              case rel => exact ⟨k + 1, out, by omega, by go_num, by omega, Hout, Lib.hid (own_below Ho.out Hbcw.out), HbC⟩
              case measure => simp [intOf]; omega
            cases h2 : decide (1000000000 < V)
            rotate_left
            · go_wp2
              go_roundw
              case rel => exact ⟨k + 1, out, by omega, by go_num, by omega, Hout, Lib.hid (own_below Ho.out Hbcw.out), HbC⟩
              case measure => simp [intOf]; omega
            have Hrd := Lib.hid (HrdOk.out (by simpa using h1) (by simpa using h2))
            obtain ⟨Ao, co, rfl, hco1, hco2⟩ := own_cap Ho.out
            go_upto_block 2 with fail
            go_cut [14] from 93 to 107 (fun v14 we => ∃ kk : Nat, kk ≤ out.length ∧ v14 = .int .i64 kk ∧ Hid (Below wd.heap.size wd we))
            case first =>
              go_wp2_with fail
              go_loopw [14] (fun v14 wx => ∃ kk : Nat, kk ≤ out.length ∧ v14 = .int .i64 kk ∧ Hid (Below wd.heap.size wd wx)) (fun v14 _ => (intOf v14).toNat)
              case atStart => exact ⟨out.length, Nat.le_refl _, rfl, Lib.hid (Below.refl _ _)⟩
              case round =>
                obtain ⟨kk, hkk, rfl, Hbx⟩ := hrel
                rcases Nat.eq_zero_or_pos kk with rfl | hp
                · go_wp2
                  go_quiet (fail)
                  go_wp2
                  go_meet
                  case rel => exact ⟨0, hkk, by go_num, Lib.hid (below_drewN Hbx.out _)⟩
                · obtain ⟨m, rfl⟩ : ∃ m, kk = m + 1 := ⟨kk - 1, by omega⟩
                  have HoX := Lib.hid (own_below (own_below Ho.out Hbcw.out) Hbx.out)
                  obtain ⟨g, cap, e, hg⟩ := own_form HoX.out (by omega)
                  cases e
                  obtain ⟨om, hom⟩ : ∃ om, om = (out[m]'(by omega)).t := ⟨_, rfl⟩
                  have o1 : wr.cell? ⟨g, m * 3 + 1, none⟩ = some (.int .i64 om) := by rw [hom]; exact (HoX.out.cellAt _ (by omega)).trans (flatMap_get (enc := encR) (k := 3) (fun _ => rfl) out m 1 (by omega) (by omega))
                  have r1 := (Hbx.out.cell (p := ⟨gb11, 1, none⟩) HKc.out.hi).trans (HKc.out.cell 1 _ rfl)
                  have i1 : (m : Int) < (m : Int) + 1 := by omega
                  have hpos : decide ((0 : Int) < (m : Int) + 1) = true := decide_eq_true (by omega)
                  have w1' : IntKind.i64.wrap ((m : Int) + 1 - 1) = (m : Int) := by rw [IntWalk.i64_in _ (by omega)]; omega
                  have w7' : ((m : Int) + 1 - 1).toNat = m := by omega
                  clear hom
                  cases hc : decide (tt < om)
                  · go_wp2
                    go_quiet (fail)
                    go_wp2
                    go_meet
                    case rel => exact ⟨m + 1, hkk, by go_num, Lib.hid (below_drewN Hbx.out _)⟩
                  · go_wp2
                    go_quiet (fail)
                    go_wp2
                    go_roundw
                    case rel => exact ⟨m, by omega, by go_num, Lib.hid (below_drewN Hbx.out _)⟩
                    case measure => simp [intOf]
            case rest =>
              obtain ⟨kk, hkk, rfl, Hbd⟩ := hcut
              go_upto_region 14 with fail
              -- REGION14
              obtain ⟨ol, hol⟩ : ∃ ol, ol = out.length := ⟨_, rfl⟩
              rw [← hol] at hkk hco1 hok ⊢
              have Hol := Lib.hid hol
              have HbD := Lib.hid (HbC.out.trans (Hbd.out.mono (by omega)))
              have hwcs : w.heap.size + 1 ≤ wc.heap.size := by have := Hbd.out.size; omega
              have HoD := Lib.hid (own_below (own_below Ho.out Hbcw.out) Hbd.out)
              have HKd := Lib.hid (HKc.out.below Hbd.out)
              have l0 := later_cell (HKd.out.cell 0 _ rfl) HKd.out.hi
              have l1 := later_cell (HKd.out.cell 1 _ rfl) HKd.out.hi
              have l2 := later_cell (HKd.out.cell 2 _ rfl) HKd.out.hi
              have HRn := Lib.hid (show ∀ r ∈ out.take kk ++ [(⟨↑gn, tt, V⟩ : Reading)] ++ out.drop kk, RdOk q X bs r from fun r hr => by
                simp only [List.mem_append, List.mem_singleton] at hr
                rcases hr with (h | rfl) | h
                · exact Hout.out r (List.mem_of_mem_take h)
                · exact Hrd.out
                · exact Hout.out r (List.mem_of_mem_drop h))
              have hlen3 : (out.take kk ++ [(⟨↑gn, tt, V⟩ : Reading)] ++ out.drop kk).length = kk + 1 + (ol - kk) := by simp; omega
              have HLn := Lib.hid (show (out.take kk ++ [(⟨↑gn, tt, V⟩ : Reading)] ++ out.drop kk).length ≤ k + 1 by omega)
              have HOn := Lib.hid (show ∀ (v : Value) (Y : World), Y.ownsRow wc.heap.size 43 3 v (kk + 1 + (ol - kk)) ((out.take kk).flatMap encR ++ [.int .i64 ↑gn, .int .i64 tt, .int .i64 V] ++ (out.drop kk).flatMap encR) → Hid (Y.ownsRow (w.heap.size + 1) 43 3 v (out.take kk ++ [(⟨↑gn, tt, V⟩ : Reading)] ++ out.drop kk).length ((out.take kk ++ [(⟨↑gn, tt, V⟩ : Reading)] ++ out.drop kk).flatMap encR)) from fun v Y h => Lib.hid (by
                rw [hlen3, List.flatMap_append, List.flatMap_append]
                exact own_mono h hwcs))
              clear hlen3 hol
              have hol12 : ol ≤ 1000 := by omega
              rcases HoD.out.2 with ⟨e9, h90⟩ | ⟨go, cap9, cur9, e9, hgo, _⟩
              · simp only [Value.slice.injEq] at e9
                obtain ⟨rfl, h91, rfl⟩ := e9
                have h92 : ol = 0 := by have := Hol.out; omega
                subst h92
                obtain rfl : kk = 0 := by omega
                have HS1 := Lib.hid (show Src wc 3 none 0 ((out.take 0).flatMap encR) from .inl ⟨rfl, rfl, by simp⟩)
                have HS2 := Lib.hid (show Src wc 3 none (0 - 0) ((out.drop 0).flatMap encR) from .inl ⟨rfl, rfl, by rw [List.eq_nil_of_length_eq_zero h91]; rfl⟩)
                clear h90 h91
                obtain ⟨R14, hR14⟩ : ∃ R : (Nat → Bool) → Act → World → Prop, R = fun L a' w' => ∃ (e : Later wc) (v108 v109 v110 v111 v112 v113 v114 v115 v116 v117 v118 : Value), w' = e.w ∧ a' = { tmps := #[Value.agg #[Value.string q.name, Value.int IntKind.i64 q.lo, Value.int IntKind.i64 q.hi, Value.int IntKind.i64 q.rise, Value.int IntKind.i64 q.fall, Value.int IntKind.i64 q.bad, Value.slice q.gA q.gs.length q.gc], Value.slice AX X.length cX, Value.slice (some { block := bB, off := offB }) bs.length cB, Value.slice (some { block := br, off := offr }) raw.length cR, Value.pointer (some { block := w.heap.size, off := 0 }), undef, undef, undef, Value.slice none 0 0, .slice none 0 0, Value.int IntKind.i64 ↑k, Value.pointer (some { block := gb11, off := 0 }), u12, u13, .int .i64 ↑(0 : Nat), u15, u16, u17, u18, u19, u20, u21, u22, u23, u24, u25, u26, u27, u28, u29, u30, u31, u32, u33, u34, u35, u36, u37, u38, u39, u40, u41, u42, u43, u44, u45, u46, u47, u48, u49, u50, u51, u52, u53, u54, u55, u56, u57, u58, u59, u60, u61, u62, u63, u64, u65, u66, u67, u68, u69, u70, u71, u72, u73, u74, u75, u76, u77, u78, u79, u80, u81, u82, Value.pointer (some { block := gb11, off := 2 }), Value.int IntKind.i64 V, Value.bool false, Value.bool false, Value.pointer (some { block := gb11, off := 2 }), Value.int IntKind.i64 V, Value.bool false, Value.bool false, .slice none 0 0, Value.int IntKind.i64 ↑(0 : Nat), u93, u94, u95, u96, u97, u98, u99, u100, u101, u102, u103, u104, u105, u106, u107, v108, v109, v110, v111, v112, v113, v114, v115, v116, v117, v118, u119, undef], defers := [] } ∧ (L 0 = true → L 4 = false → Hid (e.w.ownsRow wc.heap.size 43 3 v108 (0) ([]) ∧ ∀ gb, L 6 = true → L 7 = false → v114 = .slice (some ⟨gb, 0, none⟩) 1 1 → v108.ownBlock ≠ some gb)) ∧ (L 1 = true → v109 = .slice none 0 0) ∧ (L 2 = true → v110 = .int .i64 ↑(0 : Nat)) ∧ (L 3 = true → v111 = .slice (none) 0 0) ∧ (L 4 = true → L 7 = false → Hid (e.w.ownsRow wc.heap.size 43 3 v112 (0) ((out.take 0).flatMap encR))) ∧ (L 5 = true → v113 = .agg #[.int .i64 ↑gn, .int .i64 tt, .int .i64 V]) ∧ (L 6 = true → L 7 = false → Hid (∃ gb, v114 = .slice (some ⟨gb, 0, none⟩) 1 1 ∧ BlkAt wc e.w gb [.int .i64 ↑gn, .int .i64 tt, .int .i64 V])) ∧ (L 7 = true → Hid (e.w.ownsRow wc.heap.size 43 3 v115 (0 + 1) ((out.take 0).flatMap encR ++ [.int .i64 ↑gn, .int .i64 tt, .int .i64 V]))) ∧ (L 8 = true → v116 = .slice none 0 0) ∧ (L 9 = true → v117 = .int .i64 ↑(0 : Nat)) ∧ (L 10 = true → Hid (∃ A8 c8, v118 = .slice A8 (0 - 0) c8 ∧ Src wc 3 A8 (0 - 0) ((out.drop 0).flatMap encR))) ∧ (L 7 = true → L 4 = true) := ⟨_, rfl⟩
                have HR14 := Lib.hid hR14
                clear hR14
                refine wp_region_inv 11 R14 (by kernel_rfl) (by kernel_rfl) (by kernel_rfl) (by kernel_rfl) (by decide) (by kernel_rfl) ?_ ?_ ?_
                · rw [HR14.out]
                  exact ⟨⟨_, (Below.refl wc.heap.size wc).drew⟩, _, _, _, _, _, _, _, _, _, _, _, rfl, rfl, by simp, by simp, by simp, by simp, by simp, by simp, by simp, by simp, by simp, by simp, by simp, by simp⟩
                · rintro L a' w' i o hi ho hLi haf hInv
                  rw [HR14.out] at hInv
                  obtain ⟨e, v108, v109, v110, v111, v112, v113, v114, v115, v116, v117, v118, rfl, rfl, h0, h1, h2, h3, h4, h5, h6, h7, h8, h9, h10, h11⟩ := hInv
                  have hse : wc.heap.size ≤ e.w.heap.size := e.b.size
                  rcases i with _ | _ | _ | _ | _ | _ | _ | _ | _ | _ | _ | i
                  case succ.succ.succ.succ.succ.succ.succ.succ.succ.succ.succ => omega
                  all_goals (simp only [List.getElem?_cons_zero, List.getElem?_cons_succ, Option.some.injEq] at ho; subst ho)
                  · have Hemp := Lib.hid (World.ownsRow_lit (base := wc.heap.size) (e := 43) (size := 3) e.w #[] 0 hse (by decide) rfl)
                    have hNew : Below e.w.heap.size e.w (e.w.alloc (.cells #[] 43)) := (Below.refl _ _).alloc (Nat.le_refl _) _
                    go_wp2
                    rw [HR14.out]
                    exact ⟨⟨_, e.b.alloc hse (.cells #[] 43)⟩, _, _, _, _, _, _, _, _, _, _, _, rfl, rfl, fun _ _ => Lib.hid ⟨Hemp.out, fun gb x x7 hx hy => (by obtain ⟨gb', p1, p2⟩ := (h6 (by simpa using x) (by simpa using x7)).out; rw [p1] at hx; cases hx; have := p2.hi; simp [Value.ownBlock] at hy; omega)⟩, fun z => h1 (by simpa using z), fun z => h2 (by simpa using z), fun z => h3 (by simpa using z), fun z y => Lib.hid ((h4 (by simpa using z) (by simpa using y)).out.alloc _), fun z => h5 (by simpa using z), fun z y => (by obtain ⟨gb, p1, p2⟩ := (h6 (by simpa using z) (by simpa using y)).out; exact Lib.hid ⟨gb, p1, p2.below hNew⟩), fun z => Lib.hid ((h7 (by simpa using z)).out.alloc _), fun z => h8 (by simpa using z), fun z => h9 (by simpa using z), fun z => h10 (by simpa using z), fun z => by simpa using h11 (by simpa using z)⟩
                  · go_wp2
                    rw [HR14.out]
                    exact ⟨e, _, _, _, _, _, _, _, _, _, _, _, rfl, rfl, fun z y => Lib.hid ⟨(h0 (by simpa using z) (by simpa using y)).out.1, fun gb x x7 hx => (h0 (by simpa using z) (by simpa using y)).out.2 gb (by simpa using x) (by simpa using x7) hx⟩, fun _ => rfl, fun z => h2 (by simpa using z), fun z => h3 (by simpa using z), fun z y => h4 (by simpa using z) (by simpa using y), fun z => h5 (by simpa using z), fun z y => h6 (by simpa using z) (by simpa using y), fun z => h7 (by simpa using z), fun z => h8 (by simpa using z), fun z => h9 (by simpa using z), fun z => h10 (by simpa using z), fun z => by simpa using h11 (by simpa using z)⟩
                  · go_wp2
                    rw [HR14.out]
                    exact ⟨e, _, _, _, _, _, _, _, _, _, _, _, rfl, rfl, fun z y => Lib.hid ⟨(h0 (by simpa using z) (by simpa using y)).out.1, fun gb x x7 hx => (h0 (by simpa using z) (by simpa using y)).out.2 gb (by simpa using x) (by simpa using x7) hx⟩, fun z => h1 (by simpa using z), fun _ => rfl, fun z => h3 (by simpa using z), fun z y => h4 (by simpa using z) (by simpa using y), fun z => h5 (by simpa using z), fun z y => h6 (by simpa using z) (by simpa using y), fun z => h7 (by simpa using z), fun z => h8 (by simpa using z), fun z => h9 (by simpa using z), fun z => h10 (by simpa using z), fun z => by simpa using h11 (by simpa using z)⟩
                  · obtain rfl := h1 (haf ⟨1, .data⟩ (by simp) rfl)
                    obtain rfl := h2 (haf ⟨2, .data⟩ (by simp) rfl)
                    go_wp2
                    rw [HR14.out]
                    exact ⟨e, _, _, _, _, _, _, _, _, _, _, _, rfl, rfl, fun z y => Lib.hid ⟨(h0 (by simpa using z) (by simpa using y)).out.1, fun gb x x7 hx => (h0 (by simpa using z) (by simpa using y)).out.2 gb (by simpa using x) (by simpa using x7) hx⟩, fun _ => rfl, fun _ => rfl, fun _ => rfl, fun z y => h4 (by simpa using z) (by simpa using y), fun z => h5 (by simpa using z), fun z y => h6 (by simpa using z) (by simpa using y), fun z => h7 (by simpa using z), fun z => h8 (by simpa using z), fun z => h9 (by simpa using z), fun z => h10 (by simpa using z), fun z => by simpa using h11 (by simpa using z)⟩
                  · have hown := h0 (haf ⟨0, .data⟩ (by simp) rfl) hLi
                    obtain rfl := h3 (haf ⟨3, .data⟩ (by simp) rfl)
                    refine wpList_appendL rfl _ _ 27 rfl wc.heap.size 43 _ 3 24 elemR _ _ _ rfl hown.out.1 _ _ _ _ rfl (src_later HS1.out e.b) (oneR _) (by omega) hse ?_
                    intro v4 w4 hown4 hb4 hsz4 hg4 hblk4
                    rw [HR14.out]
                    exact ⟨⟨w4, e.b.trans hb4⟩, _, _, _, _, _, _, _, _, _, _, _, rfl, rfl, fun z y => (by simp at y), fun z => h1 (by simpa using z), fun z => h2 (by simpa using z), fun _ => rfl, fun _ _ => Lib.hid (by have h := hown4; rw [Nat.zero_add, List.nil_append] at h; exact h), fun z => h5 (by simpa using z), fun z y => (by obtain ⟨gb, p1, p2⟩ := (h6 (by simpa using z) (by simpa using y)).out; exact Lib.hid ⟨gb, p1, BlkAt_grown p2 hg4 (hown.out.2 gb (by simpa using z) (by simpa using y) p1)⟩), fun z => absurd (h11 (by simpa using z)) (by simp [hLi]), fun z => h8 (by simpa using z), fun z => h9 (by simpa using z), fun z => h10 (by simpa using z), fun _ => by simp⟩
                  · go_wp2
                    rw [HR14.out]
                    exact ⟨e, _, _, _, _, _, _, _, _, _, _, _, rfl, rfl, fun z y => Lib.hid ⟨(h0 (by simpa using z) (by simpa using y)).out.1, fun gb x x7 hx => (h0 (by simpa using z) (by simpa using y)).out.2 gb (by simpa using x) (by simpa using x7) hx⟩, fun z => h1 (by simpa using z), fun z => h2 (by simpa using z), fun z => h3 (by simpa using z), fun z y => h4 (by simpa using z) (by simpa using y), fun _ => rfl, fun z y => h6 (by simpa using z) (by simpa using y), fun z => h7 (by simpa using z), fun z => h8 (by simpa using z), fun z => h9 (by simpa using z), fun z => h10 (by simpa using z), fun z => by simpa using h11 (by simpa using z)⟩
                  · obtain rfl := h5 (haf ⟨5, .data⟩ (by simp) rfl)
                    have hNew : Below e.w.heap.size e.w (e.w.alloc (.cells #[.int .i64 ↑gn, .int .i64 tt, .int .i64 V] 43)) := (Below.refl _ _).alloc (Nat.le_refl _) _
                    go_wp2
                    rw [HR14.out]
                    exact ⟨⟨_, e.b.alloc hse (.cells #[.int .i64 ↑gn, .int .i64 tt, .int .i64 V] 43)⟩, _, _, _, _, _, _, _, _, _, _, _, rfl, rfl, fun z y => Lib.hid ⟨(h0 (by simpa using z) (by simpa using y)).out.1.alloc _, fun gb x x7 hx hy => (by have h9 := ((h0 (by simpa using z) (by simpa using y)).out.1.lt gb hy).2; cases hx; omega)⟩, fun z => h1 (by simpa using z), fun z => h2 (by simpa using z), fun z => h3 (by simpa using z), fun z y => Lib.hid ((h4 (by simpa using z) (by simpa using y)).out.alloc _), fun _ => rfl, fun _ _ => Lib.hid ⟨_, rfl, BlkAt.new hse⟩, fun z => Lib.hid ((h7 (by simpa using z)).out.alloc _), fun z => h8 (by simpa using z), fun z => h9 (by simpa using z), fun z => h10 (by simpa using z), fun z => by simpa using h11 (by simpa using z)⟩
                  · have hown := h4 (haf ⟨4, .data⟩ (by simp) rfl) hLi
                    obtain ⟨gb, rfl, hgb⟩ := (h6 (haf ⟨6, .data⟩ (by simp) rfl) hLi).out
                    have HSb := Lib.hid (show Src e.w 3 (some ⟨gb, 0, none⟩) 1 [.int .i64 ↑gn, .int .i64 tt, .int .i64 V] from .inr ⟨_, rfl, rfl, fun z u hu => by rw [addr_add, Nat.zero_add]; exact hgb.cell z u hu⟩)
                    refine wpList_appendL rfl _ _ 27 rfl wc.heap.size 43 _ 3 24 elemR _ _ _ rfl hown.out _ _ _ _ rfl HSb.out (by simp [Value.oneCell']) (by omega) hse ?_
                    intro v4 w4 hown4 hb4 hsz4 hg4 hblk4
                    rw [HR14.out]
                    exact ⟨⟨w4, e.b.trans hb4⟩, _, _, _, _, _, _, _, _, _, _, _, rfl, rfl, fun z y => absurd (haf ⟨4, .data⟩ (by simp) rfl) (by simpa using y), fun z => h1 (by simpa using z), fun z => h2 (by simpa using z), fun z => h3 (by simpa using z), fun z y => (by simp at y), fun z => h5 (by simpa using z), fun z y => (by simp at y), fun _ => Lib.hid hown4, fun z => h8 (by simpa using z), fun z => h9 (by simpa using z), fun z => h10 (by simpa using z), fun _ => by simpa using haf ⟨4, .data⟩ (by simp) rfl⟩
                  · go_wp2
                    rw [HR14.out]
                    exact ⟨e, _, _, _, _, _, _, _, _, _, _, _, rfl, rfl, fun z y => Lib.hid ⟨(h0 (by simpa using z) (by simpa using y)).out.1, fun gb x x7 hx => (h0 (by simpa using z) (by simpa using y)).out.2 gb (by simpa using x) (by simpa using x7) hx⟩, fun z => h1 (by simpa using z), fun z => h2 (by simpa using z), fun z => h3 (by simpa using z), fun z y => h4 (by simpa using z) (by simpa using y), fun z => h5 (by simpa using z), fun z y => h6 (by simpa using z) (by simpa using y), fun z => h7 (by simpa using z), fun _ => rfl, fun z => h9 (by simpa using z), fun z => h10 (by simpa using z), fun z => by simpa using h11 (by simpa using z)⟩
                  · go_wp2
                    rw [HR14.out]
                    exact ⟨e, _, _, _, _, _, _, _, _, _, _, _, rfl, rfl, fun z y => Lib.hid ⟨(h0 (by simpa using z) (by simpa using y)).out.1, fun gb x x7 hx => (h0 (by simpa using z) (by simpa using y)).out.2 gb (by simpa using x) (by simpa using x7) hx⟩, fun z => h1 (by simpa using z), fun z => h2 (by simpa using z), fun z => h3 (by simpa using z), fun z y => h4 (by simpa using z) (by simpa using y), fun z => h5 (by simpa using z), fun z y => h6 (by simpa using z) (by simpa using y), fun z => h7 (by simpa using z), fun z => h8 (by simpa using z), fun _ => rfl, fun z => h10 (by simpa using z), fun z => by simpa using h11 (by simpa using z)⟩
                  · obtain rfl := h8 (haf ⟨8, .data⟩ (by simp) rfl)
                    obtain rfl := h9 (haf ⟨9, .data⟩ (by simp) rfl)
                    go_wp2
                    rw [HR14.out]
                    exact ⟨e, _, _, _, _, _, _, _, _, _, _, _, rfl, rfl, fun z y => Lib.hid ⟨(h0 (by simpa using z) (by simpa using y)).out.1, fun gb x x7 hx => (h0 (by simpa using z) (by simpa using y)).out.2 gb (by simpa using x) (by simpa using x7) hx⟩, fun z => h1 (by simpa using z), fun z => h2 (by simpa using z), fun z => h3 (by simpa using z), fun z y => h4 (by simpa using z) (by simpa using y), fun z => h5 (by simpa using z), fun z y => h6 (by simpa using z) (by simpa using y), fun z => h7 (by simpa using z), fun _ => rfl, fun _ => rfl, fun _ => Lib.hid ⟨none, 0, rfl, HS2.out⟩, fun z => by simpa using h11 (by simpa using z)⟩
                · rintro L a' w' hL hInv
                  rw [HR14.out] at hInv
                  obtain ⟨e, v108, v109, v110, v111, v112, v113, v114, v115, v116, v117, v118, rfl, rfl, h0, h1, h2, h3, h4, h5, h6, h7, h8, h9, h10, h11⟩ := hInv
                  have H7 := h7 (hL 7 (by omega))
                  obtain ⟨A8, c8, rfl, hs8⟩ := (h10 (hL 10 (by omega))).out
                  have HSe := Lib.hid (src_later hs8 e.b)
                  have hse : wc.heap.size ≤ e.w.heap.size := e.b.size
                  clear h0 h1 h2 h3 h4 h5 h6 h7 h8 h9 h10 h11 hL hs8 HR14
                  refine wpList_appendL rfl _ _ 27 rfl wc.heap.size 43 _ 3 24 elemR _ _ _ rfl H7.out _ _ _ _ rfl HSe.out (oneR _) (by omega) hse ?_
                  intro v3 w3 hown3 hb3 hsz3 hg3 hblk3
                  have Ho3 := Lib.hid hown3
                  have Hb3 := Lib.hid (HbD.out.trans ((e.b.trans hb3).mono hwcs))
                  clear hown3 hb3 hsz3 hg3 hblk3
                  go_wp2
                  go_roundw
                  case rel => exact ⟨k + 1, out.take 0 ++ [(⟨↑gn, tt, V⟩ : Reading)] ++ out.drop 0, by omega, by go_num, HLn.out, HRn, HOn.out _ _ Ho3.out, Hb3⟩
                  case measure => simp [intOf]; omega
              · simp only [Value.slice.injEq] at e9
                obtain ⟨rfl, h91, rfl⟩ := e9
                have Hcl := Lib.hid (show ∀ i (h : i < out.length) j v, (encR out[i])[j]? = some v → wc.cell? ⟨go, 0 + i * 3 + j, none⟩ = some v from fun i h j v hv => by
                  obtain ⟨b', o', e', _, hc'⟩ := sl_own (enc := encR) (fun _ => rfl) HoD.out (by omega)
                  cases e'
                  exact hc' i h j v hv)
                have HS1 := Lib.hid (show Src wc 3 (some ⟨go, 0, none⟩) kk ((out.take kk).flatMap encR) by
                  have := src_sub (w := wc) (b := go) (off := 0) Hcl.out 0 kk (by have := Hol.out; omega)
                  simpa using this)
                have HS2 := Lib.hid (show Src wc 3 (some ⟨go, kk * 3, none⟩) (ol - kk) ((out.drop kk).flatMap encR) by
                  have := src_sub (w := wc) (b := go) (off := 0) Hcl.out kk (ol - kk) (by have := Hol.out; omega)
                  rwa [Nat.zero_add, List.take_of_length_le (by have := Hol.out; simp; omega)] at this)
                have HS0 := Lib.hid (fun (h0 : ol - kk = 0) => show Src wc 3 (some ⟨go, 0, none⟩) (ol - kk) ((out.drop kk).flatMap encR) by
                  rw [h0, List.drop_of_length_le (by have := Hol.out; omega)]; exact .inr ⟨_, rfl, rfl, by simp⟩)
                clear h91
                obtain ⟨R14, hR14⟩ : ∃ R : (Nat → Bool) → Act → World → Prop, R = fun L a' w' => ∃ (e : Later wc) (v108 v109 v110 v111 v112 v113 v114 v115 v116 v117 v118 : Value), w' = e.w ∧ a' = { tmps := #[Value.agg #[Value.string q.name, Value.int IntKind.i64 q.lo, Value.int IntKind.i64 q.hi, Value.int IntKind.i64 q.rise, Value.int IntKind.i64 q.fall, Value.int IntKind.i64 q.bad, Value.slice q.gA q.gs.length q.gc], Value.slice AX X.length cX, Value.slice (some { block := bB, off := offB }) bs.length cB, Value.slice (some { block := br, off := offr }) raw.length cR, Value.pointer (some { block := w.heap.size, off := 0 }), undef, undef, undef, Value.slice none 0 0, .slice (some ⟨go, 0, none⟩) ol co, Value.int IntKind.i64 ↑k, Value.pointer (some { block := gb11, off := 0 }), u12, u13, .int .i64 ↑kk, u15, u16, u17, u18, u19, u20, u21, u22, u23, u24, u25, u26, u27, u28, u29, u30, u31, u32, u33, u34, u35, u36, u37, u38, u39, u40, u41, u42, u43, u44, u45, u46, u47, u48, u49, u50, u51, u52, u53, u54, u55, u56, u57, u58, u59, u60, u61, u62, u63, u64, u65, u66, u67, u68, u69, u70, u71, u72, u73, u74, u75, u76, u77, u78, u79, u80, u81, u82, Value.pointer (some { block := gb11, off := 2 }), Value.int IntKind.i64 V, Value.bool false, Value.bool false, Value.pointer (some { block := gb11, off := 2 }), Value.int IntKind.i64 V, Value.bool false, Value.bool false, .slice (some ⟨go, 0, none⟩) ol co, Value.int IntKind.i64 ↑ol, u93, u94, u95, u96, u97, u98, u99, u100, u101, u102, u103, u104, u105, u106, u107, v108, v109, v110, v111, v112, v113, v114, v115, v116, v117, v118, u119, undef], defers := [] } ∧ (L 0 = true → L 4 = false → Hid (e.w.ownsRow wc.heap.size 43 3 v108 (0) ([]) ∧ ∀ gb, L 6 = true → L 7 = false → v114 = .slice (some ⟨gb, 0, none⟩) 1 1 → v108.ownBlock ≠ some gb)) ∧ (L 1 = true → v109 = .slice (some ⟨go, 0, none⟩) ol co) ∧ (L 2 = true → v110 = .int .i64 ↑kk) ∧ (L 3 = true → v111 = .slice (some ⟨go, 0, none⟩) kk co) ∧ (L 4 = true → L 7 = false → Hid (e.w.ownsRow wc.heap.size 43 3 v112 (kk) ((out.take kk).flatMap encR))) ∧ (L 5 = true → v113 = .agg #[.int .i64 ↑gn, .int .i64 tt, .int .i64 V]) ∧ (L 6 = true → L 7 = false → Hid (∃ gb, v114 = .slice (some ⟨gb, 0, none⟩) 1 1 ∧ BlkAt wc e.w gb [.int .i64 ↑gn, .int .i64 tt, .int .i64 V])) ∧ (L 7 = true → Hid (e.w.ownsRow wc.heap.size 43 3 v115 (kk + 1) ((out.take kk).flatMap encR ++ [.int .i64 ↑gn, .int .i64 tt, .int .i64 V]))) ∧ (L 8 = true → v116 = .slice (some ⟨go, 0, none⟩) ol co) ∧ (L 9 = true → v117 = .int .i64 ↑kk) ∧ (L 10 = true → Hid (∃ A8 c8, v118 = .slice A8 (ol - kk) c8 ∧ Src wc 3 A8 (ol - kk) ((out.drop kk).flatMap encR))) ∧ (L 7 = true → L 4 = true) := ⟨_, rfl⟩
                have HR14 := Lib.hid hR14
                clear hR14
                refine wp_region_inv 11 R14 (by kernel_rfl) (by kernel_rfl) (by kernel_rfl) (by kernel_rfl) (by decide) (by kernel_rfl) ?_ ?_ ?_
                · rw [HR14.out]
                  exact ⟨⟨_, (Below.refl wc.heap.size wc).drew⟩, _, _, _, _, _, _, _, _, _, _, _, rfl, rfl, by simp, by simp, by simp, by simp, by simp, by simp, by simp, by simp, by simp, by simp, by simp, by simp⟩
                · rintro L a' w' i o hi ho hLi haf hInv
                  rw [HR14.out] at hInv
                  obtain ⟨e, v108, v109, v110, v111, v112, v113, v114, v115, v116, v117, v118, rfl, rfl, h0, h1, h2, h3, h4, h5, h6, h7, h8, h9, h10, h11⟩ := hInv
                  have hse : wc.heap.size ≤ e.w.heap.size := e.b.size
                  rcases i with _ | _ | _ | _ | _ | _ | _ | _ | _ | _ | _ | i
                  case succ.succ.succ.succ.succ.succ.succ.succ.succ.succ.succ => omega
                  all_goals (simp only [List.getElem?_cons_zero, List.getElem?_cons_succ, Option.some.injEq] at ho; subst ho)
                  · have Hemp := Lib.hid (World.ownsRow_lit (base := wc.heap.size) (e := 43) (size := 3) e.w #[] 0 hse (by decide) rfl)
                    have hNew : Below e.w.heap.size e.w (e.w.alloc (.cells #[] 43)) := (Below.refl _ _).alloc (Nat.le_refl _) _
                    go_wp2
                    rw [HR14.out]
                    exact ⟨⟨_, e.b.alloc hse (.cells #[] 43)⟩, _, _, _, _, _, _, _, _, _, _, _, rfl, rfl, fun _ _ => Lib.hid ⟨Hemp.out, fun gb x x7 hx hy => (by obtain ⟨gb', p1, p2⟩ := (h6 (by simpa using x) (by simpa using x7)).out; rw [p1] at hx; cases hx; have := p2.hi; simp [Value.ownBlock] at hy; omega)⟩, fun z => h1 (by simpa using z), fun z => h2 (by simpa using z), fun z => h3 (by simpa using z), fun z y => Lib.hid ((h4 (by simpa using z) (by simpa using y)).out.alloc _), fun z => h5 (by simpa using z), fun z y => (by obtain ⟨gb, p1, p2⟩ := (h6 (by simpa using z) (by simpa using y)).out; exact Lib.hid ⟨gb, p1, p2.below hNew⟩), fun z => Lib.hid ((h7 (by simpa using z)).out.alloc _), fun z => h8 (by simpa using z), fun z => h9 (by simpa using z), fun z => h10 (by simpa using z), fun z => by simpa using h11 (by simpa using z)⟩
                  · go_wp2
                    rw [HR14.out]
                    exact ⟨e, _, _, _, _, _, _, _, _, _, _, _, rfl, rfl, fun z y => Lib.hid ⟨(h0 (by simpa using z) (by simpa using y)).out.1, fun gb x x7 hx => (h0 (by simpa using z) (by simpa using y)).out.2 gb (by simpa using x) (by simpa using x7) hx⟩, fun _ => rfl, fun z => h2 (by simpa using z), fun z => h3 (by simpa using z), fun z y => h4 (by simpa using z) (by simpa using y), fun z => h5 (by simpa using z), fun z y => h6 (by simpa using z) (by simpa using y), fun z => h7 (by simpa using z), fun z => h8 (by simpa using z), fun z => h9 (by simpa using z), fun z => h10 (by simpa using z), fun z => by simpa using h11 (by simpa using z)⟩
                  · go_wp2
                    rw [HR14.out]
                    exact ⟨e, _, _, _, _, _, _, _, _, _, _, _, rfl, rfl, fun z y => Lib.hid ⟨(h0 (by simpa using z) (by simpa using y)).out.1, fun gb x x7 hx => (h0 (by simpa using z) (by simpa using y)).out.2 gb (by simpa using x) (by simpa using x7) hx⟩, fun z => h1 (by simpa using z), fun _ => rfl, fun z => h3 (by simpa using z), fun z y => h4 (by simpa using z) (by simpa using y), fun z => h5 (by simpa using z), fun z y => h6 (by simpa using z) (by simpa using y), fun z => h7 (by simpa using z), fun z => h8 (by simpa using z), fun z => h9 (by simpa using z), fun z => h10 (by simpa using z), fun z => by simpa using h11 (by simpa using z)⟩
                  · obtain rfl := h1 (haf ⟨1, .data⟩ (by simp) rfl)
                    obtain rfl := h2 (haf ⟨2, .data⟩ (by simp) rfl)
                    go_wp2
                    rw [HR14.out]
                    exact ⟨e, _, _, _, _, _, _, _, _, _, _, _, rfl, rfl, fun z y => Lib.hid ⟨(h0 (by simpa using z) (by simpa using y)).out.1, fun gb x x7 hx => (h0 (by simpa using z) (by simpa using y)).out.2 gb (by simpa using x) (by simpa using x7) hx⟩, fun _ => rfl, fun _ => rfl, fun _ => rfl, fun z y => h4 (by simpa using z) (by simpa using y), fun z => h5 (by simpa using z), fun z y => h6 (by simpa using z) (by simpa using y), fun z => h7 (by simpa using z), fun z => h8 (by simpa using z), fun z => h9 (by simpa using z), fun z => h10 (by simpa using z), fun z => by simpa using h11 (by simpa using z)⟩
                  · have hown := h0 (haf ⟨0, .data⟩ (by simp) rfl) hLi
                    obtain rfl := h3 (haf ⟨3, .data⟩ (by simp) rfl)
                    refine wpList_appendL rfl _ _ 27 rfl wc.heap.size 43 _ 3 24 elemR _ _ _ rfl hown.out.1 _ _ _ _ rfl (src_later HS1.out e.b) (oneR _) (by omega) hse ?_
                    intro v4 w4 hown4 hb4 hsz4 hg4 hblk4
                    rw [HR14.out]
                    exact ⟨⟨w4, e.b.trans hb4⟩, _, _, _, _, _, _, _, _, _, _, _, rfl, rfl, fun z y => (by simp at y), fun z => h1 (by simpa using z), fun z => h2 (by simpa using z), fun _ => rfl, fun _ _ => Lib.hid (by have h := hown4; rw [Nat.zero_add, List.nil_append] at h; exact h), fun z => h5 (by simpa using z), fun z y => (by obtain ⟨gb, p1, p2⟩ := (h6 (by simpa using z) (by simpa using y)).out; exact Lib.hid ⟨gb, p1, BlkAt_grown p2 hg4 (hown.out.2 gb (by simpa using z) (by simpa using y) p1)⟩), fun z => absurd (h11 (by simpa using z)) (by simp [hLi]), fun z => h8 (by simpa using z), fun z => h9 (by simpa using z), fun z => h10 (by simpa using z), fun _ => by simp⟩
                  · go_wp2
                    rw [HR14.out]
                    exact ⟨e, _, _, _, _, _, _, _, _, _, _, _, rfl, rfl, fun z y => Lib.hid ⟨(h0 (by simpa using z) (by simpa using y)).out.1, fun gb x x7 hx => (h0 (by simpa using z) (by simpa using y)).out.2 gb (by simpa using x) (by simpa using x7) hx⟩, fun z => h1 (by simpa using z), fun z => h2 (by simpa using z), fun z => h3 (by simpa using z), fun z y => h4 (by simpa using z) (by simpa using y), fun _ => rfl, fun z y => h6 (by simpa using z) (by simpa using y), fun z => h7 (by simpa using z), fun z => h8 (by simpa using z), fun z => h9 (by simpa using z), fun z => h10 (by simpa using z), fun z => by simpa using h11 (by simpa using z)⟩
                  · obtain rfl := h5 (haf ⟨5, .data⟩ (by simp) rfl)
                    have hNew : Below e.w.heap.size e.w (e.w.alloc (.cells #[.int .i64 ↑gn, .int .i64 tt, .int .i64 V] 43)) := (Below.refl _ _).alloc (Nat.le_refl _) _
                    go_wp2
                    rw [HR14.out]
                    exact ⟨⟨_, e.b.alloc hse (.cells #[.int .i64 ↑gn, .int .i64 tt, .int .i64 V] 43)⟩, _, _, _, _, _, _, _, _, _, _, _, rfl, rfl, fun z y => Lib.hid ⟨(h0 (by simpa using z) (by simpa using y)).out.1.alloc _, fun gb x x7 hx hy => (by have h9 := ((h0 (by simpa using z) (by simpa using y)).out.1.lt gb hy).2; cases hx; omega)⟩, fun z => h1 (by simpa using z), fun z => h2 (by simpa using z), fun z => h3 (by simpa using z), fun z y => Lib.hid ((h4 (by simpa using z) (by simpa using y)).out.alloc _), fun _ => rfl, fun _ _ => Lib.hid ⟨_, rfl, BlkAt.new hse⟩, fun z => Lib.hid ((h7 (by simpa using z)).out.alloc _), fun z => h8 (by simpa using z), fun z => h9 (by simpa using z), fun z => h10 (by simpa using z), fun z => by simpa using h11 (by simpa using z)⟩
                  · have hown := h4 (haf ⟨4, .data⟩ (by simp) rfl) hLi
                    obtain ⟨gb, rfl, hgb⟩ := (h6 (haf ⟨6, .data⟩ (by simp) rfl) hLi).out
                    have HSb := Lib.hid (show Src e.w 3 (some ⟨gb, 0, none⟩) 1 [.int .i64 ↑gn, .int .i64 tt, .int .i64 V] from .inr ⟨_, rfl, rfl, fun z u hu => by rw [addr_add, Nat.zero_add]; exact hgb.cell z u hu⟩)
                    refine wpList_appendL rfl _ _ 27 rfl wc.heap.size 43 _ 3 24 elemR _ _ _ rfl hown.out _ _ _ _ rfl HSb.out (by simp [Value.oneCell']) (by omega) hse ?_
                    intro v4 w4 hown4 hb4 hsz4 hg4 hblk4
                    rw [HR14.out]
                    exact ⟨⟨w4, e.b.trans hb4⟩, _, _, _, _, _, _, _, _, _, _, _, rfl, rfl, fun z y => absurd (haf ⟨4, .data⟩ (by simp) rfl) (by simpa using y), fun z => h1 (by simpa using z), fun z => h2 (by simpa using z), fun z => h3 (by simpa using z), fun z y => (by simp at y), fun z => h5 (by simpa using z), fun z y => (by simp at y), fun _ => Lib.hid hown4, fun z => h8 (by simpa using z), fun z => h9 (by simpa using z), fun z => h10 (by simpa using z), fun _ => by simpa using haf ⟨4, .data⟩ (by simp) rfl⟩
                  · go_wp2
                    rw [HR14.out]
                    exact ⟨e, _, _, _, _, _, _, _, _, _, _, _, rfl, rfl, fun z y => Lib.hid ⟨(h0 (by simpa using z) (by simpa using y)).out.1, fun gb x x7 hx => (h0 (by simpa using z) (by simpa using y)).out.2 gb (by simpa using x) (by simpa using x7) hx⟩, fun z => h1 (by simpa using z), fun z => h2 (by simpa using z), fun z => h3 (by simpa using z), fun z y => h4 (by simpa using z) (by simpa using y), fun z => h5 (by simpa using z), fun z y => h6 (by simpa using z) (by simpa using y), fun z => h7 (by simpa using z), fun _ => rfl, fun z => h9 (by simpa using z), fun z => h10 (by simpa using z), fun z => by simpa using h11 (by simpa using z)⟩
                  · go_wp2
                    rw [HR14.out]
                    exact ⟨e, _, _, _, _, _, _, _, _, _, _, _, rfl, rfl, fun z y => Lib.hid ⟨(h0 (by simpa using z) (by simpa using y)).out.1, fun gb x x7 hx => (h0 (by simpa using z) (by simpa using y)).out.2 gb (by simpa using x) (by simpa using x7) hx⟩, fun z => h1 (by simpa using z), fun z => h2 (by simpa using z), fun z => h3 (by simpa using z), fun z y => h4 (by simpa using z) (by simpa using y), fun z => h5 (by simpa using z), fun z y => h6 (by simpa using z) (by simpa using y), fun z => h7 (by simpa using z), fun z => h8 (by simpa using z), fun _ => rfl, fun z => h10 (by simpa using z), fun z => by simpa using h11 (by simpa using z)⟩
                  · obtain rfl := h8 (haf ⟨8, .data⟩ (by simp) rfl)
                    obtain rfl := h9 (haf ⟨9, .data⟩ (by simp) rfl)
                    by_cases hck : co = kk
                    · have hlk : ol = kk := by omega
                      subst hck
                      subst hlk
                      go_wp2
                      rw [HR14.out]
                      exact ⟨e, _, _, _, _, _, _, _, _, _, _, _, rfl, rfl, fun z y => Lib.hid ⟨(h0 (by simpa using z) (by simpa using y)).out.1, fun gb x x7 hx => (h0 (by simpa using z) (by simpa using y)).out.2 gb (by simpa using x) (by simpa using x7) hx⟩, fun z => h1 (by simpa using z), fun z => h2 (by simpa using z), fun z => h3 (by simpa using z), fun z y => h4 (by simpa using z) (by simpa using y), fun z => h5 (by simpa using z), fun z y => h6 (by simpa using z) (by simpa using y), fun z => h7 (by simpa using z), fun _ => rfl, fun _ => rfl, fun _ => Lib.hid ⟨some ⟨go, 0, none⟩, 0, by rw [Nat.sub_self], HS0.out (Nat.sub_self _)⟩, fun z => by simpa using h11 (by simpa using z)⟩
                    · go_wp2
                      rw [HR14.out]
                      exact ⟨e, _, _, _, _, _, _, _, _, _, _, _, rfl, rfl, fun z y => Lib.hid ⟨(h0 (by simpa using z) (by simpa using y)).out.1, fun gb x x7 hx => (h0 (by simpa using z) (by simpa using y)).out.2 gb (by simpa using x) (by simpa using x7) hx⟩, fun z => h1 (by simpa using z), fun z => h2 (by simpa using z), fun z => h3 (by simpa using z), fun z y => h4 (by simpa using z) (by simpa using y), fun z => h5 (by simpa using z), fun z y => h6 (by simpa using z) (by simpa using y), fun z => h7 (by simpa using z), fun _ => rfl, fun _ => rfl, fun _ => Lib.hid ⟨_, _, rfl, HS2.out⟩, fun z => by simpa using h11 (by simpa using z)⟩
                · rintro L a' w' hL hInv
                  rw [HR14.out] at hInv
                  obtain ⟨e, v108, v109, v110, v111, v112, v113, v114, v115, v116, v117, v118, rfl, rfl, h0, h1, h2, h3, h4, h5, h6, h7, h8, h9, h10, h11⟩ := hInv
                  have H7 := h7 (hL 7 (by omega))
                  obtain ⟨A8, c8, rfl, hs8⟩ := (h10 (hL 10 (by omega))).out
                  have HSe := Lib.hid (src_later hs8 e.b)
                  have hse : wc.heap.size ≤ e.w.heap.size := e.b.size
                  clear h0 h1 h2 h3 h4 h5 h6 h7 h8 h9 h10 h11 hL hs8 HR14
                  refine wpList_appendL rfl _ _ 27 rfl wc.heap.size 43 _ 3 24 elemR _ _ _ rfl H7.out _ _ _ _ rfl HSe.out (oneR _) (by omega) hse ?_
                  intro v3 w3 hown3 hb3 hsz3 hg3 hblk3
                  have Ho3 := Lib.hid hown3
                  have Hb3 := Lib.hid (HbD.out.trans ((e.b.trans hb3).mono hwcs))
                  clear hown3 hb3 hsz3 hg3 hblk3
                  go_wp2
                  go_roundw
                  case rel => exact ⟨k + 1, out.take kk ++ [(⟨↑gn, tt, V⟩ : Reading)] ++ out.drop kk, by omega, by go_num, HLn.out, HRn, HOn.out _ _ Ho3.out, Hb3⟩
                  case measure => simp [intOf]; omega
end Go.Proofs.Ytcgnpndfhhcplaa
