/-
  Package watch's reader of a plan's lines: its method that reads a quantity. Conditions: the parts are the call's own; texts are short; package-level variables read as their initialisers lay them.
-/
import Derived.Test.YtcgnpndfhhcplaaGreatDoorLines
namespace Go.Proofs.YtcgnpndfhhcplaaGreatDoor
open Go.RowKit W7
attribute [local go_sem] Oper.semAt_some
/-- the quantity of a line's words -/
def lineQ (ws : List ByteArray) (ns : List Int) : Quantity := ⟨ws.getD 1 default, ns.getD 0 0, ns.getD 1 0, ns.getD 2 0, ns.getD 3 0, ns.getD 4 0, none, 0, []⟩
/-- how the method ends -/
def LnQ (p : Plan) (last : ByteArray) (ws : List ByteArray) (lb B n : Nat) (w : World) (e : Ending) (w' : World) : Prop := Below B w w' ∧ KeepO lb w w' ∧
  ((e = .panicked (pnc 4) ∧ (¬ (n = 7 ∧ p.ms.length = 0 ∧ p.al.length = 0) ∨ numsB ((ws.drop 2).map (·.data.toList)) = none)) ∨
   ((n = 7 ∧ p.ms.length = 0 ∧ p.al.length = 0) ∧ ∃ (ns : List Int) (A' : Option Addr) (c' : Nat), numsB ((ws.drop 2).map (·.data.toList)) = some ns ∧ e = .returned (.tuple #[]) ∧
     LinesAt w' lb { p with qA := A', qc := c', qs := p.qs ++ [lineQ ws ns] } last ∧ OwnP B w' { p with qA := A', qc := c', qs := p.qs ++ [lineQ ws ns] }))
set_option maxHeartbeats 4000000 in
set_option maxRecDepth 100000 in
theorem lnQuantity_any (p : Plan) (last : ByteArray) (ws : List ByteArray) (lb B bw n : Nat) (w : World) (hn : n = ws.length) (hL : LinesAt w lb p last) (hO : OwnP B w p) (hBL : B ≤ lb) (hW : WordsAt w bw ws) (hs : ∀ s ∈ ws, s.size ≤ 1000000) (hl : n ≤ 1000000) (hlq : p.qs.length ≤ 1000000) (hE : Env B w) :
    Calls Tryz.prog 80 #[.pointer (some ⟨lb, 0, none⟩), .slice (some ⟨bw, 0, none⟩) n n] w (LnQ p last ws lb B n w) := by
  have hLw : lb < w.heap.size := (Array.getElem?_eq_some_iff.1 hL).1
  obtain ⟨l0, l1, l2, l3⟩ := hL.cells
  obtain ⟨nq, hnq⟩ : ∃ k, k = p.qs.length := ⟨_, rfl⟩
  have hnq2 : nq ≤ 1000000 := by omega
  obtain ⟨nm, hnm⟩ : ∃ k, k = p.ms.length := ⟨_, rfl⟩
  obtain ⟨na, hna⟩ : ∃ k, k = p.al.length := ⟨_, rfl⟩
  obtain ⟨QQ, hQQ⟩ : ∃ V, p.qA = V := ⟨_, rfl⟩
  rw [← hnq, hQQ] at l0
  rw [← hnm] at l1
  rw [← hna] at l2
  have HL := Lib.hid hL
  have HO := Lib.hid hO
  have HW := Lib.hid hW
  have Hs := Lib.hid hs
  have HE := Lib.hid hE
  have Hn := Lib.hid hn
  have Hnq := Lib.hid hnq
  have Hnm := Lib.hid hnm
  have Hna := Lib.hid hna
  have HQQ := Lib.hid hQQ
  have HD := Lib.hid (fun X => demand_no 4 X)
  clear hL hO hW hs hE hn hnq hnm hna hQQ
  cases h7 : ((n : Int) == 7)
  · have hne : n ≠ 7 := fun h => by rw [h] at h7; cases h7
    go_enter Tryz.func80, Tryz.ntmps80
    go_wp2_with (go_at_call 78; refine (HD.out _).mono ?_; rintro r w2 ⟨rfl, hb2⟩)
    exact ⟨rfl, show LnQ _ _ _ _ _ _ _ _ _ from ⟨hb2.mono (by omega), KeepO.of_below hb2, .inl ⟨rfl, .inl fun h => hne h.1⟩⟩⟩
  have hn7 : n = 7 := by have := eq_of_beq h7; omega
  subst hn7
  clear h7
  cases hm : ((nm : Int) == 0)
  · have hne : p.ms.length ≠ 0 := fun h => by rw [Hnm.out, h] at hm; cases hm
    go_enter Tryz.func80, Tryz.ntmps80
    go_wp2_with (go_at_call 78; refine (HD.out _).mono ?_; rintro r w2 ⟨rfl, hb2⟩)
    exact ⟨rfl, show LnQ _ _ _ _ _ _ _ _ _ from ⟨hb2.mono (by omega), KeepO.of_below hb2, .inl ⟨rfl, .inl fun h => hne h.2.1⟩⟩⟩
  cases ha : ((na : Int) == 0)
  · have hne : p.al.length ≠ 0 := fun h => by rw [Hna.out, h] at ha; cases ha
    go_enter Tryz.func80, Tryz.ntmps80
    go_wp2_with (go_at_call 78; refine (HD.out _).mono ?_; rintro r w2 ⟨rfl, hb2⟩)
    exact ⟨rfl, show LnQ _ _ _ _ _ _ _ _ _ from ⟨hb2.mono (by omega), KeepO.of_below hb2, .inl ⟨rfl, .inl fun h => hne h.2.2⟩⟩⟩
  have Hc := Lib.hid (show p.ms.length = 0 ∧ p.al.length = 0 from ⟨by rw [← Hnm.out]; have := eq_of_beq hm; omega, by rw [← Hna.out]; have := eq_of_beq ha; omega⟩)
  have HDo := Lib.hid (fun X => demand_ok 4 X)
  have hbw := HW.out.lt
  go_enter Tryz.func80, Tryz.ntmps80
  go_wp2_with (go_at_call 78; fail)
  refine (HDo.out _).mono ?_
  rintro r w1 ⟨rfl, hb1⟩
  have Hb1 := Lib.hid hb1
  have hs1 := hb1.size
  have HW1 := Lib.hid (show WordsAt w1 bw ws from (hb1.block bw hbw).trans HW.out)
  have HL1 := Lib.hid (show LinesAt w1 lb p last from (hb1.block lb hLw).trans HL.out)
  have HNu := Lib.hid (numbers_any (ws.drop 2) (some ⟨bw, 2, none⟩) 5 5 B w1 (by rw [List.length_drop, ← Hn.out]) HW1.out.sl (fun s h => Hs.out s (List.mem_of_mem_drop h)) (by decide) (HE.out.on (hb1.mono (by omega)) (Nat.le_refl _)) (by omega))
  clear hb1 hm ha l0 l1 l2 l3
  go_wp2_with (go_at_call 108; fail)
  refine HNu.out.mono ?_
  rintro r w2 ⟨hb2, (⟨ns, v, hns, rfl, hov⟩ | ⟨hno, rfl⟩)⟩
  rotate_left
  · exact ⟨rfl, show LnQ _ _ _ _ _ _ _ _ _ from ⟨(Hb1.out.trans (hb2.mono hs1)).mono (by omega), KeepO.of_below (Hb1.out.trans (hb2.mono hs1)), .inl ⟨rfl, .inr hno⟩⟩⟩
  have hl5 : ns.length = 5 := by rw [numsB_len hns, List.length_map, List.length_drop, ← Hn.out]
  obtain ⟨x0, x1, x2, x3, x4, rfl⟩ := five hl5
  obtain ⟨bi, ci, rfl, hbi, hbiw, hci1, hci2, hcell⟩ := owns_cells hov (Nat.succ_pos _)
  have n0 : w2.cell? ⟨bi, 0, none⟩ = some (.int .i64 x0) := hcell 0 _ rfl
  have n1 : w2.cell? ⟨bi, 1, none⟩ = some (.int .i64 x1) := hcell 1 _ rfl
  have n2 : w2.cell? ⟨bi, 2, none⟩ = some (.int .i64 x2) := hcell 2 _ rfl
  have n3 : w2.cell? ⟨bi, 3, none⟩ = some (.int .i64 x3) := hcell 3 _ rfl
  have n4 : w2.cell? ⟨bi, 4, none⟩ = some (.int .i64 x4) := hcell 4 _ rfl
  have Hb2 := Lib.hid ((Hb1.out.trans (hb2.mono hs1)))
  have hs2 := hb2.size
  have HW2 := Lib.hid (show WordsAt w2 bw ws from (hb2.block bw (by omega)).trans HW1.out)
  have HL2 := Lib.hid (show LinesAt w2 lb p last from (hb2.block lb (by omega)).trans HL1.out)
  have Hns := Lib.hid hns
  have Hov := Lib.hid hov
  obtain ⟨l0, l1, l2, l3⟩ := HL2.out.cells
  rw [← Hnq.out, HQQ.out] at l0
  have h1l : 1 < ws.length := by have := Hn.out; omega
  have c1 := HW2.out.cell h1l
  obtain ⟨s1, hs1'⟩ : ∃ s, s = ws[1] := ⟨_, rfl⟩
  rw [← hs1'] at c1
  have Hs1 := Lib.hid (show ws.getD 1 default = s1 by rw [hs1']; exact getD_lt h1l)
  have HO2 := Lib.hid (HO.out.below Hb2.out)
  have hoQ := HO2.out.q
  rw [← Hnq.out, HQQ.out] at hoQ
  have r0 := row_ne (k := lb) hoQ HL2.out (fun cs h => by cases h)
  have r1 := row_ne (k := bw) hoQ HW2.out (fun cs h => by cases h)
  have r2 : some bi ≠ (Value.slice QQ nq p.qc).ownBlock := by
    obtain ⟨cs, hc⟩ := owns_block Hov.out bi rfl
    exact row_ne hoQ hc (fun cs h => by cases h)
  have HoQ := Lib.hid hoQ
  have y0 := glater_cell l0 (by omega) r0
  have y1 := glater_cell c1 (by omega) r1
  have z0 := glater_cell n0 (by omega) r2
  have z1 := glater_cell n1 (by omega) r2
  have z2 := glater_cell n2 (by omega) r2
  have z3 := glater_cell n3 (by omega) r2
  have z4 := glater_cell n4 (by omega) r2
  clear hcell hov hns hb2 HNu hs1' l0 l1 l2 l3 c1 n0 n1 n2 n3 n4 hoQ hl5
  go_wp2
  have hxR2 : ∃ R : (Nat → Bool) → Act → World → Prop, R = fun L a' w' => ∃ (e : GLater w2 ((.slice QQ nq p.qc : Value).ownBlock)) (v30 v31 v32 v33 v34 v35 v36 v37 v38 v39 v40 v41 v42 v43 v44 v45 v46 v47 v48 v49 v50 v51 v52 v53 v54 v55 v56 v57 v58 v59 v60 : Value), w' = e.w ∧ a' = { tmps := #[Value.pointer (some { block := lb, off := 0 }), Value.slice (some { block := bw, off := 0 }) 7 7, undef, undef, Value.slice (some { block := bi, off := 0 }) 5 ci, Value.slice (some { block := bw, off := 0 }) 7 7, Value.int IntKind.i64 7, Value.bool true, Value.bool true, Value.pointer (some { block := lb, off := 0 }), Value.pointer (some { block := lb, off := 0 }), Value.pointer (some { block := lb, off := 0 }), Value.pointer (some { block := lb, off := 1 }), Value.slice p.mA nm p.mc, Value.int IntKind.i64 ↑nm, Value.bool true, Value.bool true, Value.bool true, Value.pointer (some { block := lb, off := 0 }), Value.pointer (some { block := lb, off := 0 }), Value.pointer (some { block := lb, off := 0 }), Value.pointer (some { block := lb, off := 2 }), Value.slice p.aA na p.ac, Value.int IntKind.i64 ↑na, Value.bool true, Value.bool true, Value.tuple #[], Value.slice (some { block := bw, off := 0 }) 7 7, Value.slice (some { block := bw, off := 2 }) 5 5, Value.slice (some { block := bi, off := 0 }) 5 ci, v30, v31, v32, v33, v34, v35, v36, v37, v38, v39, v40, v41, v42, v43, v44, v45, v46, v47, v48, v49, v50, v51, v52, v53, v54, v55, v56, v57, v58, v59, v60], defers := [] } ∧ (L 0 = true → v30 = .pointer (some ⟨lb, 0, none⟩)) ∧ (L 1 = true → v31 = .pointer (some ⟨lb, 0, none⟩)) ∧ (L 2 = true → v32 = .pointer (some ⟨lb, 0, none⟩)) ∧ (L 3 = true → v33 = .pointer (some ⟨lb, 0, none⟩)) ∧ (L 4 = true → v34 = .pointer (some ⟨lb, 0, none⟩)) ∧ (L 5 = true → v35 = .slice QQ nq p.qc) ∧ (L 6 = true → v36 = .slice (some ⟨bw, 0, none⟩) 7 7) ∧ (L 7 = true → v37 = .pointer (some ⟨bw, 1, none⟩)) ∧ (L 8 = true → v38 = .string s1) ∧ (L 9 = true → v39 = .slice (some ⟨bi, 0, none⟩) 5 ci) ∧ (L 10 = true → v40 = .pointer (some ⟨bi, 0, none⟩)) ∧ (L 11 = true → v41 = .int .i64 x0) ∧ (L 12 = true → v42 = .slice (some ⟨bi, 0, none⟩) 5 ci) ∧ (L 13 = true → v43 = .pointer (some ⟨bi, 1, none⟩)) ∧ (L 14 = true → v44 = .int .i64 x1) ∧ (L 15 = true → v45 = .agg #[.int .i64 x0, .int .i64 x1]) ∧ (L 16 = true → v46 = .slice (some ⟨bi, 0, none⟩) 5 ci) ∧ (L 17 = true → v47 = .pointer (some ⟨bi, 2, none⟩)) ∧ (L 18 = true → v48 = .int .i64 x2) ∧ (L 19 = true → v49 = .slice (some ⟨bi, 0, none⟩) 5 ci) ∧ (L 20 = true → v50 = .pointer (some ⟨bi, 3, none⟩)) ∧ (L 21 = true → v51 = .int .i64 x3) ∧ (L 22 = true → v52 = .slice (some ⟨bi, 0, none⟩) 5 ci) ∧ (L 23 = true → v53 = .pointer (some ⟨bi, 4, none⟩)) ∧ (L 24 = true → v54 = .int .i64 x4) ∧ (L 25 = true → v55 = .agg #[.string s1, .int .i64 x0, .int .i64 x1, .int .i64 x2, .int .i64 x3, .int .i64 x4, .slice none 0 0]) ∧ (L 26 = true → L 27 = false → Hid (∃ gb, v56 = .slice (some ⟨gb, 0, none⟩) 1 1 ∧ NewBlk w2 e.w gb (#[.string s1, .int .i64 x0, .int .i64 x1, .int .i64 x2, .int .i64 x3, .int .i64 x4, .slice none 0 0] : Array Value) 47)) ∧ (L 27 = true → Hid ((∃ A c, v57 = .slice A (nq + 1) c) ∧ e.w.ownsRow B 47 7 v57 (nq + 1) (p.qs.flatMap encQ ++ (#[.string s1, .int .i64 x0, .int .i64 x1, .int .i64 x2, .int .i64 x3, .int .i64 x4, .slice none 0 0] : Array Value).toList) ∧ (v57.ownBlock = (.slice QQ nq p.qc : Value).ownBlock ∨ ∃ k, v57.ownBlock = some k ∧ w2.heap.size ≤ k))) ∧ (L 28 = true → v58 = .pointer (some ⟨lb, 0, none⟩)) ∧ (L 29 = true → v59 = .pointer (some ⟨lb, 0, none⟩)) ∧ (L 30 = true → v60 = .pointer (some ⟨lb, 0, none⟩)) ∧ (L 27 = false → Hid (e.w.ownsRow B 47 7 (.slice QQ nq p.qc) (nq) (p.qs.flatMap encQ))) := ⟨_, rfl⟩
  obtain ⟨R2, hR2⟩ := hxR2
  have HR2 := Lib.hid hR2
  clear hR2
  refine wp_region_inv 31 R2 (by kernel_rfl) (by kernel_rfl) (by kernel_rfl) (by kernel_rfl) (by decide) (by kernel_rfl) ?_ ?_ ?_
  · rw [HR2.out]
    exact ⟨⟨{ w2 with drawn := w2.drawn + 1 }, ⟨rfl, rfl, rfl, Nat.le_refl _, fun _ _ _ => rfl⟩⟩, _, _, _, _, _, _, _, _, _, _, _, _, _, _, _, _, _, _, _, _, _, _, _, _, _, _, _, _, _, _, _, rfl, rfl, fun z => (Bool.false_ne_true z).elim, fun z => (Bool.false_ne_true z).elim, fun z => (Bool.false_ne_true z).elim, fun z => (Bool.false_ne_true z).elim, fun z => (Bool.false_ne_true z).elim, fun z => (Bool.false_ne_true z).elim, fun z => (Bool.false_ne_true z).elim, fun z => (Bool.false_ne_true z).elim, fun z => (Bool.false_ne_true z).elim, fun z => (Bool.false_ne_true z).elim, fun z => (Bool.false_ne_true z).elim, fun z => (Bool.false_ne_true z).elim, fun z => (Bool.false_ne_true z).elim, fun z => (Bool.false_ne_true z).elim, fun z => (Bool.false_ne_true z).elim, fun z => (Bool.false_ne_true z).elim, fun z => (Bool.false_ne_true z).elim, fun z => (Bool.false_ne_true z).elim, fun z => (Bool.false_ne_true z).elim, fun z => (Bool.false_ne_true z).elim, fun z => (Bool.false_ne_true z).elim, fun z => (Bool.false_ne_true z).elim, fun z => (Bool.false_ne_true z).elim, fun z => (Bool.false_ne_true z).elim, fun z => (Bool.false_ne_true z).elim, fun z => (Bool.false_ne_true z).elim, fun z => (Bool.false_ne_true z).elim, fun z => (Bool.false_ne_true z).elim, fun z => (Bool.false_ne_true z).elim, fun z => (Bool.false_ne_true z).elim, fun z => (Bool.false_ne_true z).elim, fun _ => Lib.hid HoQ.out⟩
  · rintro L a' w' i o hi ho hLi haf hInv
    rw [HR2.out] at hInv
    obtain ⟨e, v30, v31, v32, v33, v34, v35, v36, v37, v38, v39, v40, v41, v42, v43, v44, v45, v46, v47, v48, v49, v50, v51, v52, v53, v54, v55, v56, v57, v58, v59, v60, rfl, rfl, h0, h1, h2, h3, h4, h5, h6, h7, h8, h9, h10, h11, h12, h13, h14, h15, h16, h17, h18, h19, h20, h21, h22, h23, h24, h25, h26, h27, h28, h29, h30, hown⟩ := hInv
    have hse : w2.heap.size ≤ e.w.heap.size := e.g.size
    rcases i with _ | _ | _ | _ | _ | _ | _ | _ | _ | _ | _ | _ | _ | _ | _ | _ | _ | _ | _ | _ | _ | _ | _ | _ | _ | _ | _ | _ | _ | _ | _ | i
    case succ.succ.succ.succ.succ.succ.succ.succ.succ.succ.succ.succ.succ.succ.succ.succ.succ.succ.succ.succ.succ.succ.succ.succ.succ.succ.succ.succ.succ.succ.succ => omega
    all_goals (simp only [List.getElem?_cons_zero, List.getElem?_cons_succ, Option.some.injEq] at ho; subst ho)
    · go_wp2
      rw [HR2.out]
      exact ⟨e, _, _, _, _, _, _, _, _, _, _, _, _, _, _, _, _, _, _, _, _, _, _, _, _, _, _, _, _, _, _, _, rfl, rfl, fun _ => rfl, h1, h2, h3, h4, h5, h6, h7, h8, h9, h10, h11, h12, h13, h14, h15, h16, h17, h18, h19, h20, h21, h22, h23, h24, h25, h26, h27, h28, h29, h30, hown⟩
    · go_wp2
      rw [HR2.out]
      exact ⟨e, _, _, _, _, _, _, _, _, _, _, _, _, _, _, _, _, _, _, _, _, _, _, _, _, _, _, _, _, _, _, _, rfl, rfl, h0, fun _ => rfl, h2, h3, h4, h5, h6, h7, h8, h9, h10, h11, h12, h13, h14, h15, h16, h17, h18, h19, h20, h21, h22, h23, h24, h25, h26, h27, h28, h29, h30, hown⟩
    · obtain rfl := h1 (haf ⟨1, .data⟩ (by simp) rfl)
      go_wp2
      rw [HR2.out]
      exact ⟨e, _, _, _, _, _, _, _, _, _, _, _, _, _, _, _, _, _, _, _, _, _, _, _, _, _, _, _, _, _, _, _, rfl, rfl, h0, fun _ => rfl, fun _ => rfl, h3, h4, h5, h6, h7, h8, h9, h10, h11, h12, h13, h14, h15, h16, h17, h18, h19, h20, h21, h22, h23, h24, h25, h26, h27, h28, h29, h30, hown⟩
    · obtain rfl := h2 (haf ⟨2, .data⟩ (by simp) rfl)
      go_wp2
      rw [HR2.out]
      exact ⟨e, _, _, _, _, _, _, _, _, _, _, _, _, _, _, _, _, _, _, _, _, _, _, _, _, _, _, _, _, _, _, _, rfl, rfl, h0, h1, fun _ => rfl, fun _ => rfl, h4, h5, h6, h7, h8, h9, h10, h11, h12, h13, h14, h15, h16, h17, h18, h19, h20, h21, h22, h23, h24, h25, h26, h27, h28, h29, h30, hown⟩
    · obtain rfl := h3 (haf ⟨3, .data⟩ (by simp) rfl)
      go_wp2
      rw [HR2.out]
      exact ⟨e, _, _, _, _, _, _, _, _, _, _, _, _, _, _, _, _, _, _, _, _, _, _, _, _, _, _, _, _, _, _, _, rfl, rfl, h0, h1, h2, fun _ => rfl, fun _ => rfl, h5, h6, h7, h8, h9, h10, h11, h12, h13, h14, h15, h16, h17, h18, h19, h20, h21, h22, h23, h24, h25, h26, h27, h28, h29, h30, hown⟩
    · obtain rfl := h4 (haf ⟨4, .data⟩ (by simp) rfl)
      go_wp2
      rw [HR2.out]
      exact ⟨e, _, _, _, _, _, _, _, _, _, _, _, _, _, _, _, _, _, _, _, _, _, _, _, _, _, _, _, _, _, _, _, rfl, rfl, h0, h1, h2, h3, fun _ => rfl, fun _ => rfl, h6, h7, h8, h9, h10, h11, h12, h13, h14, h15, h16, h17, h18, h19, h20, h21, h22, h23, h24, h25, h26, h27, h28, h29, h30, hown⟩
    · go_wp2
      rw [HR2.out]
      exact ⟨e, _, _, _, _, _, _, _, _, _, _, _, _, _, _, _, _, _, _, _, _, _, _, _, _, _, _, _, _, _, _, _, rfl, rfl, h0, h1, h2, h3, h4, h5, fun _ => rfl, h7, h8, h9, h10, h11, h12, h13, h14, h15, h16, h17, h18, h19, h20, h21, h22, h23, h24, h25, h26, h27, h28, h29, h30, hown⟩
    · obtain rfl := h6 (haf ⟨6, .data⟩ (by simp) rfl)
      go_wp2
      rw [HR2.out]
      exact ⟨e, _, _, _, _, _, _, _, _, _, _, _, _, _, _, _, _, _, _, _, _, _, _, _, _, _, _, _, _, _, _, _, rfl, rfl, h0, h1, h2, h3, h4, h5, fun _ => rfl, fun _ => rfl, h8, h9, h10, h11, h12, h13, h14, h15, h16, h17, h18, h19, h20, h21, h22, h23, h24, h25, h26, h27, h28, h29, h30, hown⟩
    · obtain rfl := h7 (haf ⟨7, .data⟩ (by simp) rfl)
      go_wp2
      rw [HR2.out]
      exact ⟨e, _, _, _, _, _, _, _, _, _, _, _, _, _, _, _, _, _, _, _, _, _, _, _, _, _, _, _, _, _, _, _, rfl, rfl, h0, h1, h2, h3, h4, h5, h6, fun _ => rfl, fun _ => rfl, h9, h10, h11, h12, h13, h14, h15, h16, h17, h18, h19, h20, h21, h22, h23, h24, h25, h26, h27, h28, h29, h30, hown⟩
    · go_wp2
      rw [HR2.out]
      exact ⟨e, _, _, _, _, _, _, _, _, _, _, _, _, _, _, _, _, _, _, _, _, _, _, _, _, _, _, _, _, _, _, _, rfl, rfl, h0, h1, h2, h3, h4, h5, h6, h7, h8, fun _ => rfl, h10, h11, h12, h13, h14, h15, h16, h17, h18, h19, h20, h21, h22, h23, h24, h25, h26, h27, h28, h29, h30, hown⟩
    · obtain rfl := h9 (haf ⟨9, .data⟩ (by simp) rfl)
      go_wp2
      rw [HR2.out]
      exact ⟨e, _, _, _, _, _, _, _, _, _, _, _, _, _, _, _, _, _, _, _, _, _, _, _, _, _, _, _, _, _, _, _, rfl, rfl, h0, h1, h2, h3, h4, h5, h6, h7, h8, fun _ => rfl, fun _ => rfl, h11, h12, h13, h14, h15, h16, h17, h18, h19, h20, h21, h22, h23, h24, h25, h26, h27, h28, h29, h30, hown⟩
    · obtain rfl := h10 (haf ⟨10, .data⟩ (by simp) rfl)
      go_wp2
      rw [HR2.out]
      exact ⟨e, _, _, _, _, _, _, _, _, _, _, _, _, _, _, _, _, _, _, _, _, _, _, _, _, _, _, _, _, _, _, _, rfl, rfl, h0, h1, h2, h3, h4, h5, h6, h7, h8, h9, fun _ => rfl, fun _ => rfl, h12, h13, h14, h15, h16, h17, h18, h19, h20, h21, h22, h23, h24, h25, h26, h27, h28, h29, h30, hown⟩
    · go_wp2
      rw [HR2.out]
      exact ⟨e, _, _, _, _, _, _, _, _, _, _, _, _, _, _, _, _, _, _, _, _, _, _, _, _, _, _, _, _, _, _, _, rfl, rfl, h0, h1, h2, h3, h4, h5, h6, h7, h8, h9, h10, h11, fun _ => rfl, h13, h14, h15, h16, h17, h18, h19, h20, h21, h22, h23, h24, h25, h26, h27, h28, h29, h30, hown⟩
    · obtain rfl := h12 (haf ⟨12, .data⟩ (by simp) rfl)
      go_wp2
      rw [HR2.out]
      exact ⟨e, _, _, _, _, _, _, _, _, _, _, _, _, _, _, _, _, _, _, _, _, _, _, _, _, _, _, _, _, _, _, _, rfl, rfl, h0, h1, h2, h3, h4, h5, h6, h7, h8, h9, h10, h11, fun _ => rfl, fun _ => rfl, h14, h15, h16, h17, h18, h19, h20, h21, h22, h23, h24, h25, h26, h27, h28, h29, h30, hown⟩
    · obtain rfl := h13 (haf ⟨13, .data⟩ (by simp) rfl)
      go_wp2
      rw [HR2.out]
      exact ⟨e, _, _, _, _, _, _, _, _, _, _, _, _, _, _, _, _, _, _, _, _, _, _, _, _, _, _, _, _, _, _, _, rfl, rfl, h0, h1, h2, h3, h4, h5, h6, h7, h8, h9, h10, h11, h12, fun _ => rfl, fun _ => rfl, h15, h16, h17, h18, h19, h20, h21, h22, h23, h24, h25, h26, h27, h28, h29, h30, hown⟩
    · obtain rfl := h11 (haf ⟨11, .data⟩ (by simp) rfl)
      obtain rfl := h14 (haf ⟨14, .data⟩ (by simp) rfl)
      go_wp2
      rw [HR2.out]
      exact ⟨e, _, _, _, _, _, _, _, _, _, _, _, _, _, _, _, _, _, _, _, _, _, _, _, _, _, _, _, _, _, _, _, rfl, rfl, h0, h1, h2, h3, h4, h5, h6, h7, h8, h9, h10, fun _ => rfl, h12, h13, fun _ => rfl, fun _ => rfl, h16, h17, h18, h19, h20, h21, h22, h23, h24, h25, h26, h27, h28, h29, h30, hown⟩
    · go_wp2
      rw [HR2.out]
      exact ⟨e, _, _, _, _, _, _, _, _, _, _, _, _, _, _, _, _, _, _, _, _, _, _, _, _, _, _, _, _, _, _, _, rfl, rfl, h0, h1, h2, h3, h4, h5, h6, h7, h8, h9, h10, h11, h12, h13, h14, h15, fun _ => rfl, h17, h18, h19, h20, h21, h22, h23, h24, h25, h26, h27, h28, h29, h30, hown⟩
    · obtain rfl := h16 (haf ⟨16, .data⟩ (by simp) rfl)
      go_wp2
      rw [HR2.out]
      exact ⟨e, _, _, _, _, _, _, _, _, _, _, _, _, _, _, _, _, _, _, _, _, _, _, _, _, _, _, _, _, _, _, _, rfl, rfl, h0, h1, h2, h3, h4, h5, h6, h7, h8, h9, h10, h11, h12, h13, h14, h15, fun _ => rfl, fun _ => rfl, h18, h19, h20, h21, h22, h23, h24, h25, h26, h27, h28, h29, h30, hown⟩
    · obtain rfl := h17 (haf ⟨17, .data⟩ (by simp) rfl)
      go_wp2
      rw [HR2.out]
      exact ⟨e, _, _, _, _, _, _, _, _, _, _, _, _, _, _, _, _, _, _, _, _, _, _, _, _, _, _, _, _, _, _, _, rfl, rfl, h0, h1, h2, h3, h4, h5, h6, h7, h8, h9, h10, h11, h12, h13, h14, h15, h16, fun _ => rfl, fun _ => rfl, h19, h20, h21, h22, h23, h24, h25, h26, h27, h28, h29, h30, hown⟩
    · go_wp2
      rw [HR2.out]
      exact ⟨e, _, _, _, _, _, _, _, _, _, _, _, _, _, _, _, _, _, _, _, _, _, _, _, _, _, _, _, _, _, _, _, rfl, rfl, h0, h1, h2, h3, h4, h5, h6, h7, h8, h9, h10, h11, h12, h13, h14, h15, h16, h17, h18, fun _ => rfl, h20, h21, h22, h23, h24, h25, h26, h27, h28, h29, h30, hown⟩
    · obtain rfl := h19 (haf ⟨19, .data⟩ (by simp) rfl)
      go_wp2
      rw [HR2.out]
      exact ⟨e, _, _, _, _, _, _, _, _, _, _, _, _, _, _, _, _, _, _, _, _, _, _, _, _, _, _, _, _, _, _, _, rfl, rfl, h0, h1, h2, h3, h4, h5, h6, h7, h8, h9, h10, h11, h12, h13, h14, h15, h16, h17, h18, fun _ => rfl, fun _ => rfl, h21, h22, h23, h24, h25, h26, h27, h28, h29, h30, hown⟩
    · obtain rfl := h20 (haf ⟨20, .data⟩ (by simp) rfl)
      go_wp2
      rw [HR2.out]
      exact ⟨e, _, _, _, _, _, _, _, _, _, _, _, _, _, _, _, _, _, _, _, _, _, _, _, _, _, _, _, _, _, _, _, rfl, rfl, h0, h1, h2, h3, h4, h5, h6, h7, h8, h9, h10, h11, h12, h13, h14, h15, h16, h17, h18, h19, fun _ => rfl, fun _ => rfl, h22, h23, h24, h25, h26, h27, h28, h29, h30, hown⟩
    · go_wp2
      rw [HR2.out]
      exact ⟨e, _, _, _, _, _, _, _, _, _, _, _, _, _, _, _, _, _, _, _, _, _, _, _, _, _, _, _, _, _, _, _, rfl, rfl, h0, h1, h2, h3, h4, h5, h6, h7, h8, h9, h10, h11, h12, h13, h14, h15, h16, h17, h18, h19, h20, h21, fun _ => rfl, h23, h24, h25, h26, h27, h28, h29, h30, hown⟩
    · obtain rfl := h22 (haf ⟨22, .data⟩ (by simp) rfl)
      go_wp2
      rw [HR2.out]
      exact ⟨e, _, _, _, _, _, _, _, _, _, _, _, _, _, _, _, _, _, _, _, _, _, _, _, _, _, _, _, _, _, _, _, rfl, rfl, h0, h1, h2, h3, h4, h5, h6, h7, h8, h9, h10, h11, h12, h13, h14, h15, h16, h17, h18, h19, h20, h21, fun _ => rfl, fun _ => rfl, h24, h25, h26, h27, h28, h29, h30, hown⟩
    · obtain rfl := h23 (haf ⟨23, .data⟩ (by simp) rfl)
      go_wp2
      rw [HR2.out]
      exact ⟨e, _, _, _, _, _, _, _, _, _, _, _, _, _, _, _, _, _, _, _, _, _, _, _, _, _, _, _, _, _, _, _, rfl, rfl, h0, h1, h2, h3, h4, h5, h6, h7, h8, h9, h10, h11, h12, h13, h14, h15, h16, h17, h18, h19, h20, h21, h22, fun _ => rfl, fun _ => rfl, h25, h26, h27, h28, h29, h30, hown⟩
    · obtain rfl := h8 (haf ⟨8, .data⟩ (by simp) rfl)
      obtain rfl := h15 (haf ⟨15, .data⟩ (by simp) rfl)
      obtain rfl := h18 (haf ⟨18, .data⟩ (by simp) rfl)
      obtain rfl := h21 (haf ⟨21, .data⟩ (by simp) rfl)
      obtain rfl := h24 (haf ⟨24, .data⟩ (by simp) rfl)
      go_wp2
      rw [HR2.out]
      exact ⟨e, _, _, _, _, _, _, _, _, _, _, _, _, _, _, _, _, _, _, _, _, _, _, _, _, _, _, _, _, _, _, _, rfl, rfl, h0, h1, h2, h3, h4, h5, h6, h7, fun _ => rfl, h9, h10, h11, h12, h13, h14, fun _ => rfl, h16, h17, fun _ => rfl, h19, h20, fun _ => rfl, h22, h23, fun _ => rfl, fun _ => rfl, h26, h27, h28, h29, h30, hown⟩
    · obtain rfl := h25 (haf ⟨25, .data⟩ (by simp) rfl)
      go_wp2
      rw [HR2.out]
      exact ⟨⟨_, grown_alloc e.g (.cells (#[.string s1, .int .i64 x0, .int .i64 x1, .int .i64 x2, .int .i64 x3, .int .i64 x4, .slice none 0 0] : Array Value) 47)⟩, _, _, _, _, _, _, _, _, _, _, _, _, _, _, _, _, _, _, _, _, _, _, _, _, _, _, _, _, _, _, _, rfl, rfl, h0, h1, h2, h3, h4, h5, h6, h7, h8, h9, h10, h11, h12, h13, h14, h15, h16, h17, h18, h19, h20, h21, h22, h23, h24, fun _ => rfl, fun _ _ => Lib.hid ⟨_, rfl, NewBlk.new hse⟩, fun y => Lib.hid ⟨(h27 y).out.1, (h27 y).out.2.1.alloc _, (h27 y).out.2.2⟩, h28, h29, h30, fun y => Lib.hid ((hown y).out.alloc _)⟩
    · obtain rfl := h5 (haf ⟨5, .data⟩ (by simp) rfl)
      obtain ⟨gb, rfl, hnb⟩ := (h26 (haf ⟨26, .data⟩ (by simp) rfl) hLi).out
      have ho0 := (hown hLi).out
      go_wp2_with (at_builtin; refine wpList_appendL rfl _ _ 22 rfl B 47 _ 7 80 elemQu _ _ _ rfl ho0 _ 1 _ _ rfl (hnb.src rfl) (by simp [Value.oneCell']) (by omega) (by omega) ?_; intro v6 w6 hown6 hb6 hsz6 hg6 hblk6; have HF6 := Lib.hid (show (∃ A c, v6 = Value.slice A (nq + 1) c) ∧ w6.ownsRow B 47 7 v6 (nq + 1) (p.qs.flatMap encQ ++ (#[.string s1, .int .i64 x0, .int .i64 x1, .int .i64 x2, .int .i64 x3, .int .i64 x4, .slice none 0 0] : Array Value).toList) ∧ (v6.ownBlock = (.slice QQ nq p.qc : Value).ownBlock ∨ ∃ k, v6.ownBlock = some k ∧ w2.heap.size ≤ k) ∧ e.w.grownBy w6 (.slice QQ nq p.qc : Value).ownBlock from ⟨(by obtain ⟨A, c, h1, _, _⟩ := own_cap' hown6; exact ⟨A, c, h1⟩), hown6, (hblk6.imp id fun ⟨k, h1, h2⟩ => ⟨k, h1, Nat.le_trans hse h2⟩), hg6⟩); clear hown6 hb6 hsz6 hg6 hblk6)
      rw [HR2.out]
      exact ⟨⟨_, grown_trans e.g HF6.out.2.2.2⟩, _, _, _, _, _, _, _, _, _, _, _, _, _, _, _, _, _, _, _, _, _, _, _, _, _, _, _, _, _, _, _, rfl, rfl, h0, h1, h2, h3, h4, fun _ => rfl, h6, h7, h8, h9, h10, h11, h12, h13, h14, h15, h16, h17, h18, h19, h20, h21, h22, h23, h24, h25, fun _ y => absurd y (by simp), fun _ => Lib.hid ⟨HF6.out.1, HF6.out.2.1, HF6.out.2.2.1⟩, h28, h29, h30, fun y => absurd y (by simp)⟩
    · obtain rfl := h0 (haf ⟨0, .data⟩ (by simp) rfl)
      go_wp2
      rw [HR2.out]
      exact ⟨e, _, _, _, _, _, _, _, _, _, _, _, _, _, _, _, _, _, _, _, _, _, _, _, _, _, _, _, _, _, _, _, rfl, rfl, fun _ => rfl, h1, h2, h3, h4, h5, h6, h7, h8, h9, h10, h11, h12, h13, h14, h15, h16, h17, h18, h19, h20, h21, h22, h23, h24, h25, h26, h27, fun _ => rfl, h29, h30, hown⟩
    · obtain rfl := h28 (haf ⟨28, .data⟩ (by simp) rfl)
      go_wp2
      rw [HR2.out]
      exact ⟨e, _, _, _, _, _, _, _, _, _, _, _, _, _, _, _, _, _, _, _, _, _, _, _, _, _, _, _, _, _, _, _, rfl, rfl, h0, h1, h2, h3, h4, h5, h6, h7, h8, h9, h10, h11, h12, h13, h14, h15, h16, h17, h18, h19, h20, h21, h22, h23, h24, h25, h26, h27, fun _ => rfl, fun _ => rfl, h30, hown⟩
    · obtain rfl := h29 (haf ⟨29, .data⟩ (by simp) rfl)
      go_wp2
      rw [HR2.out]
      exact ⟨e, _, _, _, _, _, _, _, _, _, _, _, _, _, _, _, _, _, _, _, _, _, _, _, _, _, _, _, _, _, _, _, rfl, rfl, h0, h1, h2, h3, h4, h5, h6, h7, h8, h9, h10, h11, h12, h13, h14, h15, h16, h17, h18, h19, h20, h21, h22, h23, h24, h25, h26, h27, h28, fun _ => rfl, fun _ => rfl, hown⟩
  · rintro L a' w' hL hInv
    rw [HR2.out] at hInv
    obtain ⟨e, v30, v31, v32, v33, v34, v35, v36, v37, v38, v39, v40, v41, v42, v43, v44, v45, v46, v47, v48, v49, v50, v51, v52, v53, v54, v55, v56, v57, v58, v59, v60, rfl, rfl, h0, h1, h2, h3, h4, h5, h6, h7, h8, h9, h10, h11, h12, h13, h14, h15, h16, h17, h18, h19, h20, h21, h22, h23, h24, h25, h26, h27, h28, h29, h30, hown⟩ := hInv
    obtain rfl := h0 (hL 0 (by omega))
    obtain rfl := h1 (hL 1 (by omega))
    obtain rfl := h2 (hL 2 (by omega))
    obtain rfl := h3 (hL 3 (by omega))
    obtain rfl := h4 (hL 4 (by omega))
    obtain rfl := h5 (hL 5 (by omega))
    obtain rfl := h6 (hL 6 (by omega))
    obtain rfl := h7 (hL 7 (by omega))
    obtain rfl := h8 (hL 8 (by omega))
    obtain rfl := h9 (hL 9 (by omega))
    obtain rfl := h10 (hL 10 (by omega))
    obtain rfl := h11 (hL 11 (by omega))
    obtain rfl := h12 (hL 12 (by omega))
    obtain rfl := h13 (hL 13 (by omega))
    obtain rfl := h14 (hL 14 (by omega))
    obtain rfl := h15 (hL 15 (by omega))
    obtain rfl := h16 (hL 16 (by omega))
    obtain rfl := h17 (hL 17 (by omega))
    obtain rfl := h18 (hL 18 (by omega))
    obtain rfl := h19 (hL 19 (by omega))
    obtain rfl := h20 (hL 20 (by omega))
    obtain rfl := h21 (hL 21 (by omega))
    obtain rfl := h22 (hL 22 (by omega))
    obtain rfl := h23 (hL 23 (by omega))
    obtain rfl := h24 (hL 24 (by omega))
    obtain rfl := h25 (hL 25 (by omega))
    obtain ⟨⟨An, cn, rfl⟩, hoN, hbN⟩ := (h27 (hL 27 (by omega))).out
    obtain rfl := h28 (hL 28 (by omega))
    obtain rfl := h29 (hL 29 (by omega))
    obtain rfl := h30 (hL 30 (by omega))
    have hse : w2.heap.size ≤ e.w.heap.size := e.g.size
    clear h0 h1 h2 h3 h4 h5 h6 h7 h8 h9 h10 h11 h12 h13 h14 h15 h16 h17 h18 h19 h20 h21 h22 h23 h24 h25 h26 h27 h28 h29 h30 hown hL HR2
    have heL : e.w.heap[lb]? = some (.cells #[.slice p.qA p.qs.length p.qc, .slice p.mA p.ms.length p.mc, .slice p.aA p.al.length p.ac, .string last] 96 (0, 0)) := (e.g.block lb (by omega) r0).trans HL2.out
    have hcL : e.w.cell? ⟨lb, 0, none⟩ = some (.slice p.qA p.qs.length p.qc) := by simp only [World.cell?, heL]; rfl
    have hfL : e.w.frozen? ⟨lb, 0, none⟩ = false := by simp [World.frozen?, heL]
    have HeL := Lib.hid heL
    have HoN := Lib.hid hoN
    clear heL y0 y1 z0 z1 z2 z3 z4 hoN
    go_wp2
    go_end0
    show LnQ _ _ _ _ _ _ _ _ _
    have hnp : ({ p with qA := An, qc := cn, qs := p.qs ++ [lineQ ws [x0, x1, x2, x3, x4]] } : Plan).qs.length = nq + 1 := by simp [Hnq.out]
    refine ⟨((Hb2.out.mono (by omega)).grown e.g (by omega) (fun k hk => (HoQ.out.lt k hk).1)).setCell (p := ⟨lb, 0, none⟩) hBL _, KeepO.fin Hb2.out HoQ.out (.inl rfl) e.g (.inl rfl), .inr ⟨⟨rfl, Hc.out⟩, [x0, x1, x2, x3, x4], An, cn, Hns.out, rfl, ?_, ?_⟩⟩
    · show (e.w.setCell ⟨lb, 0, none⟩ _).heap[lb]? = _
      rw [hnp]
      simp [World.setCell, Array.getElem?_modify, HeL.out]
    · refine OwnP.addQ (w := w2) (w' := e.w.setCell ⟨lb, 0, none⟩ _) (p := p) (q := lineQ ws [x0, x1, x2, x3, x4]) HO2.out ⟨rfl, rfl, rfl⟩ ?_ ?_
      · rw [← Hnq.out]
        have he : encQ (lineQ ws [x0, x1, x2, x3, x4]) = [.string s1, .int .i64 x0, .int .i64 x1, .int .i64 x2, .int .i64 x3, .int .i64 x4, .slice none 0 0] := by rw [← Hs1.out]; rfl
        rw [he]
        exact own_setK HoN.out HeL.out (by decide) _
      · intro t size v n xs hk hne hv
        exact own_setK (own_kind hv HoQ.out e.g hne) HeL.out hk.ne _
end Go.Proofs.YtcgnpndfhhcplaaGreatDoor
