/-
  Package watch's reader of a plan's lines: its method that reads a gauge. Conditions: the parts are the call's own; texts are short; package-level variables read as their initialisers lay them.
-/
import Derived.Test.YtcgnpndfhhcplaaGreatDoorLines
import Derived.BigQuiet
namespace Go.Proofs.YtcgnpndfhhcplaaGreatDoor
open Go.RowKit W7
attribute [local go_sem] Oper.semAt_some
/-- the gauge of a line's words -/
def lineG (ws : List ByteArray) (ns : List Int) : Gauge := ⟨ws.getD 1 default, ns.getD 0 0, ns.getD 1 0, ns.getD 2 0⟩
/-- how the method ends -/
def LnG (p : Plan) (last : ByteArray) (ws : List ByteArray) (lb B n : Nat) (w : World) (e : Ending) (w' : World) : Prop := Below B w w' ∧ KeepO lb w w' ∧
  ((e = .panicked (pnc 4) ∧ (¬ (n = 5 ∧ (last.toList = wQ ∨ last.toList = wG)) ∨ numsB ((ws.drop 2).map (·.data.toList)) = none)) ∨
   ((n = 5 ∧ (last.toList = wQ ∨ last.toList = wG)) ∧ ∃ (ns : List Int) (A' : Option Addr) (c' : Nat) (qi : List Quantity) (q : Quantity), numsB ((ws.drop 2).map (·.data.toList)) = some ns ∧ p.qs = qi ++ [q] ∧ e = .returned (.tuple #[]) ∧
     LinesAt w' lb { p with qs := qi ++ [{ q with gA := A', gc := c', gs := q.gs ++ [lineG ws ns] }] } last ∧ OwnP B w' { p with qs := qi ++ [{ q with gA := A', gc := c', gs := q.gs ++ [lineG ws ns] }] }))
set_option maxHeartbeats 4000000 in
set_option maxRecDepth 100000 in
theorem lnGauge_any (p : Plan) (last : ByteArray) (ws : List ByteArray) (lb B bw n : Nat) (w : World) (hn : n = ws.length) (hL : LinesAt w lb p last) (hO : OwnP B w p) (hBL : B ≤ lb) (hW : WordsAt w bw ws) (hs : ∀ s ∈ ws, s.size ≤ 1000000) (hl : n ≤ 1000000) (hlq : p.qs.length ≤ 1000000) (hlg : ∀ q ∈ p.qs, q.gs.length ≤ 1000000) (hpq : last.toList = wQ ∨ last.toList = wG → p.qs ≠ []) (hE : Env B w) :
    Calls Tryz.prog 81 #[.pointer (some ⟨lb, 0, none⟩), .slice (some ⟨bw, 0, none⟩) n n] w (LnG p last ws lb B n w) := by
  have hLw : lb < w.heap.size := (Array.getElem?_eq_some_iff.1 hL).1
  obtain ⟨l0, l1, l2, l3⟩ := hL.cells
  obtain ⟨mq, hmq⟩ : ∃ k, k = p.qs.length := ⟨_, rfl⟩
  have hmq2 : mq ≤ 1000000 := by omega
  obtain ⟨nm, hnm⟩ : ∃ k, k = p.ms.length := ⟨_, rfl⟩
  obtain ⟨na, hna⟩ : ∃ k, k = p.al.length := ⟨_, rfl⟩
  rw [← hmq] at l0
  rw [← hnm] at l1
  rw [← hna] at l2
  have HL := Lib.hid hL
  have HO := Lib.hid hO
  have HW := Lib.hid hW
  have Hs := Lib.hid hs
  have HE := Lib.hid hE
  have Hn := Lib.hid hn
  have Hmq := Lib.hid hmq
  have Hnm := Lib.hid hnm
  have Hna := Lib.hid hna
  have Hlg := Lib.hid hlg
  have Hpq := Lib.hid hpq
  have HD := Lib.hid (fun X => demand_no 4 X)
  clear hL hO hW hs hE hn hmq hnm hna hlg hpq
  cases h7 : ((n : Int) == 5)
  · have hne : n ≠ 5 := fun h => by rw [h] at h7; cases h7
    go_enter Tryz.func81, Tryz.ntmps81
    go_wp2_with (go_at_call 78; refine (HD.out _).mono ?_; rintro r w2 ⟨rfl, hb2⟩)
    exact ⟨rfl, show LnG _ _ _ _ _ _ _ _ _ from ⟨hb2.mono (by omega), KeepO.of_below hb2, .inl ⟨rfl, .inl fun h => hne h.1⟩⟩⟩
  have hn7 : n = 5 := by have := eq_of_beq h7; omega
  subst hn7
  clear h7
  have HDo := Lib.hid (fun X => demand_ok 4 X)
  have hbw := HW.out.lt
  have hmain : last.toList = wQ ∨ last.toList = wG → 1 ≤ mq := fun h => by
    have h1 := Hpq.out h
    have h2 := Hmq.out
    have h3 : p.qs.length ≠ 0 := fun h => h1 (List.length_eq_zero_iff.1 h)
    omega
  have Hmain := Lib.hid hmain
  clear hmain
  cases hq : (last.toList == [113, 117, 97, 110, 116, 105, 116, 121])
  · cases hg : (last.toList == [103, 97, 117, 103, 101])
    · have hne : ¬ (last.toList = wQ ∨ last.toList = wG) := fun h => by
        rcases h with h | h
        · rw [h] at hq; exact absurd hq (by decide)
        · rw [h] at hg; exact absurd hg (by decide)
      have Hne := Lib.hid hne
      clear hne
      go_enter Tryz.func81, Tryz.ntmps81
      go_wp2_with (go_at_call 78; refine (HD.out _).mono ?_; rintro r w2 ⟨rfl, hb2⟩)
      exact ⟨rfl, show LnG _ _ _ _ _ _ _ _ _ from ⟨hb2.mono (by omega), KeepO.of_below hb2, .inl ⟨rfl, .inl fun h => Hne.out h.2⟩⟩⟩
    · have HLt := Lib.hid (show last.toList = wQ ∨ last.toList = wG from .inr (eq_of_beq hg))
      have hn1 := Hmain.out HLt.out
      go_enter Tryz.func81, Tryz.ntmps81
      go_wp2_with (go_at_call 78; fail)
      refine (HDo.out _).mono ?_
      rintro r w1 ⟨rfl, hb1⟩
      have Hb1 := Lib.hid hb1
      have hs1 := hb1.size
      have HW1 := Lib.hid (show WordsAt w1 bw ws from (hb1.block bw hbw).trans HW.out)
      have HL1 := Lib.hid (show LinesAt w1 lb p last from (hb1.block lb hLw).trans HL.out)
      have HNu := Lib.hid (numbers_any (ws.drop 2) (some ⟨bw, 2, none⟩) 3 3 B w1 (by rw [List.length_drop, ← Hn.out]) HW1.out.sl (fun s h => Hs.out s (List.mem_of_mem_drop h)) (by decide) (HE.out.on (hb1.mono (by omega)) (Nat.le_refl _)) (by omega))
      clear hb1 l0 l1 l2 l3
      go_wp2_with (go_at_call 108; fail)
      refine HNu.out.mono ?_
      rintro r w2 ⟨hb2, (⟨ns, v, hns, rfl, hov⟩ | ⟨hno, rfl⟩)⟩
      rotate_left
      · exact ⟨rfl, show LnG _ _ _ _ _ _ _ _ _ from ⟨(Hb1.out.trans (hb2.mono hs1)).mono (by omega), KeepO.of_below (Hb1.out.trans (hb2.mono hs1)), .inl ⟨rfl, .inr hno⟩⟩⟩
      have hl5 : ns.length = 3 := by rw [numsB_len hns, List.length_map, List.length_drop, ← Hn.out]
      obtain ⟨x0, x1, x2, rfl⟩ := three hl5
      obtain ⟨bi, ci, rfl, hbi, hbiw, hci1, hci2, hcell⟩ := owns_cells hov (Nat.succ_pos _)
      have n0 : w2.cell? ⟨bi, 0, none⟩ = some (.int .i64 x0) := hcell 0 _ rfl
      have n1 : w2.cell? ⟨bi, 1, none⟩ = some (.int .i64 x1) := hcell 1 _ rfl
      have n2 : w2.cell? ⟨bi, 2, none⟩ = some (.int .i64 x2) := hcell 2 _ rfl
      have Hb2 := Lib.hid ((Hb1.out.trans (hb2.mono hs1)))
      have hs2 := hb2.size
      have HW2 := Lib.hid (show WordsAt w2 bw ws from (hb2.block bw (by omega)).trans HW1.out)
      have HL2 := Lib.hid (show LinesAt w2 lb p last from (hb2.block lb (by omega)).trans HL1.out)
      have Hns := Lib.hid hns
      have Hov := Lib.hid hov
      obtain ⟨l0, l1, l2, l3⟩ := HL2.out.cells
      rw [← Hmq.out] at l0
      have h1l : 1 < ws.length := by have := Hn.out; omega
      have c1 := HW2.out.cell h1l
      obtain ⟨s1, hs1'⟩ : ∃ s, s = ws[1] := ⟨_, rfl⟩
      rw [← hs1'] at c1
      have Hs1 := Lib.hid (show ws.getD 1 default = s1 by rw [hs1']; exact getD_lt h1l)
      have HO2 := Lib.hid (HO.out.below Hb2.out)
      have hoq := HO2.out.q
      rw [← Hmq.out] at hoq
      obtain ⟨qb, qcc, hqv, hqb, hqw, hqc1, hqc2, hqcell⟩ := owns_cellsN hoq (by omega)
      simp only [Value.slice.injEq] at hqv
      obtain ⟨hqA, -, -⟩ := hqv
      rw [hqA] at l0
      have Hoq := Lib.hid hoq
      clear hcell hov hns hb2 HNu hs1' l1 l2 l3 hl5 hoq
      go_wp2
      go_quiet (fail)
      go_wp2
      have hb3 := below_drewN' w2 nq
      revert hb3
      generalize w2.drewN nq = w3
      intro hb3
      have hs3 := hb3.size
      have m0 := (World.cell?_of_block (a := ⟨bi, 0, none⟩) (hb3.block bi hbiw)).trans n0
      have m1 := (World.cell?_of_block (a := ⟨bi, 1, none⟩) (hb3.block bi hbiw)).trans n1
      have m2 := (World.cell?_of_block (a := ⟨bi, 2, none⟩) (hb3.block bi hbiw)).trans n2
      have d1 := (World.cell?_of_block (a := ⟨bw, 1, none⟩) (hb3.block bw (by omega))).trans c1
      have Hov3 := Lib.hid (own_below Hov.out hb3)
      have HW3 := Lib.hid (show WordsAt w3 bw ws from (hb3.block bw (by omega)).trans HW2.out)
      have HL3 := Lib.hid (show LinesAt w3 lb p last from (hb3.block lb (by omega)).trans HL2.out)
      have HO3 := Lib.hid (HO2.out.below hb3)
      have Hoq3 := Lib.hid (own_below Hoq.out hb3)
      have Hb3 := Lib.hid (Hb2.out.trans (hb3.mono (by omega)))
      rw [hqA] at Hoq3
      have HqA := Lib.hid hqA
      have hpne : p.qs ≠ [] := fun h => by have h2 := Hmq.out; rw [h] at h2; simp at h2; omega
      obtain ⟨qi, q, hp⟩ : ∃ qi q, p.qs = qi ++ [q] := ⟨p.qs.dropLast, p.qs.getLast hpne, (List.dropLast_concat_getLast hpne).symm⟩
      have hqil : qi.length = mq - 1 := by have h2 := Hmq.out; rw [hp] at h2; simp at h2; omega
      obtain ⟨ng, hng⟩ : ∃ k, k = q.gs.length := ⟨_, rfl⟩
      obtain ⟨GA, hGA⟩ : ∃ k, q.gA = k := ⟨_, rfl⟩
      obtain ⟨GC, hGC⟩ : ∃ k, q.gc = k := ⟨_, rfl⟩
      have hng2 : ng ≤ 1000000 := by rw [hng]; exact Hlg.out q (by rw [hp]; simp)
      have g0 : w3.cell? ⟨qb, (mq - 1) * 7 + 6, none⟩ = some (.slice GA ng GC) := by
        refine (World.cell?_of_block (a := ⟨qb, (mq - 1) * 7 + 6, none⟩) (hb3.block qb hqw)).trans (hqcell _ _ ?_)
        rw [hp, ← hqil, Nat.mul_comm, lastQ, ← hGA, ← hGC, hng]
        rfl
      have hoG : w3.ownsRow B 28 4 (.slice GA ng GC) ng (q.gs.flatMap encG) := by
        have h1 := HO3.out.g qi.length (by rw [hp]; simp)
        have h2 : p.qs[qi.length]'(by rw [hp]; simp) = q := by simp [hp]
        rw [h2, hGA, hGC, ← hng] at h1
        exact h1
      have r0 := row_ne (k := lb) hoG HL3.out (fun cs h => by cases h)
      have r1 := row_ne (k := bw) hoG HW3.out (fun cs h => by cases h)
      have r2 : some bi ≠ (Value.slice GA ng GC).ownBlock := by
        obtain ⟨cs, hc⟩ := owns_block Hov3.out bi rfl
        exact row_ne hoG hc (fun cs h => by cases h)
      have r3 : some qb ≠ (Value.slice GA ng GC).ownBlock := by
        obtain ⟨cs, hc⟩ := owns_block Hoq3.out qb rfl
        exact row_ne hoG hc (fun cs h => by cases h)
      have HoG := Lib.hid hoG
      have y0 := glater_cell g0 (by omega) r3
      have y1 := glater_cell d1 (by omega) r1
      have z0 := glater_cell m0 (by omega) r2
      have z1 := glater_cell m1 (by omega) r2
      have z2 := glater_cell m2 (by omega) r2
      have Hp := Lib.hid hp
      have Hng := Lib.hid hng
      have HGA := Lib.hid hGA
      have HGC := Lib.hid hGC
      clear hqcell l0 c1 n0 n1 n2 m0 m1 m2 d1 g0 hoG hp hng hGA hGC hqA hpne hb3 hqil
      have hxR2 : ∃ R : (Nat → Bool) → Act → World → Prop, R = fun L a' w' => ∃ (e : GLater w3 ((.slice GA ng GC : Value).ownBlock)) (v40 v41 v42 v43 v44 v45 v46 v47 v48 v49 v50 v51 v52 v53 v54 v55 v56 v57 v58 v59 v60 v61 : Value), w' = e.w ∧ a' = { tmps := #[Value.pointer (some { block := lb, off := 0 }), Value.slice (some { block := bw, off := 0 }) 5 5, undef, undef, Value.slice (some { block := bi, off := 0 }) 3 ci, Value.pointer (some { block := qb, off := (mq - 1) * 7 }), Value.slice (some { block := bw, off := 0 }) 5 5, Value.int IntKind.i64 5, Value.bool true, Value.bool true, Value.pointer (some { block := lb, off := 0 }), Value.pointer (some { block := lb, off := 0 }), Value.pointer (some { block := lb, off := 3 }), Value.string last, Value.bool false, Value.bool false, Value.pointer (some { block := lb, off := 0 }), Value.pointer (some { block := lb, off := 0 }), Value.pointer (some { block := lb, off := 3 }), Value.string last, Value.bool true, Value.bool true, Value.bool true, Value.tuple #[], Value.slice (some { block := bw, off := 0 }) 5 5, Value.slice (some { block := bw, off := 2 }) 3 3, Value.slice (some { block := bi, off := 0 }) 3 ci, Value.pointer (some { block := lb, off := 0 }), Value.pointer (some { block := lb, off := 0 }), Value.pointer (some { block := lb, off := 0 }), Value.pointer (some { block := lb, off := 0 }), Value.slice (some { block := qb, off := 0 }) mq p.qc, Value.pointer (some { block := lb, off := 0 }), Value.pointer (some { block := lb, off := 0 }), Value.pointer (some { block := lb, off := 0 }), Value.pointer (some { block := lb, off := 0 }), Value.slice (some { block := qb, off := 0 }) mq p.qc, Value.int IntKind.i64 ↑mq, Value.int IntKind.i64 (↑mq - 1), Value.pointer (some { block := qb, off := (mq - 1) * 7 }), v40, v41, v42, v43, v44, v45, v46, v47, v48, v49, v50, v51, v52, v53, v54, v55, v56, v57, v58, v59, v60, v61], defers := [] } ∧ (L 0 = true → v40 = .pointer (some ⟨qb, (mq - 1) * 7, none⟩)) ∧ (L 1 = true → v41 = .pointer (some ⟨qb, (mq - 1) * 7, none⟩)) ∧ (L 2 = true → v42 = .pointer (some ⟨qb, (mq - 1) * 7, none⟩)) ∧ (L 3 = true → v43 = .pointer (some ⟨qb, (mq - 1) * 7 + 6, none⟩)) ∧ (L 4 = true → v44 = .slice GA ng GC) ∧ (L 5 = true → v45 = .slice (some ⟨bw, 0, none⟩) 5 5) ∧ (L 6 = true → v46 = .pointer (some ⟨bw, 1, none⟩)) ∧ (L 7 = true → v47 = .string s1) ∧ (L 8 = true → v48 = .slice (some ⟨bi, 0, none⟩) 3 ci) ∧ (L 9 = true → v49 = .pointer (some ⟨bi, 0, none⟩)) ∧ (L 10 = true → v50 = .int .i64 x0) ∧ (L 11 = true → v51 = .slice (some ⟨bi, 0, none⟩) 3 ci) ∧ (L 12 = true → v52 = .pointer (some ⟨bi, 1, none⟩)) ∧ (L 13 = true → v53 = .int .i64 x1) ∧ (L 14 = true → v54 = .slice (some ⟨bi, 0, none⟩) 3 ci) ∧ (L 15 = true → v55 = .pointer (some ⟨bi, 2, none⟩)) ∧ (L 16 = true → v56 = .int .i64 x2) ∧ (L 17 = true → v57 = .agg #[.string s1, .int .i64 x0, .int .i64 x1, .int .i64 x2]) ∧ (L 18 = true → L 19 = false → Hid (∃ gb, v58 = .slice (some ⟨gb, 0, none⟩) 1 1 ∧ NewBlk w3 e.w gb (#[.string s1, .int .i64 x0, .int .i64 x1, .int .i64 x2] : Array Value) 28)) ∧ (L 19 = true → Hid ((∃ A c, v59 = .slice A (ng + 1) c) ∧ e.w.ownsRow B 28 4 v59 (ng + 1) (q.gs.flatMap encG ++ (#[.string s1, .int .i64 x0, .int .i64 x1, .int .i64 x2] : Array Value).toList) ∧ (v59.ownBlock = (.slice GA ng GC : Value).ownBlock ∨ ∃ k, v59.ownBlock = some k ∧ w3.heap.size ≤ k))) ∧ (L 20 = true → v60 = .pointer (some ⟨qb, (mq - 1) * 7, none⟩)) ∧ (L 21 = true → v61 = .pointer (some ⟨qb, (mq - 1) * 7 + 6, none⟩)) ∧ (L 19 = false → Hid (e.w.ownsRow B 28 4 (.slice GA ng GC) (ng) (q.gs.flatMap encG))) := ⟨_, rfl⟩
      obtain ⟨R2, hR2⟩ := hxR2
      have HR2 := Lib.hid hR2
      clear hR2
      refine wp_region_inv 22 R2 (by kernel_rfl) (by kernel_rfl) (by kernel_rfl) (by kernel_rfl) (by decide) (by kernel_rfl) ?_ ?_ ?_
      · rw [HR2.out]
        exact ⟨⟨{ w3 with drawn := w3.drawn + 1 }, ⟨rfl, rfl, rfl, Nat.le_refl _, fun _ _ _ => rfl⟩⟩, _, _, _, _, _, _, _, _, _, _, _, _, _, _, _, _, _, _, _, _, _, _, rfl, rfl, fun z => (Bool.false_ne_true z).elim, fun z => (Bool.false_ne_true z).elim, fun z => (Bool.false_ne_true z).elim, fun z => (Bool.false_ne_true z).elim, fun z => (Bool.false_ne_true z).elim, fun z => (Bool.false_ne_true z).elim, fun z => (Bool.false_ne_true z).elim, fun z => (Bool.false_ne_true z).elim, fun z => (Bool.false_ne_true z).elim, fun z => (Bool.false_ne_true z).elim, fun z => (Bool.false_ne_true z).elim, fun z => (Bool.false_ne_true z).elim, fun z => (Bool.false_ne_true z).elim, fun z => (Bool.false_ne_true z).elim, fun z => (Bool.false_ne_true z).elim, fun z => (Bool.false_ne_true z).elim, fun z => (Bool.false_ne_true z).elim, fun z => (Bool.false_ne_true z).elim, fun z => (Bool.false_ne_true z).elim, fun z => (Bool.false_ne_true z).elim, fun z => (Bool.false_ne_true z).elim, fun z => (Bool.false_ne_true z).elim, fun _ => Lib.hid HoG.out⟩
      · rintro L a' w' i o hi ho hLi haf hInv
        rw [HR2.out] at hInv
        obtain ⟨e, v40, v41, v42, v43, v44, v45, v46, v47, v48, v49, v50, v51, v52, v53, v54, v55, v56, v57, v58, v59, v60, v61, rfl, rfl, h0, h1, h2, h3, h4, h5, h6, h7, h8, h9, h10, h11, h12, h13, h14, h15, h16, h17, h18, h19, h20, h21, hown⟩ := hInv
        have hse : w3.heap.size ≤ e.w.heap.size := e.g.size
        rcases i with _ | _ | _ | _ | _ | _ | _ | _ | _ | _ | _ | _ | _ | _ | _ | _ | _ | _ | _ | _ | _ | _ | i
        case succ.succ.succ.succ.succ.succ.succ.succ.succ.succ.succ.succ.succ.succ.succ.succ.succ.succ.succ.succ.succ.succ => omega
        all_goals (simp only [List.getElem?_cons_zero, List.getElem?_cons_succ, Option.some.injEq] at ho; subst ho)
        · go_wp2
          rw [HR2.out]
          exact ⟨e, _, _, _, _, _, _, _, _, _, _, _, _, _, _, _, _, _, _, _, _, _, _, rfl, rfl, fun _ => rfl, h1, h2, h3, h4, h5, h6, h7, h8, h9, h10, h11, h12, h13, h14, h15, h16, h17, h18, h19, h20, h21, hown⟩
        · go_wp2
          rw [HR2.out]
          exact ⟨e, _, _, _, _, _, _, _, _, _, _, _, _, _, _, _, _, _, _, _, _, _, _, rfl, rfl, h0, fun _ => rfl, h2, h3, h4, h5, h6, h7, h8, h9, h10, h11, h12, h13, h14, h15, h16, h17, h18, h19, h20, h21, hown⟩
        · obtain rfl := h1 (haf ⟨1, .data⟩ (by simp) rfl)
          go_wp2
          rw [HR2.out]
          exact ⟨e, _, _, _, _, _, _, _, _, _, _, _, _, _, _, _, _, _, _, _, _, _, _, rfl, rfl, h0, fun _ => rfl, fun _ => rfl, h3, h4, h5, h6, h7, h8, h9, h10, h11, h12, h13, h14, h15, h16, h17, h18, h19, h20, h21, hown⟩
        · obtain rfl := h2 (haf ⟨2, .data⟩ (by simp) rfl)
          go_wp2
          rw [HR2.out]
          exact ⟨e, _, _, _, _, _, _, _, _, _, _, _, _, _, _, _, _, _, _, _, _, _, _, rfl, rfl, h0, h1, fun _ => rfl, fun _ => rfl, h4, h5, h6, h7, h8, h9, h10, h11, h12, h13, h14, h15, h16, h17, h18, h19, h20, h21, hown⟩
        · obtain rfl := h3 (haf ⟨3, .data⟩ (by simp) rfl)
          go_wp2
          rw [HR2.out]
          exact ⟨e, _, _, _, _, _, _, _, _, _, _, _, _, _, _, _, _, _, _, _, _, _, _, rfl, rfl, h0, h1, h2, fun _ => rfl, fun _ => rfl, h5, h6, h7, h8, h9, h10, h11, h12, h13, h14, h15, h16, h17, h18, h19, h20, h21, hown⟩
        · go_wp2
          rw [HR2.out]
          exact ⟨e, _, _, _, _, _, _, _, _, _, _, _, _, _, _, _, _, _, _, _, _, _, _, rfl, rfl, h0, h1, h2, h3, h4, fun _ => rfl, h6, h7, h8, h9, h10, h11, h12, h13, h14, h15, h16, h17, h18, h19, h20, h21, hown⟩
        · obtain rfl := h5 (haf ⟨5, .data⟩ (by simp) rfl)
          go_wp2
          rw [HR2.out]
          exact ⟨e, _, _, _, _, _, _, _, _, _, _, _, _, _, _, _, _, _, _, _, _, _, _, rfl, rfl, h0, h1, h2, h3, h4, fun _ => rfl, fun _ => rfl, h7, h8, h9, h10, h11, h12, h13, h14, h15, h16, h17, h18, h19, h20, h21, hown⟩
        · obtain rfl := h6 (haf ⟨6, .data⟩ (by simp) rfl)
          go_wp2
          rw [HR2.out]
          exact ⟨e, _, _, _, _, _, _, _, _, _, _, _, _, _, _, _, _, _, _, _, _, _, _, rfl, rfl, h0, h1, h2, h3, h4, h5, fun _ => rfl, fun _ => rfl, h8, h9, h10, h11, h12, h13, h14, h15, h16, h17, h18, h19, h20, h21, hown⟩
        · go_wp2
          rw [HR2.out]
          exact ⟨e, _, _, _, _, _, _, _, _, _, _, _, _, _, _, _, _, _, _, _, _, _, _, rfl, rfl, h0, h1, h2, h3, h4, h5, h6, h7, fun _ => rfl, h9, h10, h11, h12, h13, h14, h15, h16, h17, h18, h19, h20, h21, hown⟩
        · obtain rfl := h8 (haf ⟨8, .data⟩ (by simp) rfl)
          go_wp2
          rw [HR2.out]
          exact ⟨e, _, _, _, _, _, _, _, _, _, _, _, _, _, _, _, _, _, _, _, _, _, _, rfl, rfl, h0, h1, h2, h3, h4, h5, h6, h7, fun _ => rfl, fun _ => rfl, h10, h11, h12, h13, h14, h15, h16, h17, h18, h19, h20, h21, hown⟩
        · obtain rfl := h9 (haf ⟨9, .data⟩ (by simp) rfl)
          go_wp2
          rw [HR2.out]
          exact ⟨e, _, _, _, _, _, _, _, _, _, _, _, _, _, _, _, _, _, _, _, _, _, _, rfl, rfl, h0, h1, h2, h3, h4, h5, h6, h7, h8, fun _ => rfl, fun _ => rfl, h11, h12, h13, h14, h15, h16, h17, h18, h19, h20, h21, hown⟩
        · go_wp2
          rw [HR2.out]
          exact ⟨e, _, _, _, _, _, _, _, _, _, _, _, _, _, _, _, _, _, _, _, _, _, _, rfl, rfl, h0, h1, h2, h3, h4, h5, h6, h7, h8, h9, h10, fun _ => rfl, h12, h13, h14, h15, h16, h17, h18, h19, h20, h21, hown⟩
        · obtain rfl := h11 (haf ⟨11, .data⟩ (by simp) rfl)
          go_wp2
          rw [HR2.out]
          exact ⟨e, _, _, _, _, _, _, _, _, _, _, _, _, _, _, _, _, _, _, _, _, _, _, rfl, rfl, h0, h1, h2, h3, h4, h5, h6, h7, h8, h9, h10, fun _ => rfl, fun _ => rfl, h13, h14, h15, h16, h17, h18, h19, h20, h21, hown⟩
        · obtain rfl := h12 (haf ⟨12, .data⟩ (by simp) rfl)
          go_wp2
          rw [HR2.out]
          exact ⟨e, _, _, _, _, _, _, _, _, _, _, _, _, _, _, _, _, _, _, _, _, _, _, rfl, rfl, h0, h1, h2, h3, h4, h5, h6, h7, h8, h9, h10, h11, fun _ => rfl, fun _ => rfl, h14, h15, h16, h17, h18, h19, h20, h21, hown⟩
        · go_wp2
          rw [HR2.out]
          exact ⟨e, _, _, _, _, _, _, _, _, _, _, _, _, _, _, _, _, _, _, _, _, _, _, rfl, rfl, h0, h1, h2, h3, h4, h5, h6, h7, h8, h9, h10, h11, h12, h13, fun _ => rfl, h15, h16, h17, h18, h19, h20, h21, hown⟩
        · obtain rfl := h14 (haf ⟨14, .data⟩ (by simp) rfl)
          go_wp2
          rw [HR2.out]
          exact ⟨e, _, _, _, _, _, _, _, _, _, _, _, _, _, _, _, _, _, _, _, _, _, _, rfl, rfl, h0, h1, h2, h3, h4, h5, h6, h7, h8, h9, h10, h11, h12, h13, fun _ => rfl, fun _ => rfl, h16, h17, h18, h19, h20, h21, hown⟩
        · obtain rfl := h15 (haf ⟨15, .data⟩ (by simp) rfl)
          go_wp2
          rw [HR2.out]
          exact ⟨e, _, _, _, _, _, _, _, _, _, _, _, _, _, _, _, _, _, _, _, _, _, _, rfl, rfl, h0, h1, h2, h3, h4, h5, h6, h7, h8, h9, h10, h11, h12, h13, h14, fun _ => rfl, fun _ => rfl, h17, h18, h19, h20, h21, hown⟩
        · obtain rfl := h7 (haf ⟨7, .data⟩ (by simp) rfl)
          obtain rfl := h10 (haf ⟨10, .data⟩ (by simp) rfl)
          obtain rfl := h13 (haf ⟨13, .data⟩ (by simp) rfl)
          obtain rfl := h16 (haf ⟨16, .data⟩ (by simp) rfl)
          go_wp2
          rw [HR2.out]
          exact ⟨e, _, _, _, _, _, _, _, _, _, _, _, _, _, _, _, _, _, _, _, _, _, _, rfl, rfl, h0, h1, h2, h3, h4, h5, h6, fun _ => rfl, h8, h9, fun _ => rfl, h11, h12, fun _ => rfl, h14, h15, fun _ => rfl, fun _ => rfl, h18, h19, h20, h21, hown⟩
        · obtain rfl := h17 (haf ⟨17, .data⟩ (by simp) rfl)
          go_wp2
          rw [HR2.out]
          exact ⟨⟨_, grown_alloc e.g (.cells (#[.string s1, .int .i64 x0, .int .i64 x1, .int .i64 x2] : Array Value) 28)⟩, _, _, _, _, _, _, _, _, _, _, _, _, _, _, _, _, _, _, _, _, _, _, rfl, rfl, h0, h1, h2, h3, h4, h5, h6, h7, h8, h9, h10, h11, h12, h13, h14, h15, h16, fun _ => rfl, fun _ _ => Lib.hid ⟨_, rfl, NewBlk.new hse⟩, fun y => Lib.hid ⟨(h19 y).out.1, (h19 y).out.2.1.alloc _, (h19 y).out.2.2⟩, h20, h21, fun y => Lib.hid ((hown y).out.alloc _)⟩
        · obtain rfl := h4 (haf ⟨4, .data⟩ (by simp) rfl)
          obtain ⟨gb, rfl, hnb⟩ := (h18 (haf ⟨18, .data⟩ (by simp) rfl) hLi).out
          have ho0 := (hown hLi).out
          go_wp2_with (at_builtin; refine wpList_appendL rfl _ _ 45 rfl B 28 _ 4 40 elemGa _ _ _ rfl ho0 _ 1 _ _ rfl (hnb.src rfl) (by simp [Value.oneCell']) (by omega) (by omega) ?_; intro v6 w6 hown6 hb6 hsz6 hg6 hblk6; have HF6 := Lib.hid (show (∃ A c, v6 = Value.slice A (ng + 1) c) ∧ w6.ownsRow B 28 4 v6 (ng + 1) (q.gs.flatMap encG ++ (#[.string s1, .int .i64 x0, .int .i64 x1, .int .i64 x2] : Array Value).toList) ∧ (v6.ownBlock = (.slice GA ng GC : Value).ownBlock ∨ ∃ k, v6.ownBlock = some k ∧ w3.heap.size ≤ k) ∧ e.w.grownBy w6 (.slice GA ng GC : Value).ownBlock from ⟨(by obtain ⟨A, c, h1, _, _⟩ := own_cap' hown6; exact ⟨A, c, h1⟩), hown6, (hblk6.imp id fun ⟨k, h1, h2⟩ => ⟨k, h1, Nat.le_trans hse h2⟩), hg6⟩); clear hown6 hb6 hsz6 hg6 hblk6)
          rw [HR2.out]
          exact ⟨⟨_, grown_trans e.g HF6.out.2.2.2⟩, _, _, _, _, _, _, _, _, _, _, _, _, _, _, _, _, _, _, _, _, _, _, rfl, rfl, h0, h1, h2, h3, fun _ => rfl, h5, h6, h7, h8, h9, h10, h11, h12, h13, h14, h15, h16, h17, fun _ y => absurd y (by simp), fun _ => Lib.hid ⟨HF6.out.1, HF6.out.2.1, HF6.out.2.2.1⟩, h20, h21, fun y => absurd y (by simp)⟩
        · obtain rfl := h0 (haf ⟨0, .data⟩ (by simp) rfl)
          go_wp2
          rw [HR2.out]
          exact ⟨e, _, _, _, _, _, _, _, _, _, _, _, _, _, _, _, _, _, _, _, _, _, _, rfl, rfl, fun _ => rfl, h1, h2, h3, h4, h5, h6, h7, h8, h9, h10, h11, h12, h13, h14, h15, h16, h17, h18, h19, fun _ => rfl, h21, hown⟩
        · obtain rfl := h20 (haf ⟨20, .data⟩ (by simp) rfl)
          go_wp2
          rw [HR2.out]
          exact ⟨e, _, _, _, _, _, _, _, _, _, _, _, _, _, _, _, _, _, _, _, _, _, _, rfl, rfl, h0, h1, h2, h3, h4, h5, h6, h7, h8, h9, h10, h11, h12, h13, h14, h15, h16, h17, h18, h19, fun _ => rfl, fun _ => rfl, hown⟩
      · rintro L a' w' hL hInv
        rw [HR2.out] at hInv
        obtain ⟨e, v40, v41, v42, v43, v44, v45, v46, v47, v48, v49, v50, v51, v52, v53, v54, v55, v56, v57, v58, v59, v60, v61, rfl, rfl, h0, h1, h2, h3, h4, h5, h6, h7, h8, h9, h10, h11, h12, h13, h14, h15, h16, h17, h18, h19, h20, h21, hown⟩ := hInv
        obtain rfl := h0 (hL 0 (by omega))
        obtain rfl := h1 (hL 1 (by omega))
        obtain rfl := h2 (hL 2 (by omega))
        obtain rfl := h3 (hL 3 (by omega))
        obtain rfl := h4 (hL 4 (by omega))
        obtain rfl := h5 (hL 5 (by omega))
        obtain rfl := h6 (hL 6 (by omega))
        obtain rfl := h7 (hL 7 (by omega))
        obtain rfl := h8 (hL 8 (by omega))
        obtain rfl := h9 (hL 9 (by omega))
        obtain rfl := h10 (hL 10 (by omega))
        obtain rfl := h11 (hL 11 (by omega))
        obtain rfl := h12 (hL 12 (by omega))
        obtain rfl := h13 (hL 13 (by omega))
        obtain rfl := h14 (hL 14 (by omega))
        obtain rfl := h15 (hL 15 (by omega))
        obtain rfl := h16 (hL 16 (by omega))
        obtain rfl := h17 (hL 17 (by omega))
        obtain ⟨⟨An, cn, rfl⟩, hoN, hbN⟩ := (h19 (hL 19 (by omega))).out
        obtain rfl := h20 (hL 20 (by omega))
        obtain rfl := h21 (hL 21 (by omega))
        have hse : w3.heap.size ≤ e.w.heap.size := e.g.size
        clear h0 h1 h2 h3 h4 h5 h6 h7 h8 h9 h10 h11 h12 h13 h14 h15 h16 h17 h18 h19 h20 h21 hown hL HR2
        have hoqE := own_kind Hoq3.out HoG.out e.g (by decide)
        have hcL : e.w.cell? ⟨qb, (mq - 1) * 7 + 6, none⟩ = some (.slice GA ng GC) := y0 e
        have hfL : e.w.frozen? ⟨qb, (mq - 1) * 7 + 6, none⟩ = false := hoqE.frozenAt _
        obtain ⟨csq, hcsq⟩ := owns_block hoqE qb rfl
        have hLe : e.w.heap[lb]? = w3.heap[lb]? := e.g.block lb (by omega) r0
        have hqlb : lb ≠ qb := fun h => by
          have h1 := hLe.trans HL3.out
          rw [h, hcsq] at h1
          simp only [Option.some.injEq, Obj.cells.injEq] at h1
          exact absurd h1.2.1 (by decide)
        have Hcsq := Lib.hid hcsq
        have HLe := Lib.hid hLe
        have HqE := Lib.hid hoqE
        have HoN := Lib.hid hoN
        have HbN := Lib.hid hbN
        clear y0 y1 z0 z1 z2 hoN hbN hoqE hcsq hLe
        go_wp2
        go_end0
        show LnG _ _ _ _ _ _ _ _ _
        refine ⟨((Hb3.out.mono (by omega)).grown e.g (by omega) (fun k hk => (HoG.out.lt k hk).1)).setCell (p := ⟨qb, (mq - 1) * 7 + 6, none⟩) hqb _, KeepO.fin Hb3.out HoG.out (.inr (.inl rfl)) e.g (.inr (by obtain ⟨cs, hc⟩ := owns_block Hoq3.out qb rfl; exact ⟨cs, _, hc, .inl rfl⟩)), .inr ⟨⟨rfl, HLt.out⟩, [x0, x1, x2], An, cn, qi, q, Hns.out, Hp.out, rfl, ?_, ?_⟩⟩
        · have e1 : (qi ++ [({ q with gA := An, gc := cn, gs := q.gs ++ [lineG ws [x0, x1, x2]] } : Quantity)]).length = p.qs.length := by rw [Hp.out]; simp
          show (e.w.setCell ⟨qb, (mq - 1) * 7 + 6, none⟩ _).heap[lb]? = some (.cells #[.slice p.qA (qi ++ [({ q with gA := An, gc := cn, gs := q.gs ++ [lineG ws [x0, x1, x2]] } : Quantity)]).length p.qc, _, _, _] _ _)
          rw [e1, heap_setCell_other _ _ _ _ hqlb, HLe.out]
          exact HL3.out
        · have hgl : (q.gs ++ [lineG ws [x0, x1, x2]]).length = ng + 1 := by rw [Hng.out]; simp
          have hge : (q.gs ++ [lineG ws [x0, x1, x2]]).flatMap encG = q.gs.flatMap encG ++ [.string s1, .int .i64 x0, .int .i64 x1, .int .i64 x2] := by rw [List.flatMap_append, ← Hs1.out]; rfl
          refine OwnP.addG (w := w3) (w' := e.w.setCell ⟨qb, (mq - 1) * 7 + 6, none⟩ _) (p := p) (gs := q.gs ++ [lineG ws [x0, x1, x2]]) HO3.out Hp.out ?_ ?_ ?_ ?_ ?_
          · have h1 := (HqE.out.stored ((mq - 1) * 7 + 6) (.slice An (ng + 1) cn)).1
            rw [← HqA.out, Hmq.out, Hp.out, show ((qi ++ [q]).length - 1) * 7 + 6 = 7 * qi.length + 6 by simp [Nat.mul_comm], ← hgl, setQ] at h1
            rw [Hmq.out, Hp.out, show ((qi ++ [q]).length - 1) * 7 + 6 = 7 * qi.length + 6 by simp [Nat.mul_comm], ← hgl]
            exact h1
          · rw [hgl, hge]
            exact own_setK HoN.out Hcsq.out (by decide) _
          · rw [hgl, HGA.out, HGC.out, ← Hng.out]
            exact HbN.out
          · intro t size v n xs hk hne hbk hv
            refine own_setK (hv.kept e.g ?_) Hcsq.out (fun h => hne h.symm) _
            cases hvb : v.ownBlock with
            | none => exact .inl rfl
            | some k =>
              refine .inr fun h => hbk k hvb ?_
              rw [HGA.out, HGC.out, ← Hng.out]
              exact h.symm
          · intro t size v n xs hk hne hne2 hv
            exact own_setK (own_kind hv HoG.out e.g hne2) Hcsq.out (fun h => hne h.symm) _
  · have HLt := Lib.hid (show last.toList = wQ ∨ last.toList = wG from .inl (eq_of_beq hq))
    have hn1 := Hmain.out HLt.out
    go_enter Tryz.func81, Tryz.ntmps81
    go_wp2_with (go_at_call 78; fail)
    refine (HDo.out _).mono ?_
    rintro r w1 ⟨rfl, hb1⟩
    have Hb1 := Lib.hid hb1
    have hs1 := hb1.size
    have HW1 := Lib.hid (show WordsAt w1 bw ws from (hb1.block bw hbw).trans HW.out)
    have HL1 := Lib.hid (show LinesAt w1 lb p last from (hb1.block lb hLw).trans HL.out)
    have HNu := Lib.hid (numbers_any (ws.drop 2) (some ⟨bw, 2, none⟩) 3 3 B w1 (by rw [List.length_drop, ← Hn.out]) HW1.out.sl (fun s h => Hs.out s (List.mem_of_mem_drop h)) (by decide) (HE.out.on (hb1.mono (by omega)) (Nat.le_refl _)) (by omega))
    clear hb1 l0 l1 l2 l3
    go_wp2_with (go_at_call 108; fail)
    refine HNu.out.mono ?_
    rintro r w2 ⟨hb2, (⟨ns, v, hns, rfl, hov⟩ | ⟨hno, rfl⟩)⟩
    rotate_left
    · exact ⟨rfl, show LnG _ _ _ _ _ _ _ _ _ from ⟨(Hb1.out.trans (hb2.mono hs1)).mono (by omega), KeepO.of_below (Hb1.out.trans (hb2.mono hs1)), .inl ⟨rfl, .inr hno⟩⟩⟩
    have hl5 : ns.length = 3 := by rw [numsB_len hns, List.length_map, List.length_drop, ← Hn.out]
    obtain ⟨x0, x1, x2, rfl⟩ := three hl5
    obtain ⟨bi, ci, rfl, hbi, hbiw, hci1, hci2, hcell⟩ := owns_cells hov (Nat.succ_pos _)
    have n0 : w2.cell? ⟨bi, 0, none⟩ = some (.int .i64 x0) := hcell 0 _ rfl
    have n1 : w2.cell? ⟨bi, 1, none⟩ = some (.int .i64 x1) := hcell 1 _ rfl
    have n2 : w2.cell? ⟨bi, 2, none⟩ = some (.int .i64 x2) := hcell 2 _ rfl
    have Hb2 := Lib.hid ((Hb1.out.trans (hb2.mono hs1)))
    have hs2 := hb2.size
    have HW2 := Lib.hid (show WordsAt w2 bw ws from (hb2.block bw (by omega)).trans HW1.out)
    have HL2 := Lib.hid (show LinesAt w2 lb p last from (hb2.block lb (by omega)).trans HL1.out)
    have Hns := Lib.hid hns
    have Hov := Lib.hid hov
    obtain ⟨l0, l1, l2, l3⟩ := HL2.out.cells
    rw [← Hmq.out] at l0
    have h1l : 1 < ws.length := by have := Hn.out; omega
    have c1 := HW2.out.cell h1l
    obtain ⟨s1, hs1'⟩ : ∃ s, s = ws[1] := ⟨_, rfl⟩
    rw [← hs1'] at c1
    have Hs1 := Lib.hid (show ws.getD 1 default = s1 by rw [hs1']; exact getD_lt h1l)
    have HO2 := Lib.hid (HO.out.below Hb2.out)
    have hoq := HO2.out.q
    rw [← Hmq.out] at hoq
    obtain ⟨qb, qcc, hqv, hqb, hqw, hqc1, hqc2, hqcell⟩ := owns_cellsN hoq (by omega)
    simp only [Value.slice.injEq] at hqv
    obtain ⟨hqA, -, -⟩ := hqv
    rw [hqA] at l0
    have Hoq := Lib.hid hoq
    clear hcell hov hns hb2 HNu hs1' l1 l2 l3 hl5 hoq
    go_wp2
    go_quiet (fail)
    go_wp2
    have hb3 := below_drewN' w2 nq
    revert hb3
    generalize w2.drewN nq = w3
    intro hb3
    have hs3 := hb3.size
    have m0 := (World.cell?_of_block (a := ⟨bi, 0, none⟩) (hb3.block bi hbiw)).trans n0
    have m1 := (World.cell?_of_block (a := ⟨bi, 1, none⟩) (hb3.block bi hbiw)).trans n1
    have m2 := (World.cell?_of_block (a := ⟨bi, 2, none⟩) (hb3.block bi hbiw)).trans n2
    have d1 := (World.cell?_of_block (a := ⟨bw, 1, none⟩) (hb3.block bw (by omega))).trans c1
    have Hov3 := Lib.hid (own_below Hov.out hb3)
    have HW3 := Lib.hid (show WordsAt w3 bw ws from (hb3.block bw (by omega)).trans HW2.out)
    have HL3 := Lib.hid (show LinesAt w3 lb p last from (hb3.block lb (by omega)).trans HL2.out)
    have HO3 := Lib.hid (HO2.out.below hb3)
    have Hoq3 := Lib.hid (own_below Hoq.out hb3)
    have Hb3 := Lib.hid (Hb2.out.trans (hb3.mono (by omega)))
    rw [hqA] at Hoq3
    have HqA := Lib.hid hqA
    have hpne : p.qs ≠ [] := fun h => by have h2 := Hmq.out; rw [h] at h2; simp at h2; omega
    obtain ⟨qi, q, hp⟩ : ∃ qi q, p.qs = qi ++ [q] := ⟨p.qs.dropLast, p.qs.getLast hpne, (List.dropLast_concat_getLast hpne).symm⟩
    have hqil : qi.length = mq - 1 := by have h2 := Hmq.out; rw [hp] at h2; simp at h2; omega
    obtain ⟨ng, hng⟩ : ∃ k, k = q.gs.length := ⟨_, rfl⟩
    obtain ⟨GA, hGA⟩ : ∃ k, q.gA = k := ⟨_, rfl⟩
    obtain ⟨GC, hGC⟩ : ∃ k, q.gc = k := ⟨_, rfl⟩
    have hng2 : ng ≤ 1000000 := by rw [hng]; exact Hlg.out q (by rw [hp]; simp)
    have g0 : w3.cell? ⟨qb, (mq - 1) * 7 + 6, none⟩ = some (.slice GA ng GC) := by
      refine (World.cell?_of_block (a := ⟨qb, (mq - 1) * 7 + 6, none⟩) (hb3.block qb hqw)).trans (hqcell _ _ ?_)
      rw [hp, ← hqil, Nat.mul_comm, lastQ, ← hGA, ← hGC, hng]
      rfl
    have hoG : w3.ownsRow B 28 4 (.slice GA ng GC) ng (q.gs.flatMap encG) := by
      have h1 := HO3.out.g qi.length (by rw [hp]; simp)
      have h2 : p.qs[qi.length]'(by rw [hp]; simp) = q := by simp [hp]
      rw [h2, hGA, hGC, ← hng] at h1
      exact h1
    have r0 := row_ne (k := lb) hoG HL3.out (fun cs h => by cases h)
    have r1 := row_ne (k := bw) hoG HW3.out (fun cs h => by cases h)
    have r2 : some bi ≠ (Value.slice GA ng GC).ownBlock := by
      obtain ⟨cs, hc⟩ := owns_block Hov3.out bi rfl
      exact row_ne hoG hc (fun cs h => by cases h)
    have r3 : some qb ≠ (Value.slice GA ng GC).ownBlock := by
      obtain ⟨cs, hc⟩ := owns_block Hoq3.out qb rfl
      exact row_ne hoG hc (fun cs h => by cases h)
    have HoG := Lib.hid hoG
    have y0 := glater_cell g0 (by omega) r3
    have y1 := glater_cell d1 (by omega) r1
    have z0 := glater_cell m0 (by omega) r2
    have z1 := glater_cell m1 (by omega) r2
    have z2 := glater_cell m2 (by omega) r2
    have Hp := Lib.hid hp
    have Hng := Lib.hid hng
    have HGA := Lib.hid hGA
    have HGC := Lib.hid hGC
    clear hqcell l0 c1 n0 n1 n2 m0 m1 m2 d1 g0 hoG hp hng hGA hGC hqA hpne hb3 hqil
    have hxR3 : ∃ R : (Nat → Bool) → Act → World → Prop, R = fun L a' w' => ∃ (e : GLater w3 ((.slice GA ng GC : Value).ownBlock)) (v40 v41 v42 v43 v44 v45 v46 v47 v48 v49 v50 v51 v52 v53 v54 v55 v56 v57 v58 v59 v60 v61 : Value), w' = e.w ∧ a' = { tmps := #[Value.pointer (some { block := lb, off := 0 }), Value.slice (some { block := bw, off := 0 }) 5 5, undef, undef, Value.slice (some { block := bi, off := 0 }) 3 ci, Value.pointer (some { block := qb, off := (mq - 1) * 7 }), Value.slice (some { block := bw, off := 0 }) 5 5, Value.int IntKind.i64 5, Value.bool true, Value.bool true, Value.pointer (some { block := lb, off := 0 }), Value.pointer (some { block := lb, off := 0 }), Value.pointer (some { block := lb, off := 3 }), Value.string last, Value.bool true, Value.bool true, undef, undef, undef, undef, undef, Value.bool true, Value.bool true, Value.tuple #[], Value.slice (some { block := bw, off := 0 }) 5 5, Value.slice (some { block := bw, off := 2 }) 3 3, Value.slice (some { block := bi, off := 0 }) 3 ci, Value.pointer (some { block := lb, off := 0 }), Value.pointer (some { block := lb, off := 0 }), Value.pointer (some { block := lb, off := 0 }), Value.pointer (some { block := lb, off := 0 }), Value.slice (some { block := qb, off := 0 }) mq p.qc, Value.pointer (some { block := lb, off := 0 }), Value.pointer (some { block := lb, off := 0 }), Value.pointer (some { block := lb, off := 0 }), Value.pointer (some { block := lb, off := 0 }), Value.slice (some { block := qb, off := 0 }) mq p.qc, Value.int IntKind.i64 ↑mq, Value.int IntKind.i64 (↑mq - 1), Value.pointer (some { block := qb, off := (mq - 1) * 7 }), v40, v41, v42, v43, v44, v45, v46, v47, v48, v49, v50, v51, v52, v53, v54, v55, v56, v57, v58, v59, v60, v61], defers := [] } ∧ (L 0 = true → v40 = .pointer (some ⟨qb, (mq - 1) * 7, none⟩)) ∧ (L 1 = true → v41 = .pointer (some ⟨qb, (mq - 1) * 7, none⟩)) ∧ (L 2 = true → v42 = .pointer (some ⟨qb, (mq - 1) * 7, none⟩)) ∧ (L 3 = true → v43 = .pointer (some ⟨qb, (mq - 1) * 7 + 6, none⟩)) ∧ (L 4 = true → v44 = .slice GA ng GC) ∧ (L 5 = true → v45 = .slice (some ⟨bw, 0, none⟩) 5 5) ∧ (L 6 = true → v46 = .pointer (some ⟨bw, 1, none⟩)) ∧ (L 7 = true → v47 = .string s1) ∧ (L 8 = true → v48 = .slice (some ⟨bi, 0, none⟩) 3 ci) ∧ (L 9 = true → v49 = .pointer (some ⟨bi, 0, none⟩)) ∧ (L 10 = true → v50 = .int .i64 x0) ∧ (L 11 = true → v51 = .slice (some ⟨bi, 0, none⟩) 3 ci) ∧ (L 12 = true → v52 = .pointer (some ⟨bi, 1, none⟩)) ∧ (L 13 = true → v53 = .int .i64 x1) ∧ (L 14 = true → v54 = .slice (some ⟨bi, 0, none⟩) 3 ci) ∧ (L 15 = true → v55 = .pointer (some ⟨bi, 2, none⟩)) ∧ (L 16 = true → v56 = .int .i64 x2) ∧ (L 17 = true → v57 = .agg #[.string s1, .int .i64 x0, .int .i64 x1, .int .i64 x2]) ∧ (L 18 = true → L 19 = false → Hid (∃ gb, v58 = .slice (some ⟨gb, 0, none⟩) 1 1 ∧ NewBlk w3 e.w gb (#[.string s1, .int .i64 x0, .int .i64 x1, .int .i64 x2] : Array Value) 28)) ∧ (L 19 = true → Hid ((∃ A c, v59 = .slice A (ng + 1) c) ∧ e.w.ownsRow B 28 4 v59 (ng + 1) (q.gs.flatMap encG ++ (#[.string s1, .int .i64 x0, .int .i64 x1, .int .i64 x2] : Array Value).toList) ∧ (v59.ownBlock = (.slice GA ng GC : Value).ownBlock ∨ ∃ k, v59.ownBlock = some k ∧ w3.heap.size ≤ k))) ∧ (L 20 = true → v60 = .pointer (some ⟨qb, (mq - 1) * 7, none⟩)) ∧ (L 21 = true → v61 = .pointer (some ⟨qb, (mq - 1) * 7 + 6, none⟩)) ∧ (L 19 = false → Hid (e.w.ownsRow B 28 4 (.slice GA ng GC) (ng) (q.gs.flatMap encG))) := ⟨_, rfl⟩
    obtain ⟨R3, hR3⟩ := hxR3
    have HR3 := Lib.hid hR3
    clear hR3
    refine wp_region_inv 22 R3 (by kernel_rfl) (by kernel_rfl) (by kernel_rfl) (by kernel_rfl) (by decide) (by kernel_rfl) ?_ ?_ ?_
    · rw [HR3.out]
      exact ⟨⟨{ w3 with drawn := w3.drawn + 1 }, ⟨rfl, rfl, rfl, Nat.le_refl _, fun _ _ _ => rfl⟩⟩, _, _, _, _, _, _, _, _, _, _, _, _, _, _, _, _, _, _, _, _, _, _, rfl, rfl, fun z => (Bool.false_ne_true z).elim, fun z => (Bool.false_ne_true z).elim, fun z => (Bool.false_ne_true z).elim, fun z => (Bool.false_ne_true z).elim, fun z => (Bool.false_ne_true z).elim, fun z => (Bool.false_ne_true z).elim, fun z => (Bool.false_ne_true z).elim, fun z => (Bool.false_ne_true z).elim, fun z => (Bool.false_ne_true z).elim, fun z => (Bool.false_ne_true z).elim, fun z => (Bool.false_ne_true z).elim, fun z => (Bool.false_ne_true z).elim, fun z => (Bool.false_ne_true z).elim, fun z => (Bool.false_ne_true z).elim, fun z => (Bool.false_ne_true z).elim, fun z => (Bool.false_ne_true z).elim, fun z => (Bool.false_ne_true z).elim, fun z => (Bool.false_ne_true z).elim, fun z => (Bool.false_ne_true z).elim, fun z => (Bool.false_ne_true z).elim, fun z => (Bool.false_ne_true z).elim, fun z => (Bool.false_ne_true z).elim, fun _ => Lib.hid HoG.out⟩
    · rintro L a' w' i o hi ho hLi haf hInv
      rw [HR3.out] at hInv
      obtain ⟨e, v40, v41, v42, v43, v44, v45, v46, v47, v48, v49, v50, v51, v52, v53, v54, v55, v56, v57, v58, v59, v60, v61, rfl, rfl, h0, h1, h2, h3, h4, h5, h6, h7, h8, h9, h10, h11, h12, h13, h14, h15, h16, h17, h18, h19, h20, h21, hown⟩ := hInv
      have hse : w3.heap.size ≤ e.w.heap.size := e.g.size
      rcases i with _ | _ | _ | _ | _ | _ | _ | _ | _ | _ | _ | _ | _ | _ | _ | _ | _ | _ | _ | _ | _ | _ | i
      case succ.succ.succ.succ.succ.succ.succ.succ.succ.succ.succ.succ.succ.succ.succ.succ.succ.succ.succ.succ.succ.succ => omega
      all_goals (simp only [List.getElem?_cons_zero, List.getElem?_cons_succ, Option.some.injEq] at ho; subst ho)
      · go_wp2
        rw [HR3.out]
        exact ⟨e, _, _, _, _, _, _, _, _, _, _, _, _, _, _, _, _, _, _, _, _, _, _, rfl, rfl, fun _ => rfl, h1, h2, h3, h4, h5, h6, h7, h8, h9, h10, h11, h12, h13, h14, h15, h16, h17, h18, h19, h20, h21, hown⟩
      · go_wp2
        rw [HR3.out]
        exact ⟨e, _, _, _, _, _, _, _, _, _, _, _, _, _, _, _, _, _, _, _, _, _, _, rfl, rfl, h0, fun _ => rfl, h2, h3, h4, h5, h6, h7, h8, h9, h10, h11, h12, h13, h14, h15, h16, h17, h18, h19, h20, h21, hown⟩
      · obtain rfl := h1 (haf ⟨1, .data⟩ (by simp) rfl)
        go_wp2
        rw [HR3.out]
        exact ⟨e, _, _, _, _, _, _, _, _, _, _, _, _, _, _, _, _, _, _, _, _, _, _, rfl, rfl, h0, fun _ => rfl, fun _ => rfl, h3, h4, h5, h6, h7, h8, h9, h10, h11, h12, h13, h14, h15, h16, h17, h18, h19, h20, h21, hown⟩
      · obtain rfl := h2 (haf ⟨2, .data⟩ (by simp) rfl)
        go_wp2
        rw [HR3.out]
        exact ⟨e, _, _, _, _, _, _, _, _, _, _, _, _, _, _, _, _, _, _, _, _, _, _, rfl, rfl, h0, h1, fun _ => rfl, fun _ => rfl, h4, h5, h6, h7, h8, h9, h10, h11, h12, h13, h14, h15, h16, h17, h18, h19, h20, h21, hown⟩
      · obtain rfl := h3 (haf ⟨3, .data⟩ (by simp) rfl)
        go_wp2
        rw [HR3.out]
        exact ⟨e, _, _, _, _, _, _, _, _, _, _, _, _, _, _, _, _, _, _, _, _, _, _, rfl, rfl, h0, h1, h2, fun _ => rfl, fun _ => rfl, h5, h6, h7, h8, h9, h10, h11, h12, h13, h14, h15, h16, h17, h18, h19, h20, h21, hown⟩
      · go_wp2
        rw [HR3.out]
        exact ⟨e, _, _, _, _, _, _, _, _, _, _, _, _, _, _, _, _, _, _, _, _, _, _, rfl, rfl, h0, h1, h2, h3, h4, fun _ => rfl, h6, h7, h8, h9, h10, h11, h12, h13, h14, h15, h16, h17, h18, h19, h20, h21, hown⟩
      · obtain rfl := h5 (haf ⟨5, .data⟩ (by simp) rfl)
        go_wp2
        rw [HR3.out]
        exact ⟨e, _, _, _, _, _, _, _, _, _, _, _, _, _, _, _, _, _, _, _, _, _, _, rfl, rfl, h0, h1, h2, h3, h4, fun _ => rfl, fun _ => rfl, h7, h8, h9, h10, h11, h12, h13, h14, h15, h16, h17, h18, h19, h20, h21, hown⟩
      · obtain rfl := h6 (haf ⟨6, .data⟩ (by simp) rfl)
        go_wp2
        rw [HR3.out]
        exact ⟨e, _, _, _, _, _, _, _, _, _, _, _, _, _, _, _, _, _, _, _, _, _, _, rfl, rfl, h0, h1, h2, h3, h4, h5, fun _ => rfl, fun _ => rfl, h8, h9, h10, h11, h12, h13, h14, h15, h16, h17, h18, h19, h20, h21, hown⟩
      · go_wp2
        rw [HR3.out]
        exact ⟨e, _, _, _, _, _, _, _, _, _, _, _, _, _, _, _, _, _, _, _, _, _, _, rfl, rfl, h0, h1, h2, h3, h4, h5, h6, h7, fun _ => rfl, h9, h10, h11, h12, h13, h14, h15, h16, h17, h18, h19, h20, h21, hown⟩
      · obtain rfl := h8 (haf ⟨8, .data⟩ (by simp) rfl)
        go_wp2
        rw [HR3.out]
        exact ⟨e, _, _, _, _, _, _, _, _, _, _, _, _, _, _, _, _, _, _, _, _, _, _, rfl, rfl, h0, h1, h2, h3, h4, h5, h6, h7, fun _ => rfl, fun _ => rfl, h10, h11, h12, h13, h14, h15, h16, h17, h18, h19, h20, h21, hown⟩
      · obtain rfl := h9 (haf ⟨9, .data⟩ (by simp) rfl)
        go_wp2
        rw [HR3.out]
        exact ⟨e, _, _, _, _, _, _, _, _, _, _, _, _, _, _, _, _, _, _, _, _, _, _, rfl, rfl, h0, h1, h2, h3, h4, h5, h6, h7, h8, fun _ => rfl, fun _ => rfl, h11, h12, h13, h14, h15, h16, h17, h18, h19, h20, h21, hown⟩
      · go_wp2
        rw [HR3.out]
        exact ⟨e, _, _, _, _, _, _, _, _, _, _, _, _, _, _, _, _, _, _, _, _, _, _, rfl, rfl, h0, h1, h2, h3, h4, h5, h6, h7, h8, h9, h10, fun _ => rfl, h12, h13, h14, h15, h16, h17, h18, h19, h20, h21, hown⟩
      · obtain rfl := h11 (haf ⟨11, .data⟩ (by simp) rfl)
        go_wp2
        rw [HR3.out]
        exact ⟨e, _, _, _, _, _, _, _, _, _, _, _, _, _, _, _, _, _, _, _, _, _, _, rfl, rfl, h0, h1, h2, h3, h4, h5, h6, h7, h8, h9, h10, fun _ => rfl, fun _ => rfl, h13, h14, h15, h16, h17, h18, h19, h20, h21, hown⟩
      · obtain rfl := h12 (haf ⟨12, .data⟩ (by simp) rfl)
        go_wp2
        rw [HR3.out]
        exact ⟨e, _, _, _, _, _, _, _, _, _, _, _, _, _, _, _, _, _, _, _, _, _, _, rfl, rfl, h0, h1, h2, h3, h4, h5, h6, h7, h8, h9, h10, h11, fun _ => rfl, fun _ => rfl, h14, h15, h16, h17, h18, h19, h20, h21, hown⟩
      · go_wp2
        rw [HR3.out]
        exact ⟨e, _, _, _, _, _, _, _, _, _, _, _, _, _, _, _, _, _, _, _, _, _, _, rfl, rfl, h0, h1, h2, h3, h4, h5, h6, h7, h8, h9, h10, h11, h12, h13, fun _ => rfl, h15, h16, h17, h18, h19, h20, h21, hown⟩
      · obtain rfl := h14 (haf ⟨14, .data⟩ (by simp) rfl)
        go_wp2
        rw [HR3.out]
        exact ⟨e, _, _, _, _, _, _, _, _, _, _, _, _, _, _, _, _, _, _, _, _, _, _, rfl, rfl, h0, h1, h2, h3, h4, h5, h6, h7, h8, h9, h10, h11, h12, h13, fun _ => rfl, fun _ => rfl, h16, h17, h18, h19, h20, h21, hown⟩
      · obtain rfl := h15 (haf ⟨15, .data⟩ (by simp) rfl)
        go_wp2
        rw [HR3.out]
        exact ⟨e, _, _, _, _, _, _, _, _, _, _, _, _, _, _, _, _, _, _, _, _, _, _, rfl, rfl, h0, h1, h2, h3, h4, h5, h6, h7, h8, h9, h10, h11, h12, h13, h14, fun _ => rfl, fun _ => rfl, h17, h18, h19, h20, h21, hown⟩
      · obtain rfl := h7 (haf ⟨7, .data⟩ (by simp) rfl)
        obtain rfl := h10 (haf ⟨10, .data⟩ (by simp) rfl)
        obtain rfl := h13 (haf ⟨13, .data⟩ (by simp) rfl)
        obtain rfl := h16 (haf ⟨16, .data⟩ (by simp) rfl)
        go_wp2
        rw [HR3.out]
        exact ⟨e, _, _, _, _, _, _, _, _, _, _, _, _, _, _, _, _, _, _, _, _, _, _, rfl, rfl, h0, h1, h2, h3, h4, h5, h6, fun _ => rfl, h8, h9, fun _ => rfl, h11, h12, fun _ => rfl, h14, h15, fun _ => rfl, fun _ => rfl, h18, h19, h20, h21, hown⟩
      · obtain rfl := h17 (haf ⟨17, .data⟩ (by simp) rfl)
        go_wp2
        rw [HR3.out]
        exact ⟨⟨_, grown_alloc e.g (.cells (#[.string s1, .int .i64 x0, .int .i64 x1, .int .i64 x2] : Array Value) 28)⟩, _, _, _, _, _, _, _, _, _, _, _, _, _, _, _, _, _, _, _, _, _, _, rfl, rfl, h0, h1, h2, h3, h4, h5, h6, h7, h8, h9, h10, h11, h12, h13, h14, h15, h16, fun _ => rfl, fun _ _ => Lib.hid ⟨_, rfl, NewBlk.new hse⟩, fun y => Lib.hid ⟨(h19 y).out.1, (h19 y).out.2.1.alloc _, (h19 y).out.2.2⟩, h20, h21, fun y => Lib.hid ((hown y).out.alloc _)⟩
      · obtain rfl := h4 (haf ⟨4, .data⟩ (by simp) rfl)
        obtain ⟨gb, rfl, hnb⟩ := (h18 (haf ⟨18, .data⟩ (by simp) rfl) hLi).out
        have ho0 := (hown hLi).out
        go_wp2_with (at_builtin; refine wpList_appendL rfl _ _ 45 rfl B 28 _ 4 40 elemGa _ _ _ rfl ho0 _ 1 _ _ rfl (hnb.src rfl) (by simp [Value.oneCell']) (by omega) (by omega) ?_; intro v6 w6 hown6 hb6 hsz6 hg6 hblk6; have HF6 := Lib.hid (show (∃ A c, v6 = Value.slice A (ng + 1) c) ∧ w6.ownsRow B 28 4 v6 (ng + 1) (q.gs.flatMap encG ++ (#[.string s1, .int .i64 x0, .int .i64 x1, .int .i64 x2] : Array Value).toList) ∧ (v6.ownBlock = (.slice GA ng GC : Value).ownBlock ∨ ∃ k, v6.ownBlock = some k ∧ w3.heap.size ≤ k) ∧ e.w.grownBy w6 (.slice GA ng GC : Value).ownBlock from ⟨(by obtain ⟨A, c, h1, _, _⟩ := own_cap' hown6; exact ⟨A, c, h1⟩), hown6, (hblk6.imp id fun ⟨k, h1, h2⟩ => ⟨k, h1, Nat.le_trans hse h2⟩), hg6⟩); clear hown6 hb6 hsz6 hg6 hblk6)
        rw [HR3.out]
        exact ⟨⟨_, grown_trans e.g HF6.out.2.2.2⟩, _, _, _, _, _, _, _, _, _, _, _, _, _, _, _, _, _, _, _, _, _, _, rfl, rfl, h0, h1, h2, h3, fun _ => rfl, h5, h6, h7, h8, h9, h10, h11, h12, h13, h14, h15, h16, h17, fun _ y => absurd y (by simp), fun _ => Lib.hid ⟨HF6.out.1, HF6.out.2.1, HF6.out.2.2.1⟩, h20, h21, fun y => absurd y (by simp)⟩
      · obtain rfl := h0 (haf ⟨0, .data⟩ (by simp) rfl)
        go_wp2
        rw [HR3.out]
        exact ⟨e, _, _, _, _, _, _, _, _, _, _, _, _, _, _, _, _, _, _, _, _, _, _, rfl, rfl, fun _ => rfl, h1, h2, h3, h4, h5, h6, h7, h8, h9, h10, h11, h12, h13, h14, h15, h16, h17, h18, h19, fun _ => rfl, h21, hown⟩
      · obtain rfl := h20 (haf ⟨20, .data⟩ (by simp) rfl)
        go_wp2
        rw [HR3.out]
        exact ⟨e, _, _, _, _, _, _, _, _, _, _, _, _, _, _, _, _, _, _, _, _, _, _, rfl, rfl, h0, h1, h2, h3, h4, h5, h6, h7, h8, h9, h10, h11, h12, h13, h14, h15, h16, h17, h18, h19, fun _ => rfl, fun _ => rfl, hown⟩
    · rintro L a' w' hL hInv
      rw [HR3.out] at hInv
      obtain ⟨e, v40, v41, v42, v43, v44, v45, v46, v47, v48, v49, v50, v51, v52, v53, v54, v55, v56, v57, v58, v59, v60, v61, rfl, rfl, h0, h1, h2, h3, h4, h5, h6, h7, h8, h9, h10, h11, h12, h13, h14, h15, h16, h17, h18, h19, h20, h21, hown⟩ := hInv
      obtain rfl := h0 (hL 0 (by omega))
      obtain rfl := h1 (hL 1 (by omega))
      obtain rfl := h2 (hL 2 (by omega))
      obtain rfl := h3 (hL 3 (by omega))
      obtain rfl := h4 (hL 4 (by omega))
      obtain rfl := h5 (hL 5 (by omega))
      obtain rfl := h6 (hL 6 (by omega))
      obtain rfl := h7 (hL 7 (by omega))
      obtain rfl := h8 (hL 8 (by omega))
      obtain rfl := h9 (hL 9 (by omega))
      obtain rfl := h10 (hL 10 (by omega))
      obtain rfl := h11 (hL 11 (by omega))
      obtain rfl := h12 (hL 12 (by omega))
      obtain rfl := h13 (hL 13 (by omega))
      obtain rfl := h14 (hL 14 (by omega))
      obtain rfl := h15 (hL 15 (by omega))
      obtain rfl := h16 (hL 16 (by omega))
      obtain rfl := h17 (hL 17 (by omega))
      obtain ⟨⟨An, cn, rfl⟩, hoN, hbN⟩ := (h19 (hL 19 (by omega))).out
      obtain rfl := h20 (hL 20 (by omega))
      obtain rfl := h21 (hL 21 (by omega))
      have hse : w3.heap.size ≤ e.w.heap.size := e.g.size
      clear h0 h1 h2 h3 h4 h5 h6 h7 h8 h9 h10 h11 h12 h13 h14 h15 h16 h17 h18 h19 h20 h21 hown hL HR3
      have hoqE := own_kind Hoq3.out HoG.out e.g (by decide)
      have hcL : e.w.cell? ⟨qb, (mq - 1) * 7 + 6, none⟩ = some (.slice GA ng GC) := y0 e
      have hfL : e.w.frozen? ⟨qb, (mq - 1) * 7 + 6, none⟩ = false := hoqE.frozenAt _
      obtain ⟨csq, hcsq⟩ := owns_block hoqE qb rfl
      have hLe : e.w.heap[lb]? = w3.heap[lb]? := e.g.block lb (by omega) r0
      have hqlb : lb ≠ qb := fun h => by
        have h1 := hLe.trans HL3.out
        rw [h, hcsq] at h1
        simp only [Option.some.injEq, Obj.cells.injEq] at h1
        exact absurd h1.2.1 (by decide)
      have Hcsq := Lib.hid hcsq
      have HLe := Lib.hid hLe
      have HqE := Lib.hid hoqE
      have HoN := Lib.hid hoN
      have HbN := Lib.hid hbN
      clear y0 y1 z0 z1 z2 hoN hbN hoqE hcsq hLe
      go_wp2
      go_end0
      show LnG _ _ _ _ _ _ _ _ _
      refine ⟨((Hb3.out.mono (by omega)).grown e.g (by omega) (fun k hk => (HoG.out.lt k hk).1)).setCell (p := ⟨qb, (mq - 1) * 7 + 6, none⟩) hqb _, KeepO.fin Hb3.out HoG.out (.inr (.inl rfl)) e.g (.inr (by obtain ⟨cs, hc⟩ := owns_block Hoq3.out qb rfl; exact ⟨cs, _, hc, .inl rfl⟩)), .inr ⟨⟨rfl, HLt.out⟩, [x0, x1, x2], An, cn, qi, q, Hns.out, Hp.out, rfl, ?_, ?_⟩⟩
      · have e1 : (qi ++ [({ q with gA := An, gc := cn, gs := q.gs ++ [lineG ws [x0, x1, x2]] } : Quantity)]).length = p.qs.length := by rw [Hp.out]; simp
        show (e.w.setCell ⟨qb, (mq - 1) * 7 + 6, none⟩ _).heap[lb]? = some (.cells #[.slice p.qA (qi ++ [({ q with gA := An, gc := cn, gs := q.gs ++ [lineG ws [x0, x1, x2]] } : Quantity)]).length p.qc, _, _, _] _ _)
        rw [e1, heap_setCell_other _ _ _ _ hqlb, HLe.out]
        exact HL3.out
      · have hgl : (q.gs ++ [lineG ws [x0, x1, x2]]).length = ng + 1 := by rw [Hng.out]; simp
        have hge : (q.gs ++ [lineG ws [x0, x1, x2]]).flatMap encG = q.gs.flatMap encG ++ [.string s1, .int .i64 x0, .int .i64 x1, .int .i64 x2] := by rw [List.flatMap_append, ← Hs1.out]; rfl
        refine OwnP.addG (w := w3) (w' := e.w.setCell ⟨qb, (mq - 1) * 7 + 6, none⟩ _) (p := p) (gs := q.gs ++ [lineG ws [x0, x1, x2]]) HO3.out Hp.out ?_ ?_ ?_ ?_ ?_
        · have h1 := (HqE.out.stored ((mq - 1) * 7 + 6) (.slice An (ng + 1) cn)).1
          rw [← HqA.out, Hmq.out, Hp.out, show ((qi ++ [q]).length - 1) * 7 + 6 = 7 * qi.length + 6 by simp [Nat.mul_comm], ← hgl, setQ] at h1
          rw [Hmq.out, Hp.out, show ((qi ++ [q]).length - 1) * 7 + 6 = 7 * qi.length + 6 by simp [Nat.mul_comm], ← hgl]
          exact h1
        · rw [hgl, hge]
          exact own_setK HoN.out Hcsq.out (by decide) _
        · rw [hgl, HGA.out, HGC.out, ← Hng.out]
          exact HbN.out
        · intro t size v n xs hk hne hbk hv
          refine own_setK (hv.kept e.g ?_) Hcsq.out (fun h => hne h.symm) _
          cases hvb : v.ownBlock with
          | none => exact .inl rfl
          | some k =>
            refine .inr fun h => hbk k hvb ?_
            rw [HGA.out, HGC.out, ← Hng.out]
            exact h.symm
        · intro t size v n xs hk hne hne2 hv
          exact own_setK (own_kind hv HoG.out e.g hne2) Hcsq.out (fun h => hne h.symm) _
end Go.Proofs.YtcgnpndfhhcplaaGreatDoor
