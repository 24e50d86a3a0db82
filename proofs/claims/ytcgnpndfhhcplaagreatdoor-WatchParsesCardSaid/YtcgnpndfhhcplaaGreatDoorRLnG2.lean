/-
  The specification's reader of a line: a line that begins with gauge. Conditions: the parts are the call's own; texts are short.
-/
import Derived.Test.YtcgnpndfhhcplaaGreatDoorRLn0
import Derived.BigQuiet
namespace Go.Proofs.YtcgnpndfhhcplaaGreatDoor
open Go.RowKit W7
attribute [local go_sem] Oper.semAt_some
set_option maxHeartbeats 8000000 in
set_option maxRecDepth 100000 in
theorem refLineG2_any (p : Plan) (last : ByteArray) (ws : List ByteArray) (B bw n c : Nat) (w : World) (hn : n = ws.length) (h1 : 1 ≤ n) (hO : OwnP B w p) (hB : B ≤ w.heap.size) (hW : WordsIn w bw ws) (hl : n ≤ 1000000) (hs : ∀ s ∈ ws, s.size ≤ 1000000) (hne : ∀ j (hj : j < ws.length), (ws[j].toList == []) = false) (hw : ∀ hj : 0 < ws.length, (ws[0].toList == [103, 97, 117, 103, 101]) = true) (hn7 : n = 5) (hlst1 : (last.toList == [113, 117, 97, 110, 116, 105, 116, 121]) = false) (hlst : (last.toList == [103, 97, 117, 103, 101]) = true) (hpq : p.qs ≠ []) (hlq : p.qs.length ≤ 1000000) (hlg : ∀ q ∈ p.qs, q.gs.length ≤ 1000000) :
    Calls Tryz.prog 56 #[planV p, .slice (some ⟨bw, 0, none⟩) n c, .string last] w (LnRef p last ws B w) := by
  have h0 := Lib.hid (no_empty hne)
  have h00 := Lib.hid (show (wordsL ws).headD [] = wG by rw [head_words (by omega)]; exact eq_of_beq (hw (by omega)))
  have Hc := Lib.hid (show ws.length = 5 ∧ (last.toList = wQ ∨ last.toList = wG) from ⟨by omega, .inr (eq_of_beq hlst)⟩)
  have Hpq := Lib.hid hpq
  have Hlg := Lib.hid hlg
  clear hpq hlg
  have hn8 : 5 ≤ n := by omega
  have hn9 : n ≤ 5 := by omega
  have h7 : ((n : Int) == 5) = true := by rw [hn7]; rfl
  clear hn7
  have Hs := Lib.hid hs
  have Hne := Lib.hid hne
  have Hw := Lib.hid hw
  clear hs hne hw
  obtain ⟨nm, hnm⟩ : ∃ k, k = p.ms.length := ⟨_, rfl⟩
  obtain ⟨na, hna⟩ : ∃ k, k = p.al.length := ⟨_, rfl⟩
  have hs0 := entryW_size w p
  obtain ⟨W0, hW0⟩ : ∃ W0, W0 = entryW w p := ⟨_, rfl⟩
  rw [← hW0] at hs0
  have HB0 := Lib.hid (show Below w.heap.size w W0 by rw [hW0]; exact entryW_below w p)
  have HBox := Lib.hid (show BoxAt W0 w.heap.size p by rw [hW0]; exact entryW_box w p)
  have HZ := Lib.hid (show W0.heap[w.heap.size + 1]? = some zeroC by rw [hW0]; exact entryW_zero w p)
  have HWs := Lib.hid (hW.of HB0.out)
  have HW0 := Lib.hid hW0
  have HO := Lib.hid hO
  have HW := Lib.hid hW
  have Hn := Lib.hid hn
  have Hnm := Lib.hid hnm
  have Hna := Lib.hid hna
  have hbw := HWs.out.lt
  clear hO hW hn hW0 hnm hna
  unfold planV
  go_enter Tryz.func56, Tryz.ntmps56
  go_wp2
  go_loopw [8] (fun v8 wr => ∃ i : Nat, i ≤ n ∧ v8 = .int .i64 i ∧ Hid (W0 = wr)) (fun v8 _ => n - (intOf v8).toNat)
  case atStart => exact ⟨0, by omega, rfl, Lib.hid HW0.out⟩
  case round =>
    obtain ⟨i, hi, rfl, hwr⟩ := hrel
    obtain rfl := hwr.out
    by_cases hlt : i < n
    · have hin : i < ws.length := by have := Hn.out; omega
      have c0 := HWs.out.cell i hin
      have hse := Hne.out i hin
      generalize ws[i] = s at c0 hse
      go_wp2
      go_roundw
      case rel => exact ⟨i + 1, by omega, by go_num, Lib.hid trivial⟩
      case measure => simp [intOf]; omega
    · have hin : 0 < ws.length := by have := Hn.out; omega
      have c0 := HWs.out.cell 0 hin
      have hw0 := Hw.out hin
      generalize ws[0] = s0 at c0 hw0
      have x1 : (s0.toList == [113, 117, 97, 110, 116, 105, 116, 121]) = false := by rw [eq_of_beq hw0]; rfl
      have x2 : (s0.toList == [103, 97, 117, 103, 101]) = true := by rw [eq_of_beq hw0]; rfl
      have x3 : (s0.toList == [109, 101, 97, 115, 117, 114, 101]) = false := by rw [eq_of_beq hw0]; rfl
      have x4 : (s0.toList == [97, 108, 97, 114, 109]) = false := by rw [eq_of_beq hw0]; rfl
      clear hw0
      obtain ⟨q0, q1, q2⟩ := HBox.out.cells
      rw [← Hnm.out] at q1
      rw [← Hna.out] at q2
      obtain ⟨e0, e1, e2⟩ := res_cells HZ.out
      have f0 : W0.frozen? ⟨w.heap.size + 1, 0, none⟩ = false := by simp [World.frozen?, HZ.out, zeroC]
      have f1 : W0.frozen? ⟨w.heap.size + 1, 1, none⟩ = false := by simp [World.frozen?, HZ.out, zeroC]
      have f2 : W0.frozen? ⟨w.heap.size + 1, 2, none⟩ = false := by simp [World.frozen?, HZ.out, zeroC]
      have HNu := Lib.hid (refNumbers_any ws (some ⟨bw, 0, none⟩) n 2 c W0.heap.size W0 Hn.out (by omega) HWs.out.sl Hs.out hl (Nat.le_refl _))
      go_wp2_with (go_at_call 84; fail)
      refine HNu.out.mono ?_
      clear HNu c0 q0 q1 q2 e0 e1 e2 f0 f1 f2 x1 x2 x3 x4 h7
      rintro r w2 ⟨hb2, (⟨ns, v, hns, rfl, hov⟩ | ⟨hno, rfl⟩)⟩
      rotate_left
      · have hs2 := hb2.size
        have HZ2 := Lib.hid ((hb2.block (w.heap.size + 1) (by omega)).trans HZ.out)
        have HBox2 := Lib.hid (show BoxAt w2 w.heap.size p from (hb2.block w.heap.size (by omega)).trans HBox.out)
        have Hb2 := Lib.hid (HB0.out.trans (hb2.mono (by omega)))
        have HStep := Lib.hid (show StepBad p last ws 4 from stepG_bad h0.out h00.out (.inr hno))
        clear hb2 hno
        obtain ⟨q0, q1, q2⟩ := HBox2.out.cells
        rw [← Hnm.out] at q1
        rw [← Hna.out] at q2
        obtain ⟨e0, e1, e2⟩ := res_cells HZ2.out
        have f0 : w2.frozen? ⟨w.heap.size + 1, 0, none⟩ = false := by simp [World.frozen?, HZ2.out, zeroC]
        have f1 : w2.frozen? ⟨w.heap.size + 1, 1, none⟩ = false := by simp [World.frozen?, HZ2.out, zeroC]
        have f2 : w2.frozen? ⟨w.heap.size + 1, 2, none⟩ = false := by simp [World.frozen?, HZ2.out, zeroC]
        go_wp2
        obtain rfl := Hnm.out
        obtain rfl := Hna.out
        obtain ⟨Hr0, g0, g1, g2⟩ := res_plan (w := w2) (b := w.heap.size + 1) HZ2.out p
        clear Hr0
        refine bodyPost_ret (v := .tuple #[planV p, .int .i64 4]) (by simp [results, Tryz.results56, go_sem, g0, g1, g2]; rfl) rfl ?_
        exact LnRef.bad (b := w.heap.size + 1) Hb2.out hB (by omega) HStep.out
      have hl5 : ns.length = 3 := by rw [numsB_len hns, List.length_map, List.length_drop, ← Hn.out]; omega
      obtain ⟨x0, x1, x2, rfl⟩ := three hl5
      obtain ⟨bi, ci, rfl, hbi, hbiw, hci1, hci2, hcell⟩ := owns_cells hov (Nat.succ_pos _)
      have n0 : w2.cell? ⟨bi, 0, none⟩ = some (.int .i64 x0) := hcell 0 _ rfl
      have n1 : w2.cell? ⟨bi, 1, none⟩ = some (.int .i64 x1) := hcell 1 _ rfl
      have n2 : w2.cell? ⟨bi, 2, none⟩ = some (.int .i64 x2) := hcell 2 _ rfl
      have hs2 := hb2.size
      have HZ2 := Lib.hid ((hb2.block (w.heap.size + 1) (by omega)).trans HZ.out)
      have HBox2 := Lib.hid (show BoxAt w2 w.heap.size p from (hb2.block w.heap.size (by omega)).trans HBox.out)
      have Hb2 := Lib.hid (HB0.out.trans (hb2.mono (by omega)))
      have HW2 := Lib.hid (HWs.out.of hb2)
      have Hns := Lib.hid hns
      have Hov := Lib.hid hov
      have HO2 := Lib.hid (HO.out.below Hb2.out)
      have hl1 : 1 < ws.length := by have := Hn.out; omega
      have c1 := HW2.out.cell 1 hl1
      obtain ⟨s1, hs1'⟩ : ∃ s, s = ws[1] := ⟨_, rfl⟩
      rw [← hs1'] at c1
      have Hs1 := Lib.hid (show ws.getD 1 default = s1 by rw [hs1']; exact getD_lt hl1)
      obtain ⟨q0, q1, q2⟩ := HBox2.out.cells
      rw [← Hnm.out] at q1
      rw [← Hna.out] at q2
      obtain ⟨e0, e1, e2⟩ := res_cells HZ2.out
      have f0 : w2.frozen? ⟨w.heap.size + 1, 0, none⟩ = false := by simp [World.frozen?, HZ2.out, zeroC]
      have f1 : w2.frozen? ⟨w.heap.size + 1, 1, none⟩ = false := by simp [World.frozen?, HZ2.out, zeroC]
      have f2 : w2.frozen? ⟨w.heap.size + 1, 2, none⟩ = false := by simp [World.frozen?, HZ2.out, zeroC]
      clear e0 e1 e2 f0 f1 f2 hcell hov hns hb2 hs1' hl5 hl1
      obtain ⟨mq, hmq⟩ : ∃ k, k = p.qs.length := ⟨_, rfl⟩
      have hmq2 : mq ≤ 1000000 := by omega
      have hn1 : 1 ≤ mq := by have h3 : p.qs.length ≠ 0 := fun h => Hpq.out (List.length_eq_zero_iff.1 h); omega
      rw [← hmq] at q0
      have hoq := HO2.out.q
      rw [← hmq] at hoq
      obtain ⟨qb, qcc, hqv, hqb, hqw, hqc1, hqc2, hqcell⟩ := owns_cellsN hoq (by omega)
      simp only [Value.slice.injEq] at hqv
      obtain ⟨hqA, -, -⟩ := hqv
      rw [hqA] at q0 hoq
      have Hoq := Lib.hid hoq
      have HqA := Lib.hid hqA
      have Hmq := Lib.hid hmq
      obtain ⟨qi, q, hp⟩ : ∃ qi q, p.qs = qi ++ [q] := ⟨p.qs.dropLast, p.qs.getLast Hpq.out, (List.dropLast_concat_getLast Hpq.out).symm⟩
      have hqil : qi.length = mq - 1 := by have h2 := Hmq.out; rw [hp] at h2; simp at h2; omega
      obtain ⟨ng, hng⟩ : ∃ k, k = q.gs.length := ⟨_, rfl⟩
      obtain ⟨GA, hGA⟩ : ∃ k, q.gA = k := ⟨_, rfl⟩
      obtain ⟨GC, hGC⟩ : ∃ k, q.gc = k := ⟨_, rfl⟩
      have hng2 : ng ≤ 1000000 := by rw [hng]; exact Hlg.out q (by rw [hp]; simp)
      have g0 : w2.cell? ⟨qb, (mq - 1) * 7 + 6, none⟩ = some (.slice GA ng GC) := by
        refine hqcell _ _ ?_
        rw [hp, ← hqil, Nat.mul_comm, lastQ, ← hGA, ← hGC, hng]
        rfl
      have hoG : w2.ownsRow B 28 4 (.slice GA ng GC) ng (q.gs.flatMap encG) := by
        have h1 := HO2.out.g qi.length (by rw [hp]; simp)
        have h2 : p.qs[qi.length]'(by rw [hp]; simp) = q := by simp [hp]
        rw [h2, hGA, hGC, ← hng] at h1
        exact h1
      have r0 := row_ne (k := w.heap.size) hoG HBox2.out (fun cs h => by cases h)
      have r4 := row_ne (k := w.heap.size + 1) hoG HZ2.out (fun cs h => by cases h)
      have r1 : some bw ≠ (Value.slice GA ng GC).ownBlock := by
        obtain ⟨cs, hc⟩ := HW2.out.blk
        exact row_ne hoG hc (fun cs h => by cases h)
      have r2 : some bi ≠ (Value.slice GA ng GC).ownBlock := by
        obtain ⟨cs, hc⟩ := owns_block Hov.out bi rfl
        exact row_ne hoG hc (fun cs h => by cases h)
      have r3 : some qb ≠ (Value.slice GA ng GC).ownBlock := by
        obtain ⟨cs, hc⟩ := owns_block Hoq.out qb rfl
        exact row_ne hoG hc (fun cs h => by cases h)
      have HoG := Lib.hid hoG
      have y0 := glater_cell g0 (by omega) r3
      have y1 := glater_cell c1 (by omega) r1
      have z0 := glater_cell n0 (by omega) r2
      have z1 := glater_cell n1 (by omega) r2
      have z2 := glater_cell n2 (by omega) r2
      have Hp := Lib.hid hp
      have Hng := Lib.hid hng
      have HGA := Lib.hid hGA
      have HGC := Lib.hid hGC
      clear hqcell c1 n0 n1 n2 g0 hoG hp hng hGA hGC hqA hqil hmq hoq
      go_wp2
      clear q0 q1 q2
      have hxR2 : ∃ R : (Nat → Bool) → Act → World → Prop, R = fun L a' w' => ∃ (e : GLater w2 ((.slice GA ng GC : Value).ownBlock)) (v122 v123 v124 v125 v126 v127 v128 v129 v130 v131 v132 v133 v134 v135 v136 v137 v138 v139 v140 v141 v142 v143 : Value), w' = e.w ∧ a' = { tmps := #[Value.agg #[Value.slice p.qA p.qs.length p.qc, Value.slice p.mA p.ms.length p.mc, Value.slice p.aA p.al.length p.ac], Value.slice (some { block := bw, off := 0 }) n c, Value.string last, Value.pointer (some { block := w.heap.size, off := 0 }), undef, undef, Value.pointer (some { block := w.heap.size + 1, off := 0 }), u7, Value.int IntKind.i64 ↑i, undef, undef, Value.slice (some { block := bi, off := 0 }) 3 ci, Value.bool true, Value.pointer (some { block := qb, off := (mq - 1) * 7 }), undef, undef, undef, undef, undef, undef, undef, Value.int IntKind.i64 ↑i, Value.slice (some { block := bw, off := 0 }) n c, Value.int IntKind.i64 ↑n, Value.bool false, u25, u26, u27, u28, u29, u30, u31, u32, Value.bool false, Value.slice (some { block := bw, off := 0 }) n c, Value.pointer (some { block := bw, off := 0 }), Value.string s0, Value.bool false, Value.bool false, undef, undef, undef, Value.bool false, Value.bool false, undef, undef, undef, undef, Value.bool false, Value.bool false, undef, undef, undef, undef, Value.bool false, undef, undef, undef, undef, undef, undef, undef, undef, undef, undef, undef, undef, undef, undef, undef, undef, undef, undef, undef, undef, undef, undef, undef, undef, undef, undef, undef, undef, undef, undef, undef, undef, undef, undef, Value.bool true, Value.slice (some { block := bw, off := 0 }) n c, Value.pointer (some { block := bw, off := 0 }), Value.string s0, Value.bool true, Value.bool true, Value.slice (some { block := bw, off := 0 }) n c, Value.int IntKind.i64 ↑n, Value.bool true, Value.bool true, Value.bool true, Value.string last, Value.bool false, Value.bool false, Value.string last, Value.bool true, Value.bool true, Value.bool true, Value.tuple #[Value.slice (some { block := bi, off := 0 }) 3 ci, Value.bool true], Value.slice (some { block := bw, off := 0 }) n c, Value.tuple #[Value.slice (some { block := bi, off := 0 }) 3 ci, Value.bool true], Value.slice (some { block := bi, off := 0 }) 3 ci, Value.bool true, Value.bool true, Value.bool false, undef, Value.pointer (some { block := w.heap.size, off := 0 }), Value.slice (some { block := qb, off := 0 }) mq p.qc, Value.pointer (some { block := w.heap.size, off := 0 }), Value.slice (some { block := qb, off := 0 }) mq p.qc, Value.int IntKind.i64 ↑mq, Value.int IntKind.i64 (↑mq - 1), Value.pointer (some { block := qb, off := (mq - 1) * 7 }), v122, v123, v124, v125, v126, v127, v128, v129, v130, v131, v132, v133, v134, v135, v136, v137, v138, v139, v140, v141, v142, v143, undef, undef, undef, undef, undef, undef, undef, undef, undef, undef, undef, undef, undef, undef, undef, undef, undef, undef, undef, undef, undef, undef, undef, undef, undef, undef, undef, undef, undef, undef, undef, undef, undef, undef, undef, undef, undef, undef, undef, undef, undef, undef, undef, undef, undef, undef, undef, undef, undef, undef, undef, undef, undef, undef, undef, undef, undef, undef, undef, undef, undef, undef, undef, undef, undef, undef, undef, undef, undef, undef, undef, undef, undef, undef, undef, undef, undef, undef, undef, undef, undef, undef, undef, undef, undef, undef, undef, undef, undef, undef, undef, undef, undef, undef, undef, undef, undef, undef, undef, undef, undef, undef, undef, undef, undef, undef, undef, undef, undef, undef, undef, undef, undef, undef, undef, undef, undef, undef, undef, undef, undef, undef, undef, undef, undef, undef, undef, undef, undef, undef], defers := [] } ∧ (L 0 = true → v122 = .pointer (some ⟨qb, (mq - 1) * 7, none⟩)) ∧ (L 1 = true → v123 = .pointer (some ⟨qb, (mq - 1) * 7, none⟩)) ∧ (L 2 = true → v124 = .pointer (some ⟨qb, (mq - 1) * 7, none⟩)) ∧ (L 3 = true → v125 = .pointer (some ⟨qb, (mq - 1) * 7 + 6, none⟩)) ∧ (L 4 = true → v126 = .slice GA ng GC) ∧ (L 5 = true → v127 = .slice (some ⟨bw, 0, none⟩) n c) ∧ (L 6 = true → v128 = .pointer (some ⟨bw, 1, none⟩)) ∧ (L 7 = true → v129 = .string s1) ∧ (L 8 = true → v130 = .slice (some ⟨bi, 0, none⟩) 3 ci) ∧ (L 9 = true → v131 = .pointer (some ⟨bi, 0, none⟩)) ∧ (L 10 = true → v132 = .int .i64 x0) ∧ (L 11 = true → v133 = .slice (some ⟨bi, 0, none⟩) 3 ci) ∧ (L 12 = true → v134 = .pointer (some ⟨bi, 1, none⟩)) ∧ (L 13 = true → v135 = .int .i64 x1) ∧ (L 14 = true → v136 = .slice (some ⟨bi, 0, none⟩) 3 ci) ∧ (L 15 = true → v137 = .pointer (some ⟨bi, 2, none⟩)) ∧ (L 16 = true → v138 = .int .i64 x2) ∧ (L 17 = true → v139 = .agg #[.string s1, .int .i64 x0, .int .i64 x1, .int .i64 x2]) ∧ (L 18 = true → L 19 = false → Hid (∃ gb, v140 = .slice (some ⟨gb, 0, none⟩) 1 1 ∧ NewBlk w2 e.w gb (#[.string s1, .int .i64 x0, .int .i64 x1, .int .i64 x2] : Array Value) 28)) ∧ (L 19 = true → Hid ((∃ A c, v141 = .slice A (ng + 1) c) ∧ e.w.ownsRow B 28 4 v141 (ng + 1) (q.gs.flatMap encG ++ (#[.string s1, .int .i64 x0, .int .i64 x1, .int .i64 x2] : Array Value).toList) ∧ (v141.ownBlock = (.slice GA ng GC : Value).ownBlock ∨ ∃ k, v141.ownBlock = some k ∧ w2.heap.size ≤ k))) ∧ (L 20 = true → v142 = .pointer (some ⟨qb, (mq - 1) * 7, none⟩)) ∧ (L 21 = true → v143 = .pointer (some ⟨qb, (mq - 1) * 7 + 6, none⟩)) ∧ (L 19 = false → Hid (e.w.ownsRow B 28 4 (.slice GA ng GC) (ng) (q.gs.flatMap encG))) := ⟨_, rfl⟩
      obtain ⟨R2, hR2⟩ := hxR2
      have HR2 := Lib.hid hR2
      clear hR2
      refine wp_region_inv 22 R2 (by kernel_rfl) (by kernel_rfl) (by kernel_rfl) (by kernel_rfl) (by decide) (by kernel_rfl) ?_ ?_ ?_
      · rw [HR2.out]
        exact ⟨⟨{ w2 with drawn := w2.drawn + 1 }, ⟨rfl, rfl, rfl, Nat.le_refl _, fun _ _ _ => rfl⟩⟩, _, _, _, _, _, _, _, _, _, _, _, _, _, _, _, _, _, _, _, _, _, _, rfl, rfl, fun z => (Bool.false_ne_true z).elim, fun z => (Bool.false_ne_true z).elim, fun z => (Bool.false_ne_true z).elim, fun z => (Bool.false_ne_true z).elim, fun z => (Bool.false_ne_true z).elim, fun z => (Bool.false_ne_true z).elim, fun z => (Bool.false_ne_true z).elim, fun z => (Bool.false_ne_true z).elim, fun z => (Bool.false_ne_true z).elim, fun z => (Bool.false_ne_true z).elim, fun z => (Bool.false_ne_true z).elim, fun z => (Bool.false_ne_true z).elim, fun z => (Bool.false_ne_true z).elim, fun z => (Bool.false_ne_true z).elim, fun z => (Bool.false_ne_true z).elim, fun z => (Bool.false_ne_true z).elim, fun z => (Bool.false_ne_true z).elim, fun z => (Bool.false_ne_true z).elim, fun z => (Bool.false_ne_true z).elim, fun z => (Bool.false_ne_true z).elim, fun z => (Bool.false_ne_true z).elim, fun z => (Bool.false_ne_true z).elim, fun _ => Lib.hid HoG.out⟩
      · rintro L a' w' i o hi ho hLi haf hInv
        rw [HR2.out] at hInv
        obtain ⟨e, v122, v123, v124, v125, v126, v127, v128, v129, v130, v131, v132, v133, v134, v135, v136, v137, v138, v139, v140, v141, v142, v143, rfl, rfl, h0, h1, h2, h3, h4, h5, h6, h7, h8, h9, h10, h11, h12, h13, h14, h15, h16, h17, h18, h19, h20, h21, hown⟩ := hInv
        have hse : w2.heap.size ≤ e.w.heap.size := e.g.size
        rcases i with _ | _ | _ | _ | _ | _ | _ | _ | _ | _ | _ | _ | _ | _ | _ | _ | _ | _ | _ | _ | _ | _ | i
        case succ.succ.succ.succ.succ.succ.succ.succ.succ.succ.succ.succ.succ.succ.succ.succ.succ.succ.succ.succ.succ.succ => omega
        all_goals (simp only [List.getElem?_cons_zero, List.getElem?_cons_succ, Option.some.injEq] at ho; subst ho)
        · go_wp2
          rw [HR2.out]
          exact ⟨e, _, _, _, _, _, _, _, _, _, _, _, _, _, _, _, _, _, _, _, _, _, _, rfl, rfl, fun _ => rfl, h1, h2, h3, h4, h5, h6, h7, h8, h9, h10, h11, h12, h13, h14, h15, h16, h17, h18, h19, h20, h21, hown⟩
        · go_wp2
          rw [HR2.out]
          exact ⟨e, _, _, _, _, _, _, _, _, _, _, _, _, _, _, _, _, _, _, _, _, _, _, rfl, rfl, h0, fun _ => rfl, h2, h3, h4, h5, h6, h7, h8, h9, h10, h11, h12, h13, h14, h15, h16, h17, h18, h19, h20, h21, hown⟩
        · obtain rfl := h1 (haf ⟨1, .data⟩ (by simp) rfl)
          go_wp2
          rw [HR2.out]
          exact ⟨e, _, _, _, _, _, _, _, _, _, _, _, _, _, _, _, _, _, _, _, _, _, _, rfl, rfl, h0, fun _ => rfl, fun _ => rfl, h3, h4, h5, h6, h7, h8, h9, h10, h11, h12, h13, h14, h15, h16, h17, h18, h19, h20, h21, hown⟩
        · obtain rfl := h2 (haf ⟨2, .data⟩ (by simp) rfl)
          go_wp2
          rw [HR2.out]
          exact ⟨e, _, _, _, _, _, _, _, _, _, _, _, _, _, _, _, _, _, _, _, _, _, _, rfl, rfl, h0, h1, fun _ => rfl, fun _ => rfl, h4, h5, h6, h7, h8, h9, h10, h11, h12, h13, h14, h15, h16, h17, h18, h19, h20, h21, hown⟩
        · obtain rfl := h3 (haf ⟨3, .data⟩ (by simp) rfl)
          go_wp2
          rw [HR2.out]
          exact ⟨e, _, _, _, _, _, _, _, _, _, _, _, _, _, _, _, _, _, _, _, _, _, _, rfl, rfl, h0, h1, h2, fun _ => rfl, fun _ => rfl, h5, h6, h7, h8, h9, h10, h11, h12, h13, h14, h15, h16, h17, h18, h19, h20, h21, hown⟩
        · go_wp2
          rw [HR2.out]
          exact ⟨e, _, _, _, _, _, _, _, _, _, _, _, _, _, _, _, _, _, _, _, _, _, _, rfl, rfl, h0, h1, h2, h3, h4, fun _ => rfl, h6, h7, h8, h9, h10, h11, h12, h13, h14, h15, h16, h17, h18, h19, h20, h21, hown⟩
        · obtain rfl := h5 (haf ⟨5, .data⟩ (by simp) rfl)
          go_wp2
          rw [HR2.out]
          exact ⟨e, _, _, _, _, _, _, _, _, _, _, _, _, _, _, _, _, _, _, _, _, _, _, rfl, rfl, h0, h1, h2, h3, h4, fun _ => rfl, fun _ => rfl, h7, h8, h9, h10, h11, h12, h13, h14, h15, h16, h17, h18, h19, h20, h21, hown⟩
        · obtain rfl := h6 (haf ⟨6, .data⟩ (by simp) rfl)
          go_wp2
          rw [HR2.out]
          exact ⟨e, _, _, _, _, _, _, _, _, _, _, _, _, _, _, _, _, _, _, _, _, _, _, rfl, rfl, h0, h1, h2, h3, h4, h5, fun _ => rfl, fun _ => rfl, h8, h9, h10, h11, h12, h13, h14, h15, h16, h17, h18, h19, h20, h21, hown⟩
        · go_wp2
          rw [HR2.out]
          exact ⟨e, _, _, _, _, _, _, _, _, _, _, _, _, _, _, _, _, _, _, _, _, _, _, rfl, rfl, h0, h1, h2, h3, h4, h5, h6, h7, fun _ => rfl, h9, h10, h11, h12, h13, h14, h15, h16, h17, h18, h19, h20, h21, hown⟩
        · obtain rfl := h8 (haf ⟨8, .data⟩ (by simp) rfl)
          go_wp2
          rw [HR2.out]
          exact ⟨e, _, _, _, _, _, _, _, _, _, _, _, _, _, _, _, _, _, _, _, _, _, _, rfl, rfl, h0, h1, h2, h3, h4, h5, h6, h7, fun _ => rfl, fun _ => rfl, h10, h11, h12, h13, h14, h15, h16, h17, h18, h19, h20, h21, hown⟩
        · obtain rfl := h9 (haf ⟨9, .data⟩ (by simp) rfl)
          go_wp2
          rw [HR2.out]
          exact ⟨e, _, _, _, _, _, _, _, _, _, _, _, _, _, _, _, _, _, _, _, _, _, _, rfl, rfl, h0, h1, h2, h3, h4, h5, h6, h7, h8, fun _ => rfl, fun _ => rfl, h11, h12, h13, h14, h15, h16, h17, h18, h19, h20, h21, hown⟩
        · go_wp2
          rw [HR2.out]
          exact ⟨e, _, _, _, _, _, _, _, _, _, _, _, _, _, _, _, _, _, _, _, _, _, _, rfl, rfl, h0, h1, h2, h3, h4, h5, h6, h7, h8, h9, h10, fun _ => rfl, h12, h13, h14, h15, h16, h17, h18, h19, h20, h21, hown⟩
        · obtain rfl := h11 (haf ⟨11, .data⟩ (by simp) rfl)
          go_wp2
          rw [HR2.out]
          exact ⟨e, _, _, _, _, _, _, _, _, _, _, _, _, _, _, _, _, _, _, _, _, _, _, rfl, rfl, h0, h1, h2, h3, h4, h5, h6, h7, h8, h9, h10, fun _ => rfl, fun _ => rfl, h13, h14, h15, h16, h17, h18, h19, h20, h21, hown⟩
        · obtain rfl := h12 (haf ⟨12, .data⟩ (by simp) rfl)
          go_wp2
          rw [HR2.out]
          exact ⟨e, _, _, _, _, _, _, _, _, _, _, _, _, _, _, _, _, _, _, _, _, _, _, rfl, rfl, h0, h1, h2, h3, h4, h5, h6, h7, h8, h9, h10, h11, fun _ => rfl, fun _ => rfl, h14, h15, h16, h17, h18, h19, h20, h21, hown⟩
        · go_wp2
          rw [HR2.out]
          exact ⟨e, _, _, _, _, _, _, _, _, _, _, _, _, _, _, _, _, _, _, _, _, _, _, rfl, rfl, h0, h1, h2, h3, h4, h5, h6, h7, h8, h9, h10, h11, h12, h13, fun _ => rfl, h15, h16, h17, h18, h19, h20, h21, hown⟩
        · obtain rfl := h14 (haf ⟨14, .data⟩ (by simp) rfl)
          go_wp2
          rw [HR2.out]
          exact ⟨e, _, _, _, _, _, _, _, _, _, _, _, _, _, _, _, _, _, _, _, _, _, _, rfl, rfl, h0, h1, h2, h3, h4, h5, h6, h7, h8, h9, h10, h11, h12, h13, fun _ => rfl, fun _ => rfl, h16, h17, h18, h19, h20, h21, hown⟩
        · obtain rfl := h15 (haf ⟨15, .data⟩ (by simp) rfl)
          go_wp2
          rw [HR2.out]
          exact ⟨e, _, _, _, _, _, _, _, _, _, _, _, _, _, _, _, _, _, _, _, _, _, _, rfl, rfl, h0, h1, h2, h3, h4, h5, h6, h7, h8, h9, h10, h11, h12, h13, h14, fun _ => rfl, fun _ => rfl, h17, h18, h19, h20, h21, hown⟩
        · obtain rfl := h7 (haf ⟨7, .data⟩ (by simp) rfl)
          obtain rfl := h10 (haf ⟨10, .data⟩ (by simp) rfl)
          obtain rfl := h13 (haf ⟨13, .data⟩ (by simp) rfl)
          obtain rfl := h16 (haf ⟨16, .data⟩ (by simp) rfl)
          go_wp2
          rw [HR2.out]
          exact ⟨e, _, _, _, _, _, _, _, _, _, _, _, _, _, _, _, _, _, _, _, _, _, _, rfl, rfl, h0, h1, h2, h3, h4, h5, h6, fun _ => rfl, h8, h9, fun _ => rfl, h11, h12, fun _ => rfl, h14, h15, fun _ => rfl, fun _ => rfl, h18, h19, h20, h21, hown⟩
        · obtain rfl := h17 (haf ⟨17, .data⟩ (by simp) rfl)
          go_wp2
          rw [HR2.out]
          exact ⟨⟨_, grown_alloc e.g (.cells (#[.string s1, .int .i64 x0, .int .i64 x1, .int .i64 x2] : Array Value) 28)⟩, _, _, _, _, _, _, _, _, _, _, _, _, _, _, _, _, _, _, _, _, _, _, rfl, rfl, h0, h1, h2, h3, h4, h5, h6, h7, h8, h9, h10, h11, h12, h13, h14, h15, h16, fun _ => rfl, fun _ _ => Lib.hid ⟨_, rfl, NewBlk.new hse⟩, fun y => Lib.hid ⟨(h19 y).out.1, (h19 y).out.2.1.alloc _, (h19 y).out.2.2⟩, h20, h21, fun y => Lib.hid ((hown y).out.alloc _)⟩
        · obtain rfl := h4 (haf ⟨4, .data⟩ (by simp) rfl)
          obtain ⟨gb, rfl, hnb⟩ := (h18 (haf ⟨18, .data⟩ (by simp) rfl) hLi).out
          have ho0 := (hown hLi).out
          go_wp2_with (at_builtin; refine wpList_appendL rfl _ _ 45 rfl B 28 _ 4 40 elemGa _ _ _ rfl ho0 _ 1 _ _ rfl (hnb.src rfl) (by simp [Value.oneCell']) (by omega) (by omega) ?_; intro v6 w6 hown6 hb6 hsz6 hg6 hblk6; have HF6 := Lib.hid (show (∃ A c, v6 = Value.slice A (ng + 1) c) ∧ w6.ownsRow B 28 4 v6 (ng + 1) (q.gs.flatMap encG ++ (#[.string s1, .int .i64 x0, .int .i64 x1, .int .i64 x2] : Array Value).toList) ∧ (v6.ownBlock = (.slice GA ng GC : Value).ownBlock ∨ ∃ k, v6.ownBlock = some k ∧ w2.heap.size ≤ k) ∧ e.w.grownBy w6 (.slice GA ng GC : Value).ownBlock from ⟨(by obtain ⟨A, c, h1, _, _⟩ := own_cap' hown6; exact ⟨A, c, h1⟩), hown6, (hblk6.imp id fun ⟨k, h1, h2⟩ => ⟨k, h1, Nat.le_trans hse h2⟩), hg6⟩); clear hown6 hb6 hsz6 hg6 hblk6)
          rw [HR2.out]
          exact ⟨⟨_, grown_trans e.g HF6.out.2.2.2⟩, _, _, _, _, _, _, _, _, _, _, _, _, _, _, _, _, _, _, _, _, _, _, rfl, rfl, h0, h1, h2, h3, fun _ => rfl, h5, h6, h7, h8, h9, h10, h11, h12, h13, h14, h15, h16, h17, fun _ y => absurd y (by simp), fun _ => Lib.hid ⟨HF6.out.1, HF6.out.2.1, HF6.out.2.2.1⟩, h20, h21, fun y => absurd y (by simp)⟩
        · obtain rfl := h0 (haf ⟨0, .data⟩ (by simp) rfl)
          go_wp2
          rw [HR2.out]
          exact ⟨e, _, _, _, _, _, _, _, _, _, _, _, _, _, _, _, _, _, _, _, _, _, _, rfl, rfl, fun _ => rfl, h1, h2, h3, h4, h5, h6, h7, h8, h9, h10, h11, h12, h13, h14, h15, h16, h17, h18, h19, fun _ => rfl, h21, hown⟩
        · obtain rfl := h20 (haf ⟨20, .data⟩ (by simp) rfl)
          go_wp2
          rw [HR2.out]
          exact ⟨e, _, _, _, _, _, _, _, _, _, _, _, _, _, _, _, _, _, _, _, _, _, _, rfl, rfl, h0, h1, h2, h3, h4, h5, h6, h7, h8, h9, h10, h11, h12, h13, h14, h15, h16, h17, h18, h19, fun _ => rfl, fun _ => rfl, hown⟩
      · rintro L a' w' hL hInv
        rw [HR2.out] at hInv
        obtain ⟨e, v122, v123, v124, v125, v126, v127, v128, v129, v130, v131, v132, v133, v134, v135, v136, v137, v138, v139, v140, v141, v142, v143, rfl, rfl, h0, h1, h2, h3, h4, h5, h6, h7, h8, h9, h10, h11, h12, h13, h14, h15, h16, h17, h18, h19, h20, h21, hown⟩ := hInv
        obtain rfl := h0 (hL 0 (by omega))
        obtain rfl := h1 (hL 1 (by omega))
        obtain rfl := h2 (hL 2 (by omega))
        obtain rfl := h3 (hL 3 (by omega))
        obtain rfl := h4 (hL 4 (by omega))
        obtain rfl := h5 (hL 5 (by omega))
        obtain rfl := h6 (hL 6 (by omega))
        obtain rfl := h7 (hL 7 (by omega))
        obtain rfl := h8 (hL 8 (by omega))
        obtain rfl := h9 (hL 9 (by omega))
        obtain rfl := h10 (hL 10 (by omega))
        obtain rfl := h11 (hL 11 (by omega))
        obtain rfl := h12 (hL 12 (by omega))
        obtain rfl := h13 (hL 13 (by omega))
        obtain rfl := h14 (hL 14 (by omega))
        obtain rfl := h15 (hL 15 (by omega))
        obtain rfl := h16 (hL 16 (by omega))
        obtain rfl := h17 (hL 17 (by omega))
        obtain ⟨⟨An, cn, rfl⟩, hoN, hbN⟩ := (h19 (hL 19 (by omega))).out
        obtain rfl := h20 (hL 20 (by omega))
        obtain rfl := h21 (hL 21 (by omega))
        have hse : w2.heap.size ≤ e.w.heap.size := e.g.size
        clear h0 h1 h2 h3 h4 h5 h6 h7 h8 h9 h10 h11 h12 h13 h14 h15 h16 h17 h18 h19 h20 h21 hown hL HR2
        have hoqE := own_kind Hoq.out HoG.out e.g (by decide)
        have hcL : e.w.cell? ⟨qb, (mq - 1) * 7 + 6, none⟩ = some (.slice GA ng GC) := y0 e
        have hfL : e.w.frozen? ⟨qb, (mq - 1) * 7 + 6, none⟩ = false := hoqE.frozenAt _
        obtain ⟨csq, hcsq⟩ := owns_block hoqE qb rfl
        have heL : e.w.heap[w.heap.size]? = some (.cells #[.slice p.qA p.qs.length p.qc, .slice p.mA p.ms.length p.mc, .slice p.aA p.al.length p.ac] 26 (0, 0)) := (e.g.block w.heap.size (by omega) r0).trans HBox2.out
        have heZ : e.w.heap[w.heap.size + 1]? = some zeroC := (e.g.block (w.heap.size + 1) (by omega) r4).trans HZ2.out
        have hqlb : w.heap.size ≠ qb := fun h => by
          have h1 := heL
          rw [h, hcsq] at h1
          simp only [Option.some.injEq, Obj.cells.injEq] at h1
          exact absurd h1.2.1 (by decide)
        have hqlz : w.heap.size + 1 ≠ qb := fun h => by
          have h1 := heZ
          rw [h, hcsq] at h1
          simp only [zeroC, Option.some.injEq, Obj.cells.injEq] at h1
          exact absurd h1.2.1 (by decide)
        rw [← Hmq.out, HqA.out, ← Hnm.out, ← Hna.out] at heL
        have HZ3 := Lib.hid (show (e.w.setCell ⟨qb, (mq - 1) * 7 + 6, none⟩ (.slice An (ng + 1) cn)).heap[w.heap.size + 1]? = some zeroC by rw [heap_setCell_other _ _ _ _ hqlz]; exact heZ)
        have HB3 := Lib.hid (show (e.w.setCell ⟨qb, (mq - 1) * 7 + 6, none⟩ (.slice An (ng + 1) cn)).heap[w.heap.size]? = some (.cells #[.slice (some ⟨qb, 0, none⟩) mq p.qc, .slice p.mA nm p.mc, .slice p.aA na p.ac] 26 (0, 0)) by rw [heap_setCell_other _ _ _ _ hqlb]; exact heL)
        have k0 : (e.w.setCell ⟨qb, (mq - 1) * 7 + 6, none⟩ (.slice An (ng + 1) cn)).cell? ⟨w.heap.size, 0, none⟩ = some (.slice (some ⟨qb, 0, none⟩) mq p.qc) := by simp only [World.cell?, HB3.out]; rfl
        have k1 : (e.w.setCell ⟨qb, (mq - 1) * 7 + 6, none⟩ (.slice An (ng + 1) cn)).cell? ⟨w.heap.size, 1, none⟩ = some (.slice p.mA nm p.mc) := by simp only [World.cell?, HB3.out]; rfl
        have k2 : (e.w.setCell ⟨qb, (mq - 1) * 7 + 6, none⟩ (.slice An (ng + 1) cn)).cell? ⟨w.heap.size, 2, none⟩ = some (.slice p.aA na p.ac) := by simp only [World.cell?, HB3.out]; rfl
        obtain ⟨e0, e1, e2⟩ := res_cells HZ3.out
        have f0 : (e.w.setCell ⟨qb, (mq - 1) * 7 + 6, none⟩ (.slice An (ng + 1) cn)).frozen? ⟨w.heap.size + 1, 0, none⟩ = false := by simp [World.frozen?, HZ3.out, zeroC]
        have f1 : (e.w.setCell ⟨qb, (mq - 1) * 7 + 6, none⟩ (.slice An (ng + 1) cn)).frozen? ⟨w.heap.size + 1, 1, none⟩ = false := by simp [World.frozen?, HZ3.out, zeroC]
        have f2 : (e.w.setCell ⟨qb, (mq - 1) * 7 + 6, none⟩ (.slice An (ng + 1) cn)).frozen? ⟨w.heap.size + 1, 2, none⟩ = false := by simp [World.frozen?, HZ3.out, zeroC]
        have Hcsq := Lib.hid hcsq
        have HqE := Lib.hid hoqE
        have HoN := Lib.hid hoN
        have HbN := Lib.hid hbN
        clear y0 y1 z0 z1 z2 hoN hbN hoqE hcsq heL heZ
        go_wp2
        obtain ⟨g0, g1, g2⟩ := res_vals HZ3.out (.slice (some ⟨qb, 0, none⟩) mq p.qc) (.slice p.mA nm p.mc) (.slice p.aA na p.ac)
        refine bodyPost_ret (v := .tuple #[.agg #[.slice (some ⟨qb, 0, none⟩) mq p.qc, .slice p.mA nm p.mc, .slice p.aA na p.ac], .int .i64 0]) (by simp [results, Tryz.results56, go_sem, g0, g1, g2]) rfl ?_
        refine LnRef.good' (p' := { p with qs := qi ++ [{ q with gA := An, gc := cn, gs := q.gs ++ [lineG ws [x0, x1, x2]] }] }) ?_ (((Hb2.out.mono hB).grown e.g (by omega) (fun k hk => (HoG.out.lt k hk).1)).setCell (p := ⟨qb, (mq - 1) * 7 + 6, none⟩) hqb _) (KeepO.fin Hb2.out HoG.out (.inr (.inl rfl)) e.g (.inr (by obtain ⟨cs, hc⟩ := owns_block Hoq.out qb rfl; exact ⟨cs, _, hc, .inl rfl⟩))) hB (by omega) HZ3.out (stepG_ok h0.out h00.out Hc.out Hns.out Hp.out) ?_
        · unfold planV
          rw [Hnm.out, Hna.out, ← HqA.out, Hmq.out, Hp.out]
          simp
        · have hgl : (q.gs ++ [lineG ws [x0, x1, x2]]).length = ng + 1 := by rw [Hng.out]; simp
          have hge : (q.gs ++ [lineG ws [x0, x1, x2]]).flatMap encG = q.gs.flatMap encG ++ [.string s1, .int .i64 x0, .int .i64 x1, .int .i64 x2] := by rw [List.flatMap_append, ← Hs1.out]; rfl
          refine OwnP.addG (w := w2) (w' := e.w.setCell ⟨qb, (mq - 1) * 7 + 6, none⟩ _) (p := p) (gs := q.gs ++ [lineG ws [x0, x1, x2]]) HO2.out Hp.out ?_ ?_ ?_ ?_ ?_
          · have h1 := (HqE.out.stored ((mq - 1) * 7 + 6) (.slice An (ng + 1) cn)).1
            rw [← HqA.out, Hmq.out, Hp.out, show ((qi ++ [q]).length - 1) * 7 + 6 = 7 * qi.length + 6 by simp [Nat.mul_comm], ← hgl, setQ] at h1
            rw [Hmq.out, Hp.out, show ((qi ++ [q]).length - 1) * 7 + 6 = 7 * qi.length + 6 by simp [Nat.mul_comm], ← hgl]
            exact h1
          · rw [hgl, hge]
            exact own_setK HoN.out Hcsq.out (by decide) _
          · rw [hgl, HGA.out, HGC.out, ← Hng.out]
            exact HbN.out
          · intro t size v n xs hk hne hbk hv
            refine own_setK (hv.kept e.g ?_) Hcsq.out (fun h => hne h.symm) _
            cases hvb : v.ownBlock with
            | none => exact .inl rfl
            | some k =>
              refine .inr fun h => hbk k hvb ?_
              rw [HGA.out, HGC.out, ← Hng.out]
              exact h.symm
          · intro t size v n xs hk hne hne2 hv
            exact own_setK (own_kind hv HoG.out e.g hne2) Hcsq.out (fun h => hne h.symm) _
end Go.Proofs.YtcgnpndfhhcplaaGreatDoor
