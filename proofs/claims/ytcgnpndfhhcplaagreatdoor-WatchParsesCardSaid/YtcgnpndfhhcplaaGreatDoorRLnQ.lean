/-
  The specification's reader of a line: a line that begins with quantity. Conditions: the parts are the call's own; texts are short.
-/
import Derived.Test.YtcgnpndfhhcplaaGreatDoorRLn0
import Derived.BigQuiet
namespace Go.Proofs.YtcgnpndfhhcplaaGreatDoor
open Go.RowKit W7
attribute [local go_sem] Oper.semAt_some
set_option maxHeartbeats 8000000 in
set_option maxRecDepth 100000 in
theorem refLineQ_any (p : Plan) (last : ByteArray) (ws : List ByteArray) (B bw n c : Nat) (w : World) (hn : n = ws.length) (h1 : 1 ≤ n) (hO : OwnP B w p) (hB : B ≤ w.heap.size) (hW : WordsIn w bw ws) (hl : n ≤ 1000000) (hs : ∀ s ∈ ws, s.size ≤ 1000000) (hne : ∀ j (hj : j < ws.length), (ws[j].toList == []) = false) (hw : ∀ hj : 0 < ws.length, (ws[0].toList == [113, 117, 97, 110, 116, 105, 116, 121]) = true) (hn7 : n = 7) (hm0 : p.ms.length = 0) (ha0 : p.al.length = 0) (hlq : p.qs.length ≤ 1000000) :
    Calls Tryz.prog 56 #[planV p, .slice (some ⟨bw, 0, none⟩) n c, .string last] w (LnRef p last ws B w) := by
  have h0 := Lib.hid (no_empty hne)
  have h00 := Lib.hid (show (wordsL ws).headD [] = wQ by rw [head_words (by omega)]; exact eq_of_beq (hw (by omega)))
  have Hc := Lib.hid (show ws.length = 7 ∧ p.ms.length = 0 ∧ p.al.length = 0 from ⟨by omega, hm0, ha0⟩)
  clear hm0 ha0
  have hn8 : 7 ≤ n := by omega
  have hn9 : n ≤ 7 := by omega
  have h7 : ((n : Int) == 7) = true := by rw [hn7]; rfl
  clear hn7
  have Hs := Lib.hid hs
  have Hne := Lib.hid hne
  have Hw := Lib.hid hw
  clear hs hne hw
  obtain ⟨nm, hnm⟩ : ∃ k, k = p.ms.length := ⟨_, rfl⟩
  obtain ⟨na, hna⟩ : ∃ k, k = p.al.length := ⟨_, rfl⟩
  have hs0 := entryW_size w p
  obtain ⟨W0, hW0⟩ : ∃ W0, W0 = entryW w p := ⟨_, rfl⟩
  rw [← hW0] at hs0
  have HB0 := Lib.hid (show Below w.heap.size w W0 by rw [hW0]; exact entryW_below w p)
  have HBox := Lib.hid (show BoxAt W0 w.heap.size p by rw [hW0]; exact entryW_box w p)
  have HZ := Lib.hid (show W0.heap[w.heap.size + 1]? = some zeroC by rw [hW0]; exact entryW_zero w p)
  have HWs := Lib.hid (hW.of HB0.out)
  have HW0 := Lib.hid hW0
  have HO := Lib.hid hO
  have HW := Lib.hid hW
  have Hn := Lib.hid hn
  have Hnm := Lib.hid hnm
  have Hna := Lib.hid hna
  have hbw := HWs.out.lt
  clear hO hW hn hW0 hnm hna
  have hm : ((nm : Int) == 0) = true := by rw [Hnm.out, Hc.out.2.1]; rfl
  have ha : ((na : Int) == 0) = true := by rw [Hna.out, Hc.out.2.2]; rfl
  unfold planV
  go_enter Tryz.func56, Tryz.ntmps56
  go_wp2
  go_loopw [8] (fun v8 wr => ∃ i : Nat, i ≤ n ∧ v8 = .int .i64 i ∧ Hid (W0 = wr)) (fun v8 _ => n - (intOf v8).toNat)
  case atStart => exact ⟨0, by omega, rfl, Lib.hid HW0.out⟩
  case round =>
    obtain ⟨i, hi, rfl, hwr⟩ := hrel
    obtain rfl := hwr.out
    by_cases hlt : i < n
    · have hin : i < ws.length := by have := Hn.out; omega
      have c0 := HWs.out.cell i hin
      have hse := Hne.out i hin
      generalize ws[i] = s at c0 hse
      go_wp2
      go_roundw
      case rel => exact ⟨i + 1, by omega, by go_num, Lib.hid trivial⟩
      case measure => simp [intOf]; omega
    · have hin : 0 < ws.length := by have := Hn.out; omega
      have c0 := HWs.out.cell 0 hin
      have hw0 := Hw.out hin
      generalize ws[0] = s0 at c0 hw0
      have x1 : (s0.toList == [113, 117, 97, 110, 116, 105, 116, 121]) = true := by rw [eq_of_beq hw0]; rfl
      have x2 : (s0.toList == [103, 97, 117, 103, 101]) = false := by rw [eq_of_beq hw0]; rfl
      have x3 : (s0.toList == [109, 101, 97, 115, 117, 114, 101]) = false := by rw [eq_of_beq hw0]; rfl
      have x4 : (s0.toList == [97, 108, 97, 114, 109]) = false := by rw [eq_of_beq hw0]; rfl
      clear hw0
      obtain ⟨q0, q1, q2⟩ := HBox.out.cells
      rw [← Hnm.out] at q1
      rw [← Hna.out] at q2
      obtain ⟨e0, e1, e2⟩ := res_cells HZ.out
      have f0 : W0.frozen? ⟨w.heap.size + 1, 0, none⟩ = false := by simp [World.frozen?, HZ.out, zeroC]
      have f1 : W0.frozen? ⟨w.heap.size + 1, 1, none⟩ = false := by simp [World.frozen?, HZ.out, zeroC]
      have f2 : W0.frozen? ⟨w.heap.size + 1, 2, none⟩ = false := by simp [World.frozen?, HZ.out, zeroC]
      have HNu := Lib.hid (refNumbers_any ws (some ⟨bw, 0, none⟩) n 2 c W0.heap.size W0 Hn.out (by omega) HWs.out.sl Hs.out hl (Nat.le_refl _))
      go_wp2_with (go_at_call 84; fail)
      refine HNu.out.mono ?_
      clear HNu c0 q0 q1 q2 e0 e1 e2 f0 f1 f2 x1 x2 x3 x4 h7
      rintro r w2 ⟨hb2, (⟨ns, v, hns, rfl, hov⟩ | ⟨hno, rfl⟩)⟩
      rotate_left
      · have hs2 := hb2.size
        have HZ2 := Lib.hid ((hb2.block (w.heap.size + 1) (by omega)).trans HZ.out)
        have HBox2 := Lib.hid (show BoxAt w2 w.heap.size p from (hb2.block w.heap.size (by omega)).trans HBox.out)
        have Hb2 := Lib.hid (HB0.out.trans (hb2.mono (by omega)))
        have HStep := Lib.hid (show StepBad p last ws 4 from stepQ_bad h0.out h00.out (.inr hno))
        clear hb2 hno
        obtain ⟨q0, q1, q2⟩ := HBox2.out.cells
        rw [← Hnm.out] at q1
        rw [← Hna.out] at q2
        obtain ⟨e0, e1, e2⟩ := res_cells HZ2.out
        have f0 : w2.frozen? ⟨w.heap.size + 1, 0, none⟩ = false := by simp [World.frozen?, HZ2.out, zeroC]
        have f1 : w2.frozen? ⟨w.heap.size + 1, 1, none⟩ = false := by simp [World.frozen?, HZ2.out, zeroC]
        have f2 : w2.frozen? ⟨w.heap.size + 1, 2, none⟩ = false := by simp [World.frozen?, HZ2.out, zeroC]
        go_wp2
        obtain rfl := Hnm.out
        obtain rfl := Hna.out
        obtain ⟨Hr0, g0, g1, g2⟩ := res_plan (w := w2) (b := w.heap.size + 1) HZ2.out p
        clear Hr0
        refine bodyPost_ret (v := .tuple #[planV p, .int .i64 4]) (by simp [results, Tryz.results56, go_sem, g0, g1, g2]; rfl) rfl ?_
        exact LnRef.bad (b := w.heap.size + 1) Hb2.out hB (by omega) HStep.out
      have hl5 : ns.length = 5 := by rw [numsB_len hns, List.length_map, List.length_drop, ← Hn.out]; omega
      obtain ⟨x0, x1, x2, x3, x4, rfl⟩ := five hl5
      obtain ⟨bi, ci, rfl, hbi, hbiw, hci1, hci2, hcell⟩ := owns_cells hov (Nat.succ_pos _)
      have n0 : w2.cell? ⟨bi, 0, none⟩ = some (.int .i64 x0) := hcell 0 _ rfl
      have n1 : w2.cell? ⟨bi, 1, none⟩ = some (.int .i64 x1) := hcell 1 _ rfl
      have n2 : w2.cell? ⟨bi, 2, none⟩ = some (.int .i64 x2) := hcell 2 _ rfl
      have n3 : w2.cell? ⟨bi, 3, none⟩ = some (.int .i64 x3) := hcell 3 _ rfl
      have n4 : w2.cell? ⟨bi, 4, none⟩ = some (.int .i64 x4) := hcell 4 _ rfl
      have hs2 := hb2.size
      have HZ2 := Lib.hid ((hb2.block (w.heap.size + 1) (by omega)).trans HZ.out)
      have HBox2 := Lib.hid (show BoxAt w2 w.heap.size p from (hb2.block w.heap.size (by omega)).trans HBox.out)
      have Hb2 := Lib.hid (HB0.out.trans (hb2.mono (by omega)))
      have HW2 := Lib.hid (HWs.out.of hb2)
      have Hns := Lib.hid hns
      have Hov := Lib.hid hov
      have HO2 := Lib.hid (HO.out.below Hb2.out)
      have hl1 : 1 < ws.length := by have := Hn.out; omega
      have c1 := HW2.out.cell 1 hl1
      obtain ⟨s1, hs1'⟩ : ∃ s, s = ws[1] := ⟨_, rfl⟩
      rw [← hs1'] at c1
      have Hs1 := Lib.hid (show ws.getD 1 default = s1 by rw [hs1']; exact getD_lt hl1)
      obtain ⟨q0, q1, q2⟩ := HBox2.out.cells
      rw [← Hnm.out] at q1
      rw [← Hna.out] at q2
      obtain ⟨e0, e1, e2⟩ := res_cells HZ2.out
      have f0 : w2.frozen? ⟨w.heap.size + 1, 0, none⟩ = false := by simp [World.frozen?, HZ2.out, zeroC]
      have f1 : w2.frozen? ⟨w.heap.size + 1, 1, none⟩ = false := by simp [World.frozen?, HZ2.out, zeroC]
      have f2 : w2.frozen? ⟨w.heap.size + 1, 2, none⟩ = false := by simp [World.frozen?, HZ2.out, zeroC]
      clear e0 e1 e2 f0 f1 f2 hcell hov hns hb2 hs1' hl5 hl1
      obtain ⟨nq, hnq⟩ : ∃ k, k = p.qs.length := ⟨_, rfl⟩
      have hnq2 : nq ≤ 1000000 := by omega
      obtain ⟨QQ, hQQ⟩ : ∃ V, p.qA = V := ⟨_, rfl⟩
      rw [← hnq, hQQ] at q0
      have Hnq := Lib.hid hnq
      have HQQ := Lib.hid hQQ
      have hoQ := HO2.out.q
      rw [← hnq, hQQ] at hoQ
      have r0 := row_ne (k := w.heap.size) hoQ HBox2.out (fun cs h => by cases h)
      have r1 : some bw ≠ (Value.slice QQ nq p.qc).ownBlock := by
        obtain ⟨cs, hc⟩ := HW2.out.blk
        exact row_ne hoQ hc (fun cs h => by cases h)
      have r2 : some bi ≠ (Value.slice QQ nq p.qc).ownBlock := by
        obtain ⟨cs, hc⟩ := owns_block Hov.out bi rfl
        exact row_ne hoQ hc (fun cs h => by cases h)
      have r3 := row_ne (k := w.heap.size + 1) hoQ HZ2.out (fun cs h => by cases h)
      have HoQ := Lib.hid hoQ
      have y0 := glater_cell q0 (by omega) r0
      have y1 := glater_cell c1 (by omega) r1
      have z0 := glater_cell n0 (by omega) r2
      have z1 := glater_cell n1 (by omega) r2
      have z2 := glater_cell n2 (by omega) r2
      have z3 := glater_cell n3 (by omega) r2
      have z4 := glater_cell n4 (by omega) r2
      clear q0 q1 q2 c1 n0 n1 n2 n3 n4 hoQ hnq hQQ
      go_wp2
      have hxR2 : ∃ R : (Nat → Bool) → Act → World → Prop, R = fun L a' w' => ∃ (e : GLater w2 ((.slice QQ nq p.qc : Value).ownBlock)) (v63 v64 v65 v66 v67 v68 v69 v70 v71 v72 v73 v74 v75 v76 v77 v78 v79 v80 v81 v82 v83 v84 v85 v86 v87 : Value), w' = e.w ∧ a' = { tmps := #[Value.agg #[Value.slice p.qA p.qs.length p.qc, Value.slice p.mA p.ms.length p.mc, Value.slice p.aA p.al.length p.ac], Value.slice (some { block := bw, off := 0 }) n c, Value.string last, Value.pointer (some { block := w.heap.size, off := 0 }), undef, undef, Value.pointer (some { block := w.heap.size + 1, off := 0 }), u7, Value.int IntKind.i64 ↑i, Value.slice (some { block := bi, off := 0 }) 5 ci, Value.bool true, undef, undef, undef, undef, undef, undef, undef, undef, undef, undef, Value.int IntKind.i64 ↑i, Value.slice (some { block := bw, off := 0 }) n c, Value.int IntKind.i64 ↑n, Value.bool false, u25, u26, u27, u28, u29, u30, u31, u32, Value.bool true, Value.slice (some { block := bw, off := 0 }) n c, Value.pointer (some { block := bw, off := 0 }), Value.string s0, Value.bool true, Value.bool true, Value.slice (some { block := bw, off := 0 }) n c, Value.int IntKind.i64 ↑n, Value.bool true, Value.bool true, Value.bool true, Value.pointer (some { block := w.heap.size, off := 1 }), Value.slice p.mA nm p.mc, Value.int IntKind.i64 ↑nm, Value.bool true, Value.bool true, Value.bool true, Value.pointer (some { block := w.heap.size, off := 2 }), Value.slice p.aA na p.ac, Value.int IntKind.i64 ↑na, Value.bool true, Value.bool true, Value.tuple #[Value.slice (some { block := bi, off := 0 }) 5 ci, Value.bool true], Value.slice (some { block := bw, off := 0 }) n c, Value.tuple #[Value.slice (some { block := bi, off := 0 }) 5 ci, Value.bool true], Value.slice (some { block := bi, off := 0 }) 5 ci, Value.bool true, Value.bool true, Value.bool false, undef, v63, v64, v65, v66, v67, v68, v69, v70, v71, v72, v73, v74, v75, v76, v77, v78, v79, v80, v81, v82, v83, v84, v85, v86, v87, undef, undef, undef, undef, undef, undef, undef, undef, undef, undef, undef, undef, undef, undef, undef, undef, undef, undef, undef, undef, undef, undef, undef, undef, undef, undef, undef, undef, undef, undef, undef, undef, undef, undef, undef, undef, undef, undef, undef, undef, undef, undef, undef, undef, undef, undef, undef, undef, undef, undef, undef, undef, undef, undef, undef, undef, undef, undef, undef, undef, undef, undef, undef, undef, undef, undef, undef, undef, undef, undef, undef, undef, undef, undef, undef, undef, undef, undef, undef, undef, undef, undef, undef, undef, undef, undef, undef, undef, undef, undef, undef, undef, undef, undef, undef, undef, undef, undef, undef, undef, undef, undef, undef, undef, undef, undef, undef, undef, undef, undef, undef, undef, undef, undef, undef, undef, undef, undef, undef, undef, undef, undef, undef, undef, undef, undef, undef, undef, undef, undef, undef, undef, undef, undef, undef, undef, undef, undef, undef, undef, undef, undef, undef, undef, undef, undef, undef, undef, undef, undef, undef, undef, undef, undef, undef, undef, undef, undef, undef, undef, undef, undef, undef, undef, undef, undef, undef, undef, undef, undef, undef, undef, undef, undef, undef, undef, undef, undef, undef, undef, undef, undef, undef, undef, undef, undef], defers := [] } ∧ (L 0 = true → v63 = .pointer (some ⟨w.heap.size, 0, none⟩)) ∧ (L 1 = true → v64 = .slice QQ nq p.qc) ∧ (L 2 = true → v65 = .slice (some ⟨bw, 0, none⟩) n c) ∧ (L 3 = true → v66 = .pointer (some ⟨bw, 1, none⟩)) ∧ (L 4 = true → v67 = .string s1) ∧ (L 5 = true → v68 = .slice (some ⟨bi, 0, none⟩) 5 ci) ∧ (L 6 = true → v69 = .pointer (some ⟨bi, 0, none⟩)) ∧ (L 7 = true → v70 = .int .i64 x0) ∧ (L 8 = true → v71 = .slice (some ⟨bi, 0, none⟩) 5 ci) ∧ (L 9 = true → v72 = .pointer (some ⟨bi, 1, none⟩)) ∧ (L 10 = true → v73 = .int .i64 x1) ∧ (L 11 = true → v74 = .agg #[.int .i64 x0, .int .i64 x1]) ∧ (L 12 = true → v75 = .slice (some ⟨bi, 0, none⟩) 5 ci) ∧ (L 13 = true → v76 = .pointer (some ⟨bi, 2, none⟩)) ∧ (L 14 = true → v77 = .int .i64 x2) ∧ (L 15 = true → v78 = .slice (some ⟨bi, 0, none⟩) 5 ci) ∧ (L 16 = true → v79 = .pointer (some ⟨bi, 3, none⟩)) ∧ (L 17 = true → v80 = .int .i64 x3) ∧ (L 18 = true → v81 = .slice (some ⟨bi, 0, none⟩) 5 ci) ∧ (L 19 = true → v82 = .pointer (some ⟨bi, 4, none⟩)) ∧ (L 20 = true → v83 = .int .i64 x4) ∧ (L 21 = true → v84 = .agg #[.string s1, .int .i64 x0, .int .i64 x1, .int .i64 x2, .int .i64 x3, .int .i64 x4, .slice none 0 0]) ∧ (L 22 = true → L 23 = false → Hid (∃ gb, v85 = .slice (some ⟨gb, 0, none⟩) 1 1 ∧ NewBlk w2 e.w gb (#[.string s1, .int .i64 x0, .int .i64 x1, .int .i64 x2, .int .i64 x3, .int .i64 x4, .slice none 0 0] : Array Value) 47)) ∧ (L 23 = true → Hid ((∃ A c, v86 = .slice A (nq + 1) c) ∧ e.w.ownsRow B 47 7 v86 (nq + 1) (p.qs.flatMap encQ ++ (#[.string s1, .int .i64 x0, .int .i64 x1, .int .i64 x2, .int .i64 x3, .int .i64 x4, .slice none 0 0] : Array Value).toList) ∧ (v86.ownBlock = (.slice QQ nq p.qc : Value).ownBlock ∨ ∃ k, v86.ownBlock = some k ∧ w2.heap.size ≤ k))) ∧ (L 24 = true → v87 = .pointer (some ⟨w.heap.size, 0, none⟩)) ∧ (L 23 = false → Hid (e.w.ownsRow B 47 7 (.slice QQ nq p.qc) (nq) (p.qs.flatMap encQ))) := ⟨_, rfl⟩
      obtain ⟨R2, hR2⟩ := hxR2
      have HR2 := Lib.hid hR2
      clear hR2
      refine wp_region_inv 25 R2 (by kernel_rfl) (by kernel_rfl) (by kernel_rfl) (by kernel_rfl) (by decide) (by kernel_rfl) ?_ ?_ ?_
      · rw [HR2.out]
        exact ⟨⟨{ w2 with drawn := w2.drawn + 1 }, ⟨rfl, rfl, rfl, Nat.le_refl _, fun _ _ _ => rfl⟩⟩, _, _, _, _, _, _, _, _, _, _, _, _, _, _, _, _, _, _, _, _, _, _, _, _, _, rfl, rfl, fun z => (Bool.false_ne_true z).elim, fun z => (Bool.false_ne_true z).elim, fun z => (Bool.false_ne_true z).elim, fun z => (Bool.false_ne_true z).elim, fun z => (Bool.false_ne_true z).elim, fun z => (Bool.false_ne_true z).elim, fun z => (Bool.false_ne_true z).elim, fun z => (Bool.false_ne_true z).elim, fun z => (Bool.false_ne_true z).elim, fun z => (Bool.false_ne_true z).elim, fun z => (Bool.false_ne_true z).elim, fun z => (Bool.false_ne_true z).elim, fun z => (Bool.false_ne_true z).elim, fun z => (Bool.false_ne_true z).elim, fun z => (Bool.false_ne_true z).elim, fun z => (Bool.false_ne_true z).elim, fun z => (Bool.false_ne_true z).elim, fun z => (Bool.false_ne_true z).elim, fun z => (Bool.false_ne_true z).elim, fun z => (Bool.false_ne_true z).elim, fun z => (Bool.false_ne_true z).elim, fun z => (Bool.false_ne_true z).elim, fun z => (Bool.false_ne_true z).elim, fun z => (Bool.false_ne_true z).elim, fun z => (Bool.false_ne_true z).elim, fun _ => Lib.hid HoQ.out⟩
      · rintro L a' w' i o hi ho hLi haf hInv
        rw [HR2.out] at hInv
        obtain ⟨e, v63, v64, v65, v66, v67, v68, v69, v70, v71, v72, v73, v74, v75, v76, v77, v78, v79, v80, v81, v82, v83, v84, v85, v86, v87, rfl, rfl, h0, h1, h2, h3, h4, h5, h6, h7, h8, h9, h10, h11, h12, h13, h14, h15, h16, h17, h18, h19, h20, h21, h22, h23, h24, hown⟩ := hInv
        have hse : w2.heap.size ≤ e.w.heap.size := e.g.size
        rcases i with _ | _ | _ | _ | _ | _ | _ | _ | _ | _ | _ | _ | _ | _ | _ | _ | _ | _ | _ | _ | _ | _ | _ | _ | _ | i
        case succ.succ.succ.succ.succ.succ.succ.succ.succ.succ.succ.succ.succ.succ.succ.succ.succ.succ.succ.succ.succ.succ.succ.succ.succ => omega
        all_goals (simp only [List.getElem?_cons_zero, List.getElem?_cons_succ, Option.some.injEq] at ho; subst ho)
        · go_wp2
          rw [HR2.out]
          exact ⟨e, _, _, _, _, _, _, _, _, _, _, _, _, _, _, _, _, _, _, _, _, _, _, _, _, _, rfl, rfl, fun _ => rfl, h1, h2, h3, h4, h5, h6, h7, h8, h9, h10, h11, h12, h13, h14, h15, h16, h17, h18, h19, h20, h21, h22, h23, h24, hown⟩
        · obtain rfl := h0 (haf ⟨0, .data⟩ (by simp) rfl)
          go_wp2
          rw [HR2.out]
          exact ⟨e, _, _, _, _, _, _, _, _, _, _, _, _, _, _, _, _, _, _, _, _, _, _, _, _, _, rfl, rfl, fun _ => rfl, fun _ => rfl, h2, h3, h4, h5, h6, h7, h8, h9, h10, h11, h12, h13, h14, h15, h16, h17, h18, h19, h20, h21, h22, h23, h24, hown⟩
        · go_wp2
          rw [HR2.out]
          exact ⟨e, _, _, _, _, _, _, _, _, _, _, _, _, _, _, _, _, _, _, _, _, _, _, _, _, _, rfl, rfl, h0, h1, fun _ => rfl, h3, h4, h5, h6, h7, h8, h9, h10, h11, h12, h13, h14, h15, h16, h17, h18, h19, h20, h21, h22, h23, h24, hown⟩
        · obtain rfl := h2 (haf ⟨2, .data⟩ (by simp) rfl)
          go_wp2
          rw [HR2.out]
          exact ⟨e, _, _, _, _, _, _, _, _, _, _, _, _, _, _, _, _, _, _, _, _, _, _, _, _, _, rfl, rfl, h0, h1, fun _ => rfl, fun _ => rfl, h4, h5, h6, h7, h8, h9, h10, h11, h12, h13, h14, h15, h16, h17, h18, h19, h20, h21, h22, h23, h24, hown⟩
        · obtain rfl := h3 (haf ⟨3, .data⟩ (by simp) rfl)
          go_wp2
          rw [HR2.out]
          exact ⟨e, _, _, _, _, _, _, _, _, _, _, _, _, _, _, _, _, _, _, _, _, _, _, _, _, _, rfl, rfl, h0, h1, h2, fun _ => rfl, fun _ => rfl, h5, h6, h7, h8, h9, h10, h11, h12, h13, h14, h15, h16, h17, h18, h19, h20, h21, h22, h23, h24, hown⟩
        · go_wp2
          rw [HR2.out]
          exact ⟨e, _, _, _, _, _, _, _, _, _, _, _, _, _, _, _, _, _, _, _, _, _, _, _, _, _, rfl, rfl, h0, h1, h2, h3, h4, fun _ => rfl, h6, h7, h8, h9, h10, h11, h12, h13, h14, h15, h16, h17, h18, h19, h20, h21, h22, h23, h24, hown⟩
        · obtain rfl := h5 (haf ⟨5, .data⟩ (by simp) rfl)
          go_wp2
          rw [HR2.out]
          exact ⟨e, _, _, _, _, _, _, _, _, _, _, _, _, _, _, _, _, _, _, _, _, _, _, _, _, _, rfl, rfl, h0, h1, h2, h3, h4, fun _ => rfl, fun _ => rfl, h7, h8, h9, h10, h11, h12, h13, h14, h15, h16, h17, h18, h19, h20, h21, h22, h23, h24, hown⟩
        · obtain rfl := h6 (haf ⟨6, .data⟩ (by simp) rfl)
          go_wp2
          rw [HR2.out]
          exact ⟨e, _, _, _, _, _, _, _, _, _, _, _, _, _, _, _, _, _, _, _, _, _, _, _, _, _, rfl, rfl, h0, h1, h2, h3, h4, h5, fun _ => rfl, fun _ => rfl, h8, h9, h10, h11, h12, h13, h14, h15, h16, h17, h18, h19, h20, h21, h22, h23, h24, hown⟩
        · go_wp2
          rw [HR2.out]
          exact ⟨e, _, _, _, _, _, _, _, _, _, _, _, _, _, _, _, _, _, _, _, _, _, _, _, _, _, rfl, rfl, h0, h1, h2, h3, h4, h5, h6, h7, fun _ => rfl, h9, h10, h11, h12, h13, h14, h15, h16, h17, h18, h19, h20, h21, h22, h23, h24, hown⟩
        · obtain rfl := h8 (haf ⟨8, .data⟩ (by simp) rfl)
          go_wp2
          rw [HR2.out]
          exact ⟨e, _, _, _, _, _, _, _, _, _, _, _, _, _, _, _, _, _, _, _, _, _, _, _, _, _, rfl, rfl, h0, h1, h2, h3, h4, h5, h6, h7, fun _ => rfl, fun _ => rfl, h10, h11, h12, h13, h14, h15, h16, h17, h18, h19, h20, h21, h22, h23, h24, hown⟩
        · obtain rfl := h9 (haf ⟨9, .data⟩ (by simp) rfl)
          go_wp2
          rw [HR2.out]
          exact ⟨e, _, _, _, _, _, _, _, _, _, _, _, _, _, _, _, _, _, _, _, _, _, _, _, _, _, rfl, rfl, h0, h1, h2, h3, h4, h5, h6, h7, h8, fun _ => rfl, fun _ => rfl, h11, h12, h13, h14, h15, h16, h17, h18, h19, h20, h21, h22, h23, h24, hown⟩
        · obtain rfl := h7 (haf ⟨7, .data⟩ (by simp) rfl)
          obtain rfl := h10 (haf ⟨10, .data⟩ (by simp) rfl)
          go_wp2
          rw [HR2.out]
          exact ⟨e, _, _, _, _, _, _, _, _, _, _, _, _, _, _, _, _, _, _, _, _, _, _, _, _, _, rfl, rfl, h0, h1, h2, h3, h4, h5, h6, fun _ => rfl, h8, h9, fun _ => rfl, fun _ => rfl, h12, h13, h14, h15, h16, h17, h18, h19, h20, h21, h22, h23, h24, hown⟩
        · go_wp2
          rw [HR2.out]
          exact ⟨e, _, _, _, _, _, _, _, _, _, _, _, _, _, _, _, _, _, _, _, _, _, _, _, _, _, rfl, rfl, h0, h1, h2, h3, h4, h5, h6, h7, h8, h9, h10, h11, fun _ => rfl, h13, h14, h15, h16, h17, h18, h19, h20, h21, h22, h23, h24, hown⟩
        · obtain rfl := h12 (haf ⟨12, .data⟩ (by simp) rfl)
          go_wp2
          rw [HR2.out]
          exact ⟨e, _, _, _, _, _, _, _, _, _, _, _, _, _, _, _, _, _, _, _, _, _, _, _, _, _, rfl, rfl, h0, h1, h2, h3, h4, h5, h6, h7, h8, h9, h10, h11, fun _ => rfl, fun _ => rfl, h14, h15, h16, h17, h18, h19, h20, h21, h22, h23, h24, hown⟩
        · obtain rfl := h13 (haf ⟨13, .data⟩ (by simp) rfl)
          go_wp2
          rw [HR2.out]
          exact ⟨e, _, _, _, _, _, _, _, _, _, _, _, _, _, _, _, _, _, _, _, _, _, _, _, _, _, rfl, rfl, h0, h1, h2, h3, h4, h5, h6, h7, h8, h9, h10, h11, h12, fun _ => rfl, fun _ => rfl, h15, h16, h17, h18, h19, h20, h21, h22, h23, h24, hown⟩
        · go_wp2
          rw [HR2.out]
          exact ⟨e, _, _, _, _, _, _, _, _, _, _, _, _, _, _, _, _, _, _, _, _, _, _, _, _, _, rfl, rfl, h0, h1, h2, h3, h4, h5, h6, h7, h8, h9, h10, h11, h12, h13, h14, fun _ => rfl, h16, h17, h18, h19, h20, h21, h22, h23, h24, hown⟩
        · obtain rfl := h15 (haf ⟨15, .data⟩ (by simp) rfl)
          go_wp2
          rw [HR2.out]
          exact ⟨e, _, _, _, _, _, _, _, _, _, _, _, _, _, _, _, _, _, _, _, _, _, _, _, _, _, rfl, rfl, h0, h1, h2, h3, h4, h5, h6, h7, h8, h9, h10, h11, h12, h13, h14, fun _ => rfl, fun _ => rfl, h17, h18, h19, h20, h21, h22, h23, h24, hown⟩
        · obtain rfl := h16 (haf ⟨16, .data⟩ (by simp) rfl)
          go_wp2
          rw [HR2.out]
          exact ⟨e, _, _, _, _, _, _, _, _, _, _, _, _, _, _, _, _, _, _, _, _, _, _, _, _, _, rfl, rfl, h0, h1, h2, h3, h4, h5, h6, h7, h8, h9, h10, h11, h12, h13, h14, h15, fun _ => rfl, fun _ => rfl, h18, h19, h20, h21, h22, h23, h24, hown⟩
        · go_wp2
          rw [HR2.out]
          exact ⟨e, _, _, _, _, _, _, _, _, _, _, _, _, _, _, _, _, _, _, _, _, _, _, _, _, _, rfl, rfl, h0, h1, h2, h3, h4, h5, h6, h7, h8, h9, h10, h11, h12, h13, h14, h15, h16, h17, fun _ => rfl, h19, h20, h21, h22, h23, h24, hown⟩
        · obtain rfl := h18 (haf ⟨18, .data⟩ (by simp) rfl)
          go_wp2
          rw [HR2.out]
          exact ⟨e, _, _, _, _, _, _, _, _, _, _, _, _, _, _, _, _, _, _, _, _, _, _, _, _, _, rfl, rfl, h0, h1, h2, h3, h4, h5, h6, h7, h8, h9, h10, h11, h12, h13, h14, h15, h16, h17, fun _ => rfl, fun _ => rfl, h20, h21, h22, h23, h24, hown⟩
        · obtain rfl := h19 (haf ⟨19, .data⟩ (by simp) rfl)
          go_wp2
          rw [HR2.out]
          exact ⟨e, _, _, _, _, _, _, _, _, _, _, _, _, _, _, _, _, _, _, _, _, _, _, _, _, _, rfl, rfl, h0, h1, h2, h3, h4, h5, h6, h7, h8, h9, h10, h11, h12, h13, h14, h15, h16, h17, h18, fun _ => rfl, fun _ => rfl, h21, h22, h23, h24, hown⟩
        · obtain rfl := h4 (haf ⟨4, .data⟩ (by simp) rfl)
          obtain rfl := h11 (haf ⟨11, .data⟩ (by simp) rfl)
          obtain rfl := h14 (haf ⟨14, .data⟩ (by simp) rfl)
          obtain rfl := h17 (haf ⟨17, .data⟩ (by simp) rfl)
          obtain rfl := h20 (haf ⟨20, .data⟩ (by simp) rfl)
          go_wp2
          rw [HR2.out]
          exact ⟨e, _, _, _, _, _, _, _, _, _, _, _, _, _, _, _, _, _, _, _, _, _, _, _, _, _, rfl, rfl, h0, h1, h2, h3, fun _ => rfl, h5, h6, h7, h8, h9, h10, fun _ => rfl, h12, h13, fun _ => rfl, h15, h16, fun _ => rfl, h18, h19, fun _ => rfl, fun _ => rfl, h22, h23, h24, hown⟩
        · obtain rfl := h21 (haf ⟨21, .data⟩ (by simp) rfl)
          go_wp2
          rw [HR2.out]
          exact ⟨⟨_, grown_alloc e.g (.cells (#[.string s1, .int .i64 x0, .int .i64 x1, .int .i64 x2, .int .i64 x3, .int .i64 x4, .slice none 0 0] : Array Value) 47)⟩, _, _, _, _, _, _, _, _, _, _, _, _, _, _, _, _, _, _, _, _, _, _, _, _, _, rfl, rfl, h0, h1, h2, h3, h4, h5, h6, h7, h8, h9, h10, h11, h12, h13, h14, h15, h16, h17, h18, h19, h20, fun _ => rfl, fun _ _ => Lib.hid ⟨_, rfl, NewBlk.new hse⟩, fun y => Lib.hid ⟨(h23 y).out.1, (h23 y).out.2.1.alloc _, (h23 y).out.2.2⟩, h24, fun y => Lib.hid ((hown y).out.alloc _)⟩
        · obtain rfl := h1 (haf ⟨1, .data⟩ (by simp) rfl)
          obtain ⟨gb, rfl, hnb⟩ := (h22 (haf ⟨22, .data⟩ (by simp) rfl) hLi).out
          have ho0 := (hown hLi).out
          go_wp2_with (at_builtin; refine wpList_appendL rfl _ _ 22 rfl B 47 _ 7 80 elemQu _ _ _ rfl ho0 _ 1 _ _ rfl (hnb.src rfl) (by simp [Value.oneCell']) (by omega) (by omega) ?_; intro v6 w6 hown6 hb6 hsz6 hg6 hblk6; have HF6 := Lib.hid (show (∃ A c, v6 = Value.slice A (nq + 1) c) ∧ w6.ownsRow B 47 7 v6 (nq + 1) (p.qs.flatMap encQ ++ (#[.string s1, .int .i64 x0, .int .i64 x1, .int .i64 x2, .int .i64 x3, .int .i64 x4, .slice none 0 0] : Array Value).toList) ∧ (v6.ownBlock = (.slice QQ nq p.qc : Value).ownBlock ∨ ∃ k, v6.ownBlock = some k ∧ w2.heap.size ≤ k) ∧ e.w.grownBy w6 (.slice QQ nq p.qc : Value).ownBlock from ⟨(by obtain ⟨A, c, h1, _, _⟩ := own_cap' hown6; exact ⟨A, c, h1⟩), hown6, (hblk6.imp id fun ⟨k, h1, h2⟩ => ⟨k, h1, Nat.le_trans hse h2⟩), hg6⟩); clear hown6 hb6 hsz6 hg6 hblk6)
          rw [HR2.out]
          exact ⟨⟨_, grown_trans e.g HF6.out.2.2.2⟩, _, _, _, _, _, _, _, _, _, _, _, _, _, _, _, _, _, _, _, _, _, _, _, _, _, rfl, rfl, h0, fun _ => rfl, h2, h3, h4, h5, h6, h7, h8, h9, h10, h11, h12, h13, h14, h15, h16, h17, h18, h19, h20, h21, fun _ y => absurd y (by simp), fun _ => Lib.hid ⟨HF6.out.1, HF6.out.2.1, HF6.out.2.2.1⟩, h24, fun y => absurd y (by simp)⟩
        · go_wp2
          rw [HR2.out]
          exact ⟨e, _, _, _, _, _, _, _, _, _, _, _, _, _, _, _, _, _, _, _, _, _, _, _, _, _, rfl, rfl, h0, h1, h2, h3, h4, h5, h6, h7, h8, h9, h10, h11, h12, h13, h14, h15, h16, h17, h18, h19, h20, h21, h22, h23, fun _ => rfl, hown⟩
      · rintro L a' w' hL hInv
        rw [HR2.out] at hInv
        obtain ⟨e, v63, v64, v65, v66, v67, v68, v69, v70, v71, v72, v73, v74, v75, v76, v77, v78, v79, v80, v81, v82, v83, v84, v85, v86, v87, rfl, rfl, h0, h1, h2, h3, h4, h5, h6, h7, h8, h9, h10, h11, h12, h13, h14, h15, h16, h17, h18, h19, h20, h21, h22, h23, h24, hown⟩ := hInv
        obtain rfl := h0 (hL 0 (by omega))
        obtain rfl := h1 (hL 1 (by omega))
        obtain rfl := h2 (hL 2 (by omega))
        obtain rfl := h3 (hL 3 (by omega))
        obtain rfl := h4 (hL 4 (by omega))
        obtain rfl := h5 (hL 5 (by omega))
        obtain rfl := h6 (hL 6 (by omega))
        obtain rfl := h7 (hL 7 (by omega))
        obtain rfl := h8 (hL 8 (by omega))
        obtain rfl := h9 (hL 9 (by omega))
        obtain rfl := h10 (hL 10 (by omega))
        obtain rfl := h11 (hL 11 (by omega))
        obtain rfl := h12 (hL 12 (by omega))
        obtain rfl := h13 (hL 13 (by omega))
        obtain rfl := h14 (hL 14 (by omega))
        obtain rfl := h15 (hL 15 (by omega))
        obtain rfl := h16 (hL 16 (by omega))
        obtain rfl := h17 (hL 17 (by omega))
        obtain rfl := h18 (hL 18 (by omega))
        obtain rfl := h19 (hL 19 (by omega))
        obtain rfl := h20 (hL 20 (by omega))
        obtain rfl := h21 (hL 21 (by omega))
        obtain ⟨⟨An, cn, rfl⟩, hoN, hbN⟩ := (h23 (hL 23 (by omega))).out
        obtain rfl := h24 (hL 24 (by omega))
        have hse : w2.heap.size ≤ e.w.heap.size := e.g.size
        clear h0 h1 h2 h3 h4 h5 h6 h7 h8 h9 h10 h11 h12 h13 h14 h15 h16 h17 h18 h19 h20 h21 h22 h23 h24 hown hL HR2
        have heL : e.w.heap[w.heap.size]? = some (.cells #[.slice p.qA p.qs.length p.qc, .slice p.mA p.ms.length p.mc, .slice p.aA p.al.length p.ac] 26 (0, 0)) := (e.g.block w.heap.size (by omega) r0).trans HBox2.out
        have heZ : e.w.heap[w.heap.size + 1]? = some zeroC := (e.g.block (w.heap.size + 1) (by omega) r3).trans HZ2.out
        have hcL : e.w.cell? ⟨w.heap.size, 0, none⟩ = some (.slice p.qA p.qs.length p.qc) := by simp only [World.cell?, heL]; rfl
        have hfL : e.w.frozen? ⟨w.heap.size, 0, none⟩ = false := by simp [World.frozen?, heL]
        rw [← Hnm.out, ← Hna.out] at heL
        have HeL := Lib.hid heL
        have HoN := Lib.hid hoN
        have HZ3 := Lib.hid (show (e.w.setCell ⟨w.heap.size, 0, none⟩ (.slice An (nq + 1) cn)).heap[w.heap.size + 1]? = some zeroC by rw [Below.heap_setCell _ _ _ _ (by simp)]; exact heZ)
        have HB3 := Lib.hid (show (e.w.setCell ⟨w.heap.size, 0, none⟩ (.slice An (nq + 1) cn)).heap[w.heap.size]? = some (.cells #[.slice An (nq + 1) cn, .slice p.mA nm p.mc, .slice p.aA na p.ac] 26 (0, 0)) by simp [World.setCell, Array.getElem?_modify, heL])
        have k0 : (e.w.setCell ⟨w.heap.size, 0, none⟩ (.slice An (nq + 1) cn)).cell? ⟨w.heap.size, 0, none⟩ = some (.slice An (nq + 1) cn) := by simp only [World.cell?, HB3.out]; rfl
        have k1 : (e.w.setCell ⟨w.heap.size, 0, none⟩ (.slice An (nq + 1) cn)).cell? ⟨w.heap.size, 1, none⟩ = some (.slice p.mA nm p.mc) := by simp only [World.cell?, HB3.out]; rfl
        have k2 : (e.w.setCell ⟨w.heap.size, 0, none⟩ (.slice An (nq + 1) cn)).cell? ⟨w.heap.size, 2, none⟩ = some (.slice p.aA na p.ac) := by simp only [World.cell?, HB3.out]; rfl
        obtain ⟨e0, e1, e2⟩ := res_cells HZ3.out
        have f0 : (e.w.setCell ⟨w.heap.size, 0, none⟩ (.slice An (nq + 1) cn)).frozen? ⟨w.heap.size + 1, 0, none⟩ = false := by simp [World.frozen?, HZ3.out, zeroC]
        have f1 : (e.w.setCell ⟨w.heap.size, 0, none⟩ (.slice An (nq + 1) cn)).frozen? ⟨w.heap.size + 1, 1, none⟩ = false := by simp [World.frozen?, HZ3.out, zeroC]
        have f2 : (e.w.setCell ⟨w.heap.size, 0, none⟩ (.slice An (nq + 1) cn)).frozen? ⟨w.heap.size + 1, 2, none⟩ = false := by simp [World.frozen?, HZ3.out, zeroC]
        clear heL heZ hoN y0 y1 z0 z1 z2 z3 z4
        go_wp2
        obtain ⟨g0, g1, g2⟩ := res_vals HZ3.out (.slice An (nq + 1) cn) (.slice p.mA nm p.mc) (.slice p.aA na p.ac)
        refine bodyPost_ret (v := .tuple #[.agg #[.slice An (nq + 1) cn, .slice p.mA nm p.mc, .slice p.aA na p.ac], .int .i64 0]) (by simp [results, Tryz.results56, go_sem, g0, g1, g2]) rfl ?_
        refine LnRef.good' (p' := { p with qA := An, qc := cn, qs := p.qs ++ [lineQ ws [x0, x1, x2, x3, x4]] }) ?_ (((Hb2.out.mono hB).grown e.g (by omega) (fun k hk => (HoQ.out.lt k hk).1)).setCell (p := ⟨w.heap.size, 0, none⟩) hB _) (KeepO.fin Hb2.out HoQ.out (.inl rfl) e.g (.inl rfl)) hB (by omega) HZ3.out (stepQ_ok h0.out h00.out Hc.out Hns.out) ?_
        · unfold planV
          rw [Hnm.out, Hna.out]
          simp [Hnq.out]
        · refine OwnP.addQ (w := w2) (w' := e.w.setCell ⟨w.heap.size, 0, none⟩ _) (p := p) (q := lineQ ws [x0, x1, x2, x3, x4]) HO2.out ⟨rfl, rfl, rfl⟩ ?_ ?_
          · rw [← Hnq.out]
            have he : encQ (lineQ ws [x0, x1, x2, x3, x4]) = [.string s1, .int .i64 x0, .int .i64 x1, .int .i64 x2, .int .i64 x3, .int .i64 x4, .slice none 0 0] := by rw [← Hs1.out]; rfl
            rw [he]
            exact own_setK HoN.out HeL.out (by decide) _
          · intro t size v n xs hk hne hv
            exact own_setK (own_kind hv HoQ.out e.g hne) HeL.out (plan_ne _ hk) _
end Go.Proofs.YtcgnpndfhhcplaaGreatDoor
