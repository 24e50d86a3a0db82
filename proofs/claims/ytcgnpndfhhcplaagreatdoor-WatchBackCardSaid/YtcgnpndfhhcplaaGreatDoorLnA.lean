/-
  Package watch's reader of a plan's lines: its method that reads an alarm. Conditions: the parts are the call's own; texts are short; package-level variables read as their initialisers lay them.
-/
import Derived.Test.YtcgnpndfhhcplaaGreatDoorLines
namespace Go.Proofs.YtcgnpndfhhcplaaGreatDoor
open Go.RowKit W7
attribute [local go_sem] Oper.semAt_some
/-- the alarm of a line's words -/
def lineA (a b : Int) (ns : List Int) : Alarm := ⟨a, ns.getD 0 0, ns.getD 1 0, b⟩
/-- where a line's quantity, and its measure, stand -/
def posQ (p : Plan) (ws : List ByteArray) : Int := idxB (fun x : Quantity => strEq x.name (ws.getD 1 default)) p.qs
def posM (p : Plan) (ws : List ByteArray) : Int := idxB (fun x : Measure => strEq x.name (ws.getD 4 default)) p.ms
/-- how the method ends -/
def LnA (p : Plan) (last : ByteArray) (ws : List ByteArray) (lb B n : Nat) (w : World) (e : Ending) (w' : World) : Prop := Below B w w' ∧ KeepO lb w w' ∧
  ((e = .panicked (pnc 4) ∧ (n ≠ 5 ∨ numsB (((ws.drop 2).take 2).map (·.data.toList)) = none)) ∨
   (n = 5 ∧ ∃ (ns : List Int) (A' : Option Addr) (c' : Nat), numsB (((ws.drop 2).take 2).map (·.data.toList)) = some ns ∧
     ((e = .panicked (pnc 7) ∧ ¬ (0 ≤ posQ p ws ∧ 0 ≤ posM p ws)) ∨
      ((0 ≤ posQ p ws ∧ 0 ≤ posM p ws) ∧ e = .returned (.tuple #[]) ∧
     LinesAt w' lb { p with aA := A', ac := c', al := p.al ++ [lineA (posQ p ws) (posM p ws) ns] } last ∧ OwnP B w' { p with aA := A', ac := c', al := p.al ++ [lineA (posQ p ws) (posM p ws) ns] }))))
set_option maxHeartbeats 4000000 in
set_option maxRecDepth 100000 in
theorem lnAlarm_any (p : Plan) (last : ByteArray) (ws : List ByteArray) (lb B bw n : Nat) (w : World) (hn : n = ws.length) (hL : LinesAt w lb p last) (hO : OwnP B w p) (hBL : B ≤ lb) (hW : WordsAt w bw ws) (hs : ∀ s ∈ ws, s.size ≤ 1000000) (hl : n ≤ 1000000) (hlq : p.qs.length ≤ 1000000) (hlm : p.ms.length ≤ 1000000) (hla : p.al.length ≤ 1000000) (hE : Env B w) :
    Calls Tryz.prog 83 #[.pointer (some ⟨lb, 0, none⟩), .slice (some ⟨bw, 0, none⟩) n n] w (LnA p last ws lb B n w) := by
  have hLw : lb < w.heap.size := (Array.getElem?_eq_some_iff.1 hL).1
  obtain ⟨mq, hmq⟩ : ∃ k, k = p.qs.length := ⟨_, rfl⟩
  obtain ⟨nm, hnm⟩ : ∃ k, k = p.ms.length := ⟨_, rfl⟩
  obtain ⟨na, hna⟩ : ∃ k, k = p.al.length := ⟨_, rfl⟩
  have hmq2 : mq ≤ 1000000 := by omega
  have hnm2 : nm ≤ 1000000 := by omega
  have hna2 : na ≤ 1000000 := by omega
  have HL := Lib.hid hL
  have HO := Lib.hid hO
  have HW := Lib.hid hW
  have Hs := Lib.hid hs
  have HE := Lib.hid hE
  have Hn := Lib.hid hn
  have Hmq := Lib.hid hmq
  have Hnm := Lib.hid hnm
  have Hna := Lib.hid hna
  have HD := Lib.hid (fun X => demand_no 4 X)
  have HD7 := Lib.hid (fun X => demand_no 7 X)
  have HDo := Lib.hid (fun X => demand_ok 4 X)
  have HDo7 := Lib.hid (fun X => demand_ok 7 X)
  clear hL hO hW hs hE hn hmq hnm hna
  have hbw := HW.out.lt
  cases h7 : ((n : Int) == 5)
  · have hne : n ≠ 5 := fun h => by rw [h] at h7; cases h7
    go_enter Tryz.func83, Tryz.ntmps83
    go_wp2_with (go_at_call 78; refine (HD.out _).mono ?_; rintro r w2 ⟨rfl, hb2⟩)
    exact ⟨rfl, show LnA _ _ _ _ _ _ _ _ _ from ⟨((Below.alloc (Below.refl w.heap.size w) (Nat.le_refl _) _).trans (hb2.mono (by simp))).mono (by omega), KeepO.of_below ((Below.alloc (Below.refl w.heap.size w) (Nat.le_refl _) _).trans (hb2.mono (by simp))), .inl ⟨rfl, .inl hne⟩⟩⟩
  have hn7 : n = 5 := by have := eq_of_beq h7; omega
  subst hn7
  clear h7
  go_enter Tryz.func83, Tryz.ntmps83
  go_wp2_with (go_at_call 78; fail)
  have hb0 : Below w.heap.size w (w.alloc (.cells #[.slice (some ⟨bw, 0, none⟩) 5 5] 66)) := Below.alloc (Below.refl w.heap.size w) (Nat.le_refl _) _
  have hx0 : (w.alloc (.cells #[.slice (some ⟨bw, 0, none⟩) 5 5] 66)).cell? ⟨w.heap.size, 0, none⟩ = some (.slice (some ⟨bw, 0, none⟩) 5 5) := by simp only [World.cell?, heap_alloc_new]; rfl
  have hz0 : (w.alloc (.cells #[.slice (some ⟨bw, 0, none⟩) 5 5] 66)).heap.size = w.heap.size + 1 := by simp
  revert hb0 hx0 hz0
  generalize w.alloc (.cells #[.slice (some ⟨bw, 0, none⟩) 5 5] 66) = w0
  intro hb0 hx0 hz0
  have Hx0 := Lib.hid hx0
  have Hb0 := Lib.hid hb0
  clear hb0 hx0
  refine (HDo.out _).mono ?_
  rintro r w1 ⟨rfl, hb1⟩
  have hs1 := hb1.size
  have hx1 := (World.cell?_of_block (a := ⟨w.heap.size, 0, none⟩) (hb1.block w.heap.size (by omega))).trans Hx0.out
  have Hb1 := Lib.hid (Hb0.out.trans (hb1.mono (by omega)))
  have HW1 := Lib.hid (show WordsAt w1 bw ws from (Hb1.out.block bw hbw).trans HW.out)
  have HL1 := Lib.hid (show LinesAt w1 lb p last from (Hb1.out.block lb hLw).trans HL.out)
  have HNu := Lib.hid (numbers_any ((ws.drop 2).take 2) (some ⟨bw, 2, none⟩) 2 3 B w1 (by rw [List.length_take, List.length_drop, ← Hn.out]; rfl) (HW1.out.sl.take 2) (fun s h => Hs.out s (List.mem_of_mem_drop (List.mem_of_mem_take h))) (by decide) (HE.out.on (Hb1.out.mono (by omega)) (Nat.le_refl _)) (by omega))
  clear hb1
  go_wp2_with (go_at_call 108; fail)
  refine HNu.out.mono ?_
  rintro r w2 ⟨hb2, (⟨ns, v, hns, rfl, hov⟩ | ⟨hno, rfl⟩)⟩
  rotate_left
  · exact ⟨rfl, show LnA _ _ _ _ _ _ _ _ _ from ⟨(Hb1.out.trans (hb2.mono (by omega))).mono (by omega), KeepO.of_below (Hb1.out.trans (hb2.mono (by omega))), .inl ⟨rfl, .inr hno⟩⟩⟩
  have hl5 : ns.length = 2 := by rw [numsB_len hns, List.length_map, List.length_take, List.length_drop, ← Hn.out]; rfl
  obtain ⟨x0, x1, rfl⟩ := two hl5
  obtain ⟨bi, ci, rfl, hbi, hbiw, hci1, hci2, hcell⟩ := owns_cells hov (Nat.succ_pos _)
  have Hn0 := Lib.hid (show w2.cell? ⟨bi, 0, none⟩ = some (.int .i64 x0) from hcell 0 _ rfl)
  have Hn1 := Lib.hid (show w2.cell? ⟨bi, 1, none⟩ = some (.int .i64 x1) from hcell 1 _ rfl)
  have hs2 := hb2.size
  have hx2 := (World.cell?_of_block (a := ⟨w.heap.size, 0, none⟩) (hb2.block w.heap.size (by omega))).trans hx1
  have Hb2 := Lib.hid (Hb1.out.trans (hb2.mono (by omega)))
  have HW2 := Lib.hid (show WordsAt w2 bw ws from (hb2.block bw (by omega)).trans HW1.out)
  have HL2 := Lib.hid (show LinesAt w2 lb p last from (hb2.block lb (by omega)).trans HL1.out)
  have Hns := Lib.hid hns
  have Hov := Lib.hid hov
  have HO2 := Lib.hid (HO.out.below (Hb2.out.mono (by omega)))
  obtain ⟨l0, l1, l2, l3⟩ := HL2.out.cells
  rw [← Hmq.out] at l0
  have h1l : 1 < ws.length := by have := Hn.out; omega
  have h4l : 4 < ws.length := by have := Hn.out; omega
  have Hs1 := Lib.hid (show ws.getD 1 default = ws[1] from getD_lt h1l)
  have Hs4 := Lib.hid (show ws.getD 4 default = ws[4] from getD_lt h4l)
  have HQ := Lib.hid (idxAlQ_any p.qs ws[1] bw mq Hmq.out p.qA p.qc w2.heap.size w.heap.size w2 (sl_own2 lenQ HO2.out.q) (Nat.le_refl _) (by omega) hx2 (HW2.out.cell h1l) (by omega) (by omega))
  have Hiq := Lib.hid (show idxB (fun x : Quantity => strEq x.name ws[1]) p.qs = posQ p ws by unfold posQ; rw [Hs1.out])
  have Him := Lib.hid (show idxB (fun x : Measure => strEq x.name ws[4]) p.ms = posM p ws by unfold posM; rw [Hs4.out])
  rw [Hiq.out] at HQ
  obtain ⟨iq, hiq⟩ : ∃ x, x = posQ p ws := ⟨_, rfl⟩
  obtain ⟨im, him⟩ : ∃ x, x = posM p ws := ⟨_, rfl⟩
  rw [← hiq] at HQ
  have Hiq2 := Lib.hid hiq
  have Him2 := Lib.hid him
  clear hiq him
  clear hcell hov hns hb2 HNu hl5 hx1 l1 l2 l3
  go_wp2_with (go_at_call 101; fail)
  refine HQ.out.mono ?_
  rintro r w3 ⟨rfl, hb3⟩
  have hs3 := hb3.size
  have hx3 := (World.cell?_of_block (a := ⟨w.heap.size, 0, none⟩) (hb3.block w.heap.size (by omega))).trans hx2
  have Hb3 := Lib.hid (Hb2.out.trans (hb3.mono (by omega)))
  have HW3 := Lib.hid (show WordsAt w3 bw ws from (hb3.block bw (by omega)).trans HW2.out)
  have HL3 := Lib.hid (show LinesAt w3 lb p last from (hb3.block lb (by omega)).trans HL2.out)
  have HO3 := Lib.hid (HO2.out.below (hb3.mono (by omega)))
  have Hn03 := Lib.hid ((World.cell?_of_block (a := ⟨bi, 0, none⟩) (hb3.block bi hbiw)).trans Hn0.out)
  have Hn13 := Lib.hid ((World.cell?_of_block (a := ⟨bi, 1, none⟩) (hb3.block bi hbiw)).trans Hn1.out)
  have Hov3 := Lib.hid (own_below Hov.out (hb3.mono (by omega)))
  obtain ⟨k0, k1, k2, k3⟩ := HL3.out.cells
  rw [← Hnm.out] at k1
  have HM := Lib.hid (idxAlM_any p.ms ws[4] bw nm Hnm.out p.mA p.mc w3.heap.size w.heap.size w3 (sl_own2 lenM HO3.out.m) (Nat.le_refl _) (by omega) hx3 (HW3.out.cell h4l) (by omega) (by omega))
  rw [Him.out, ← Him2.out] at HM
  clear hb3 l0 hx2 k0 k2 k3
  go_wp2_with (go_at_call 104; fail)
  refine HM.out.mono ?_
  rintro r w4 ⟨rfl, hb4⟩
  have hs4 := hb4.size
  have Hb4 := Lib.hid (Hb3.out.trans (hb4.mono (by omega)))
  have HL4 := Lib.hid (show LinesAt w4 lb p last from (hb4.block lb (by omega)).trans HL3.out)
  have HO4 := Lib.hid (HO3.out.below (hb4.mono (by omega)))
  have Hn04 := Lib.hid ((World.cell?_of_block (a := ⟨bi, 0, none⟩) (hb4.block bi (by omega))).trans Hn03.out)
  have Hn14 := Lib.hid ((World.cell?_of_block (a := ⟨bi, 1, none⟩) (hb4.block bi (by omega))).trans Hn13.out)
  have Hov4 := Lib.hid (own_below Hov3.out (hb4.mono (by omega)))
  clear hb4 k1 hx3
  have hno : ∀ w5 : World, Below w4.heap.size w4 w5 → ¬ (0 ≤ iq ∧ 0 ≤ im) → LnA p last ws lb B 5 w (.panicked (pnc 7)) w5 := fun w5 hb5 hh =>
    ⟨(Hb4.out.trans (hb5.mono (by omega))).mono (by omega), KeepO.of_below (Hb4.out.trans (hb5.mono (by omega))), .inr ⟨rfl, [x0, x1], none, 0, Hns.out, .inl ⟨rfl, by rw [← Hiq2.out, ← Him2.out]; exact hh⟩⟩⟩
  have Hno := Lib.hid hno
  clear hno
  cases hcq : decide (0 ≤ iq)
  · have Hc := Lib.hid (show ¬ (0 ≤ iq ∧ 0 ≤ im) from fun h => absurd h.1 (of_decide_eq_false hcq))
    go_wp2_with (go_at_call 78; refine (HD7.out _).mono ?_; rintro r w5 ⟨rfl, hb5⟩)
    exact ⟨rfl, Hno.out _ hb5 Hc.out⟩
  cases hcm : decide (0 ≤ im)
  · have Hc := Lib.hid (show ¬ (0 ≤ iq ∧ 0 ≤ im) from fun h => absurd h.2 (of_decide_eq_false hcm))
    go_wp2_with (go_at_call 78; refine (HD7.out _).mono ?_; rintro r w5 ⟨rfl, hb5⟩)
    exact ⟨rfl, Hno.out _ hb5 Hc.out⟩
  have Hc := Lib.hid (show 0 ≤ iq ∧ 0 ≤ im from ⟨of_decide_eq_true hcq, of_decide_eq_true hcm⟩)
  go_wp2_with (go_at_call 78; fail)
  refine (HDo7.out _).mono ?_
  rintro r w5 ⟨rfl, hb5⟩
  have hs5 := hb5.size
  have Hb5 := Lib.hid (Hb4.out.trans (hb5.mono (by omega)))
  have HL5 := Lib.hid (show LinesAt w5 lb p last from (hb5.block lb (by omega)).trans HL4.out)
  have HO5 := Lib.hid (HO4.out.below (hb5.mono (by omega)))
  have n0 := (World.cell?_of_block (a := ⟨bi, 0, none⟩) (hb5.block bi (by omega))).trans Hn04.out
  have n1 := (World.cell?_of_block (a := ⟨bi, 1, none⟩) (hb5.block bi (by omega))).trans Hn14.out
  have Hov5 := Lib.hid (own_below Hov4.out (hb5.mono (by omega)))
  obtain ⟨l0, l1, l2, l3⟩ := HL5.out.cells
  obtain ⟨QQ, hQQ⟩ : ∃ V, p.aA = V := ⟨_, rfl⟩
  rw [← Hna.out, hQQ] at l2
  have hoA := HO5.out.a
  rw [← Hna.out, hQQ] at hoA
  have r0 := row_ne (k := lb) hoA HL5.out (fun cs h => by cases h)
  have r2 : some bi ≠ (Value.slice QQ na p.ac).ownBlock := by
    obtain ⟨cs, hc⟩ := owns_block Hov5.out bi rfl
    exact row_ne hoA hc (fun cs h => by cases h)
  have HoA := Lib.hid hoA
  have HQQ := Lib.hid hQQ
  have y0 := glater_cell l2 (by omega) r0
  have z0 := glater_cell n0 (by omega) r2
  have z1 := glater_cell n1 (by omega) r2
  clear hb5 l0 l1 l2 l3 n0 n1 hoA hQQ
  go_wp2
  have hxR6 : ∃ R : (Nat → Bool) → Act → World → Prop, R = fun L a' w' => ∃ (e : GLater w5 ((.slice QQ na p.ac : Value).ownBlock)) (v35 v36 v37 v38 v39 v40 v41 v42 v43 v44 v45 v46 v47 v48 v49 v50 v51 v52 v53 v54 : Value), w' = e.w ∧ a' = { tmps := #[Value.pointer (some { block := lb, off := 0 }), Value.slice (some { block := bw, off := 0 }) 5 5, undef, Value.pointer (some { block := w.heap.size, off := 0 }), Value.slice (some { block := bi, off := 0 }) 2 ci, Value.int IntKind.i64 iq, Value.int IntKind.i64 im, Value.slice (some { block := bw, off := 0 }) 5 5, Value.int IntKind.i64 5, Value.bool true, Value.tuple #[], Value.slice (some { block := bw, off := 0 }) 5 5, Value.slice (some { block := bw, off := 2 }) 2 3, Value.slice (some { block := bi, off := 0 }) 2 ci, Value.pointer (some { block := lb, off := 0 }), Value.pointer (some { block := lb, off := 0 }), Value.pointer (some { block := lb, off := 0 }), Value.pointer (some { block := lb, off := 0 }), Value.slice p.qA mq p.qc, Value.func (Fn.func 109) #[] #[Value.pointer (some { block := w.heap.size, off := 0 })], Value.int IntKind.i64 iq, Value.pointer (some { block := lb, off := 0 }), Value.pointer (some { block := lb, off := 0 }), Value.pointer (some { block := lb, off := 0 }), Value.pointer (some { block := lb, off := 1 }), Value.slice p.mA nm p.mc, Value.func (Fn.func 110) #[] #[Value.pointer (some { block := w.heap.size, off := 0 })], Value.int IntKind.i64 im, Value.int IntKind.i64 iq, Value.bool true, Value.bool true, Value.int IntKind.i64 im, Value.bool true, Value.bool true, Value.tuple #[], v35, v36, v37, v38, v39, v40, v41, v42, v43, v44, v45, v46, v47, v48, v49, v50, v51, v52, v53, v54], defers := [] } ∧ (L 0 = true → v35 = .pointer (some ⟨lb, 0, none⟩)) ∧ (L 1 = true → v36 = .pointer (some ⟨lb, 0, none⟩)) ∧ (L 2 = true → v37 = .pointer (some ⟨lb, 0, none⟩)) ∧ (L 3 = true → v38 = .pointer (some ⟨lb, 0, none⟩)) ∧ (L 4 = true → v39 = .pointer (some ⟨lb, 2, none⟩)) ∧ (L 5 = true → v40 = .slice QQ na p.ac) ∧ (L 6 = true → v41 = .int .i64 iq) ∧ (L 7 = true → v42 = .slice (some ⟨bi, 0, none⟩) 2 ci) ∧ (L 8 = true → v43 = .pointer (some ⟨bi, 0, none⟩)) ∧ (L 9 = true → v44 = .int .i64 x0) ∧ (L 10 = true → v45 = .slice (some ⟨bi, 0, none⟩) 2 ci) ∧ (L 11 = true → v46 = .pointer (some ⟨bi, 1, none⟩)) ∧ (L 12 = true → v47 = .int .i64 x1) ∧ (L 13 = true → v48 = .int .i64 im) ∧ (L 14 = true → v49 = .agg #[.int .i64 iq, .int .i64 x0, .int .i64 x1, .int .i64 im]) ∧ (L 15 = true → L 16 = false → Hid (∃ gb, v50 = .slice (some ⟨gb, 0, none⟩) 1 1 ∧ NewBlk w5 e.w gb (#[.int .i64 iq, .int .i64 x0, .int .i64 x1, .int .i64 im] : Array Value) 75)) ∧ (L 16 = true → Hid ((∃ A c, v51 = .slice A (na + 1) c) ∧ e.w.ownsRow B 75 4 v51 (na + 1) (p.al.flatMap encA ++ (#[.int .i64 iq, .int .i64 x0, .int .i64 x1, .int .i64 im] : Array Value).toList) ∧ (v51.ownBlock = (.slice QQ na p.ac : Value).ownBlock ∨ ∃ k, v51.ownBlock = some k ∧ w5.heap.size ≤ k))) ∧ (L 17 = true → v52 = .pointer (some ⟨lb, 0, none⟩)) ∧ (L 18 = true → v53 = .pointer (some ⟨lb, 0, none⟩)) ∧ (L 19 = true → v54 = .pointer (some ⟨lb, 2, none⟩)) ∧ (L 16 = false → Hid (e.w.ownsRow B 75 4 (.slice QQ na p.ac) (na) (p.al.flatMap encA))) := ⟨_, rfl⟩
  obtain ⟨R6, hR6⟩ := hxR6
  have HR6 := Lib.hid hR6
  clear hR6
  refine wp_region_inv 20 R6 (by kernel_rfl) (by kernel_rfl) (by kernel_rfl) (by kernel_rfl) (by decide) (by kernel_rfl) ?_ ?_ ?_
  · rw [HR6.out]
    exact ⟨⟨{ w5 with drawn := w5.drawn + 1 }, ⟨rfl, rfl, rfl, Nat.le_refl _, fun _ _ _ => rfl⟩⟩, _, _, _, _, _, _, _, _, _, _, _, _, _, _, _, _, _, _, _, _, rfl, rfl, fun z => (Bool.false_ne_true z).elim, fun z => (Bool.false_ne_true z).elim, fun z => (Bool.false_ne_true z).elim, fun z => (Bool.false_ne_true z).elim, fun z => (Bool.false_ne_true z).elim, fun z => (Bool.false_ne_true z).elim, fun z => (Bool.false_ne_true z).elim, fun z => (Bool.false_ne_true z).elim, fun z => (Bool.false_ne_true z).elim, fun z => (Bool.false_ne_true z).elim, fun z => (Bool.false_ne_true z).elim, fun z => (Bool.false_ne_true z).elim, fun z => (Bool.false_ne_true z).elim, fun z => (Bool.false_ne_true z).elim, fun z => (Bool.false_ne_true z).elim, fun z => (Bool.false_ne_true z).elim, fun z => (Bool.false_ne_true z).elim, fun z => (Bool.false_ne_true z).elim, fun z => (Bool.false_ne_true z).elim, fun z => (Bool.false_ne_true z).elim, fun _ => Lib.hid HoA.out⟩
  · rintro L a' w' i o hi ho hLi haf hInv
    rw [HR6.out] at hInv
    obtain ⟨e, v35, v36, v37, v38, v39, v40, v41, v42, v43, v44, v45, v46, v47, v48, v49, v50, v51, v52, v53, v54, rfl, rfl, h0, h1, h2, h3, h4, h5, h6, h7, h8, h9, h10, h11, h12, h13, h14, h15, h16, h17, h18, h19, hown⟩ := hInv
    have hse : w5.heap.size ≤ e.w.heap.size := e.g.size
    rcases i with _ | _ | _ | _ | _ | _ | _ | _ | _ | _ | _ | _ | _ | _ | _ | _ | _ | _ | _ | _ | i
    case succ.succ.succ.succ.succ.succ.succ.succ.succ.succ.succ.succ.succ.succ.succ.succ.succ.succ.succ.succ => omega
    all_goals (simp only [List.getElem?_cons_zero, List.getElem?_cons_succ, Option.some.injEq] at ho; subst ho)
    · go_wp2
      rw [HR6.out]
      exact ⟨e, _, _, _, _, _, _, _, _, _, _, _, _, _, _, _, _, _, _, _, _, rfl, rfl, fun _ => rfl, h1, h2, h3, h4, h5, h6, h7, h8, h9, h10, h11, h12, h13, h14, h15, h16, h17, h18, h19, hown⟩
    · go_wp2
      rw [HR6.out]
      exact ⟨e, _, _, _, _, _, _, _, _, _, _, _, _, _, _, _, _, _, _, _, _, rfl, rfl, h0, fun _ => rfl, h2, h3, h4, h5, h6, h7, h8, h9, h10, h11, h12, h13, h14, h15, h16, h17, h18, h19, hown⟩
    · obtain rfl := h1 (haf ⟨1, .data⟩ (by simp) rfl)
      go_wp2
      rw [HR6.out]
      exact ⟨e, _, _, _, _, _, _, _, _, _, _, _, _, _, _, _, _, _, _, _, _, rfl, rfl, h0, fun _ => rfl, fun _ => rfl, h3, h4, h5, h6, h7, h8, h9, h10, h11, h12, h13, h14, h15, h16, h17, h18, h19, hown⟩
    · obtain rfl := h2 (haf ⟨2, .data⟩ (by simp) rfl)
      go_wp2
      rw [HR6.out]
      exact ⟨e, _, _, _, _, _, _, _, _, _, _, _, _, _, _, _, _, _, _, _, _, rfl, rfl, h0, h1, fun _ => rfl, fun _ => rfl, h4, h5, h6, h7, h8, h9, h10, h11, h12, h13, h14, h15, h16, h17, h18, h19, hown⟩
    · obtain rfl := h3 (haf ⟨3, .data⟩ (by simp) rfl)
      go_wp2
      rw [HR6.out]
      exact ⟨e, _, _, _, _, _, _, _, _, _, _, _, _, _, _, _, _, _, _, _, _, rfl, rfl, h0, h1, h2, fun _ => rfl, fun _ => rfl, h5, h6, h7, h8, h9, h10, h11, h12, h13, h14, h15, h16, h17, h18, h19, hown⟩
    · obtain rfl := h4 (haf ⟨4, .data⟩ (by simp) rfl)
      go_wp2
      rw [HR6.out]
      exact ⟨e, _, _, _, _, _, _, _, _, _, _, _, _, _, _, _, _, _, _, _, _, rfl, rfl, h0, h1, h2, h3, fun _ => rfl, fun _ => rfl, h6, h7, h8, h9, h10, h11, h12, h13, h14, h15, h16, h17, h18, h19, hown⟩
    · go_wp2
      rw [HR6.out]
      exact ⟨e, _, _, _, _, _, _, _, _, _, _, _, _, _, _, _, _, _, _, _, _, rfl, rfl, h0, h1, h2, h3, h4, h5, fun _ => rfl, h7, h8, h9, h10, h11, h12, h13, h14, h15, h16, h17, h18, h19, hown⟩
    · go_wp2
      rw [HR6.out]
      exact ⟨e, _, _, _, _, _, _, _, _, _, _, _, _, _, _, _, _, _, _, _, _, rfl, rfl, h0, h1, h2, h3, h4, h5, h6, fun _ => rfl, h8, h9, h10, h11, h12, h13, h14, h15, h16, h17, h18, h19, hown⟩
    · obtain rfl := h7 (haf ⟨7, .data⟩ (by simp) rfl)
      go_wp2
      rw [HR6.out]
      exact ⟨e, _, _, _, _, _, _, _, _, _, _, _, _, _, _, _, _, _, _, _, _, rfl, rfl, h0, h1, h2, h3, h4, h5, h6, fun _ => rfl, fun _ => rfl, h9, h10, h11, h12, h13, h14, h15, h16, h17, h18, h19, hown⟩
    · obtain rfl := h8 (haf ⟨8, .data⟩ (by simp) rfl)
      go_wp2
      rw [HR6.out]
      exact ⟨e, _, _, _, _, _, _, _, _, _, _, _, _, _, _, _, _, _, _, _, _, rfl, rfl, h0, h1, h2, h3, h4, h5, h6, h7, fun _ => rfl, fun _ => rfl, h10, h11, h12, h13, h14, h15, h16, h17, h18, h19, hown⟩
    · go_wp2
      rw [HR6.out]
      exact ⟨e, _, _, _, _, _, _, _, _, _, _, _, _, _, _, _, _, _, _, _, _, rfl, rfl, h0, h1, h2, h3, h4, h5, h6, h7, h8, h9, fun _ => rfl, h11, h12, h13, h14, h15, h16, h17, h18, h19, hown⟩
    · obtain rfl := h10 (haf ⟨10, .data⟩ (by simp) rfl)
      go_wp2
      rw [HR6.out]
      exact ⟨e, _, _, _, _, _, _, _, _, _, _, _, _, _, _, _, _, _, _, _, _, rfl, rfl, h0, h1, h2, h3, h4, h5, h6, h7, h8, h9, fun _ => rfl, fun _ => rfl, h12, h13, h14, h15, h16, h17, h18, h19, hown⟩
    · obtain rfl := h11 (haf ⟨11, .data⟩ (by simp) rfl)
      go_wp2
      rw [HR6.out]
      exact ⟨e, _, _, _, _, _, _, _, _, _, _, _, _, _, _, _, _, _, _, _, _, rfl, rfl, h0, h1, h2, h3, h4, h5, h6, h7, h8, h9, h10, fun _ => rfl, fun _ => rfl, h13, h14, h15, h16, h17, h18, h19, hown⟩
    · go_wp2
      rw [HR6.out]
      exact ⟨e, _, _, _, _, _, _, _, _, _, _, _, _, _, _, _, _, _, _, _, _, rfl, rfl, h0, h1, h2, h3, h4, h5, h6, h7, h8, h9, h10, h11, h12, fun _ => rfl, h14, h15, h16, h17, h18, h19, hown⟩
    · obtain rfl := h6 (haf ⟨6, .data⟩ (by simp) rfl)
      obtain rfl := h9 (haf ⟨9, .data⟩ (by simp) rfl)
      obtain rfl := h12 (haf ⟨12, .data⟩ (by simp) rfl)
      obtain rfl := h13 (haf ⟨13, .data⟩ (by simp) rfl)
      go_wp2
      rw [HR6.out]
      exact ⟨e, _, _, _, _, _, _, _, _, _, _, _, _, _, _, _, _, _, _, _, _, rfl, rfl, h0, h1, h2, h3, h4, h5, fun _ => rfl, h7, h8, fun _ => rfl, h10, h11, fun _ => rfl, fun _ => rfl, fun _ => rfl, h15, h16, h17, h18, h19, hown⟩
    · obtain rfl := h14 (haf ⟨14, .data⟩ (by simp) rfl)
      go_wp2
      rw [HR6.out]
      exact ⟨⟨_, grown_alloc e.g (.cells (#[.int .i64 iq, .int .i64 x0, .int .i64 x1, .int .i64 im] : Array Value) 75)⟩, _, _, _, _, _, _, _, _, _, _, _, _, _, _, _, _, _, _, _, _, rfl, rfl, h0, h1, h2, h3, h4, h5, h6, h7, h8, h9, h10, h11, h12, h13, fun _ => rfl, fun _ _ => Lib.hid ⟨_, rfl, NewBlk.new hse⟩, fun y => Lib.hid ⟨(h16 y).out.1, (h16 y).out.2.1.alloc _, (h16 y).out.2.2⟩, h17, h18, h19, fun y => Lib.hid ((hown y).out.alloc _)⟩
    · obtain rfl := h5 (haf ⟨5, .data⟩ (by simp) rfl)
      obtain ⟨gb, rfl, hnb⟩ := (h15 (haf ⟨15, .data⟩ (by simp) rfl) hLi).out
      have ho0 := (hown hLi).out
      go_wp2_with (at_builtin; refine wpList_appendL rfl _ _ 24 rfl B 75 _ 4 32 elemAl _ _ _ rfl ho0 _ 1 _ _ rfl (hnb.src rfl) (by simp [Value.oneCell']) (by omega) (by omega) ?_; intro v6 w6 hown6 hb6 hsz6 hg6 hblk6; have HF6 := Lib.hid (show (∃ A c, v6 = Value.slice A (na + 1) c) ∧ w6.ownsRow B 75 4 v6 (na + 1) (p.al.flatMap encA ++ (#[.int .i64 iq, .int .i64 x0, .int .i64 x1, .int .i64 im] : Array Value).toList) ∧ (v6.ownBlock = (.slice QQ na p.ac : Value).ownBlock ∨ ∃ k, v6.ownBlock = some k ∧ w5.heap.size ≤ k) ∧ e.w.grownBy w6 (.slice QQ na p.ac : Value).ownBlock from ⟨(by obtain ⟨A, c, h1, _, _⟩ := own_cap' hown6; exact ⟨A, c, h1⟩), hown6, (hblk6.imp id fun ⟨k, h1, h2⟩ => ⟨k, h1, Nat.le_trans hse h2⟩), hg6⟩); clear hown6 hb6 hsz6 hg6 hblk6)
      rw [HR6.out]
      exact ⟨⟨_, grown_trans e.g HF6.out.2.2.2⟩, _, _, _, _, _, _, _, _, _, _, _, _, _, _, _, _, _, _, _, _, rfl, rfl, h0, h1, h2, h3, h4, fun _ => rfl, h6, h7, h8, h9, h10, h11, h12, h13, h14, fun _ y => absurd y (by simp), fun _ => Lib.hid ⟨HF6.out.1, HF6.out.2.1, HF6.out.2.2.1⟩, h17, h18, h19, fun y => absurd y (by simp)⟩
    · obtain rfl := h0 (haf ⟨0, .data⟩ (by simp) rfl)
      go_wp2
      rw [HR6.out]
      exact ⟨e, _, _, _, _, _, _, _, _, _, _, _, _, _, _, _, _, _, _, _, _, rfl, rfl, fun _ => rfl, h1, h2, h3, h4, h5, h6, h7, h8, h9, h10, h11, h12, h13, h14, h15, h16, fun _ => rfl, h18, h19, hown⟩
    · obtain rfl := h17 (haf ⟨17, .data⟩ (by simp) rfl)
      go_wp2
      rw [HR6.out]
      exact ⟨e, _, _, _, _, _, _, _, _, _, _, _, _, _, _, _, _, _, _, _, _, rfl, rfl, h0, h1, h2, h3, h4, h5, h6, h7, h8, h9, h10, h11, h12, h13, h14, h15, h16, fun _ => rfl, fun _ => rfl, h19, hown⟩
    · obtain rfl := h18 (haf ⟨18, .data⟩ (by simp) rfl)
      go_wp2
      rw [HR6.out]
      exact ⟨e, _, _, _, _, _, _, _, _, _, _, _, _, _, _, _, _, _, _, _, _, rfl, rfl, h0, h1, h2, h3, h4, h5, h6, h7, h8, h9, h10, h11, h12, h13, h14, h15, h16, h17, fun _ => rfl, fun _ => rfl, hown⟩
  · rintro L a' w' hL hInv
    rw [HR6.out] at hInv
    obtain ⟨e, v35, v36, v37, v38, v39, v40, v41, v42, v43, v44, v45, v46, v47, v48, v49, v50, v51, v52, v53, v54, rfl, rfl, h0, h1, h2, h3, h4, h5, h6, h7, h8, h9, h10, h11, h12, h13, h14, h15, h16, h17, h18, h19, hown⟩ := hInv
    obtain rfl := h0 (hL 0 (by omega))
    obtain rfl := h1 (hL 1 (by omega))
    obtain rfl := h2 (hL 2 (by omega))
    obtain rfl := h3 (hL 3 (by omega))
    obtain rfl := h4 (hL 4 (by omega))
    obtain rfl := h5 (hL 5 (by omega))
    obtain rfl := h6 (hL 6 (by omega))
    obtain rfl := h7 (hL 7 (by omega))
    obtain rfl := h8 (hL 8 (by omega))
    obtain rfl := h9 (hL 9 (by omega))
    obtain rfl := h10 (hL 10 (by omega))
    obtain rfl := h11 (hL 11 (by omega))
    obtain rfl := h12 (hL 12 (by omega))
    obtain rfl := h13 (hL 13 (by omega))
    obtain rfl := h14 (hL 14 (by omega))
    obtain ⟨⟨An, cn, rfl⟩, hoN, hbN⟩ := (h16 (hL 16 (by omega))).out
    obtain rfl := h17 (hL 17 (by omega))
    obtain rfl := h18 (hL 18 (by omega))
    obtain rfl := h19 (hL 19 (by omega))
    have hse : w5.heap.size ≤ e.w.heap.size := e.g.size
    clear h0 h1 h2 h3 h4 h5 h6 h7 h8 h9 h10 h11 h12 h13 h14 h15 h16 h17 h18 h19 hown hL HR6
    have heL : e.w.heap[lb]? = some (.cells #[.slice p.qA p.qs.length p.qc, .slice p.mA p.ms.length p.mc, .slice p.aA p.al.length p.ac, .string last] 96 (0, 0)) := (e.g.block lb (by omega) r0).trans HL5.out
    have hcL : e.w.cell? ⟨lb, 2, none⟩ = some (.slice p.aA p.al.length p.ac) := by simp only [World.cell?, heL]; rfl
    have hfL : e.w.frozen? ⟨lb, 2, none⟩ = false := by simp [World.frozen?, heL]
    have HeL := Lib.hid heL
    have HoN := Lib.hid hoN
    clear heL y0 z0 z1 hoN
    go_wp2
    go_end0
    show LnA _ _ _ _ _ _ _ _ _
    have hnp : ({ p with aA := An, ac := cn, al := p.al ++ [lineA (posQ p ws) (posM p ws) [x0, x1]] } : Plan).al.length = na + 1 := by simp [Hna.out]
    refine ⟨((Hb5.out.mono (by omega)).grown e.g (by omega) (fun k hk => (HoA.out.lt k hk).1)).setCell (p := ⟨lb, 2, none⟩) hBL _, KeepO.fin Hb5.out HoA.out (.inr (.inr (.inr rfl))) e.g (.inl rfl), .inr ⟨rfl, [x0, x1], An, cn, Hns.out, .inr ⟨(by rw [← Hiq2.out, ← Him2.out]; exact Hc.out), rfl, ?_, ?_⟩⟩⟩
    · show (e.w.setCell ⟨lb, 2, none⟩ _).heap[lb]? = _
      rw [hnp]
      simp [World.setCell, Array.getElem?_modify, HeL.out]
    · refine OwnP.addA (w := w5) (w' := e.w.setCell ⟨lb, 2, none⟩ _) (p := p) (a := lineA (posQ p ws) (posM p ws) [x0, x1]) HO5.out ?_ ?_
      · rw [← Hna.out]
        have he : encA (lineA (posQ p ws) (posM p ws) [x0, x1]) = [.int .i64 iq, .int .i64 x0, .int .i64 x1, .int .i64 im] := by rw [Hiq2.out, Him2.out]; rfl
        rw [he]
        exact own_setK HoN.out HeL.out (by decide) _
      · intro t size v n xs hk hne hv
        exact own_setK (own_kind hv HoA.out e.g hne) HeL.out hk.ne _
end Go.Proofs.YtcgnpndfhhcplaaGreatDoor
