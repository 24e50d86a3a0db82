/-
  The specification's reader of a line: a line that begins with alarm. Conditions: the parts are the call's own; texts are short.
-/
import Derived.Test.YtcgnpndfhhcplaaGreatDoorRLn0
import Derived.Test.YtcgnpndfhhcplaaGreatDoorRegion
import Derived.BigQuiet
import Derived.Deep.CutRange
namespace Go.Proofs.YtcgnpndfhhcplaaGreatDoor
open Go.RowKit W7
attribute [local go_sem] Oper.semAt_some
/-- the first place from k on at which a predicate holds, or -1 -/
def dnB {α : Type} (P : α → Bool) (xs : List α) (k : Nat) : Int := match (xs.drop k).findIdx? P with
  | some j => ((k + j : Nat) : Int)
  | none => -1
theorem dnB_end {α : Type} (P : α → Bool) (xs : List α) : dnB P xs xs.length = -1 := by
  unfold dnB
  rw [List.drop_length]
  rfl
theorem dnB_zero {α : Type} (P : α → Bool) (xs : List α) : dnB P xs 0 = idxB P xs := by
  unfold dnB idxB
  rw [List.drop_zero]
  cases xs.findIdx? P with
  | none => rfl
  | some j => simp
theorem dnB_hit {α : Type} {P : α → Bool} {xs : List α} {k : Nat} (hk : k < xs.length) (h : P xs[k] = true) : dnB P xs k = (k : Int) := by
  unfold dnB
  rw [List.drop_eq_getElem_cons hk, List.findIdx?_cons, h]
  simp
theorem dnB_miss {α : Type} {P : α → Bool} {xs : List α} {k : Nat} (hk : k < xs.length) (h : P xs[k] = false) : dnB P xs k = dnB P xs (k + 1) := by
  unfold dnB
  rw [List.drop_eq_getElem_cons hk, List.findIdx?_cons, h]
  cases (xs.drop (k + 1)).findIdx? P with
  | none => rfl
  | some j => simp; omega
/-- an alarm that is being made -/
structure AlAt (X : World) (g : Nat) (a b c d : Int) : Prop where
  c0 : X.cell? ⟨g, 0, none⟩ = some (.int .i64 a)
  c1 : X.cell? ⟨g, 1, none⟩ = some (.int .i64 b)
  c2 : X.cell? ⟨g, 2, none⟩ = some (.int .i64 c)
  c3 : X.cell? ⟨g, 3, none⟩ = some (.int .i64 d)
  free : ∀ j, X.frozen? ⟨g, j, none⟩ = false
theorem AlAt.set0 {X : World} {g : Nat} {a b c d : Int} (h : AlAt X g a b c d) (y : Int) : AlAt (X.setCell ⟨g, 0, none⟩ (.int .i64 y)) g y b c d :=
  ⟨World.cell?_setCell_same _ _ _ h.c0, (World.cell?_setCell_other _ _ _ _ (by simp)).trans h.c1, (World.cell?_setCell_other _ _ _ _ (by simp)).trans h.c2, (World.cell?_setCell_other _ _ _ _ (by simp)).trans h.c3, fun j => by rw [World.frozen?_setCell]; exact h.free j⟩
theorem AlAt.set1 {X : World} {g : Nat} {a b c d : Int} (h : AlAt X g a b c d) (y : Int) : AlAt (X.setCell ⟨g, 1, none⟩ (.int .i64 y)) g a y c d :=
  ⟨(World.cell?_setCell_other _ _ _ _ (by simp)).trans h.c0, World.cell?_setCell_same _ _ _ h.c1, (World.cell?_setCell_other _ _ _ _ (by simp)).trans h.c2, (World.cell?_setCell_other _ _ _ _ (by simp)).trans h.c3, fun j => by rw [World.frozen?_setCell]; exact h.free j⟩
theorem AlAt.set2 {X : World} {g : Nat} {a b c d : Int} (h : AlAt X g a b c d) (y : Int) : AlAt (X.setCell ⟨g, 2, none⟩ (.int .i64 y)) g a b y d :=
  ⟨(World.cell?_setCell_other _ _ _ _ (by simp)).trans h.c0, (World.cell?_setCell_other _ _ _ _ (by simp)).trans h.c1, World.cell?_setCell_same _ _ _ h.c2, (World.cell?_setCell_other _ _ _ _ (by simp)).trans h.c3, fun j => by rw [World.frozen?_setCell]; exact h.free j⟩
theorem AlAt.set3 {X : World} {g : Nat} {a b c d : Int} (h : AlAt X g a b c d) (y : Int) : AlAt (X.setCell ⟨g, 3, none⟩ (.int .i64 y)) g a b c y :=
  ⟨(World.cell?_setCell_other _ _ _ _ (by simp)).trans h.c0, (World.cell?_setCell_other _ _ _ _ (by simp)).trans h.c1, (World.cell?_setCell_other _ _ _ _ (by simp)).trans h.c2, World.cell?_setCell_same _ _ _ h.c3, fun j => by rw [World.frozen?_setCell]; exact h.free j⟩
theorem AlAt.below {X Y : World} {g : Nat} {a b c d : Int} (h : AlAt X g a b c d) (hb : Below X.heap.size X Y) (hg : g < X.heap.size) : AlAt Y g a b c d :=
  ⟨(hb.cell (p := ⟨g, 0, none⟩) hg).trans h.c0, (hb.cell (p := ⟨g, 1, none⟩) hg).trans h.c1, (hb.cell (p := ⟨g, 2, none⟩) hg).trans h.c2, (hb.cell (p := ⟨g, 3, none⟩) hg).trans h.c3, fun j => (hb.frozen (p := ⟨g, j, none⟩) hg).trans (h.free j)⟩
theorem LnRef.bad' {p : Plan} {last : ByteArray} {ws : List ByteArray} {B b : Nat} {k : Int} {w w2 : World} {k0 k1 k2 : Value} (hk : planV p = .agg #[k0, k1, k2]) (hb : Below w.heap.size w w2) (hB : B ≤ w.heap.size) (hbb : w.heap.size ≤ b) (hs : StepBad p last ws k) :
    LnRef p last ws B w (.returned (.tuple #[.agg #[k0, k1, k2], .int .i64 k])) (((w2.setCell ⟨b, 0, none⟩ k0).setCell ⟨b, 1, none⟩ k1).setCell ⟨b, 2, none⟩ k2) := by
  obtain ⟨rfl, rfl, rfl⟩ : k0 = .slice p.qA p.qs.length p.qc ∧ k1 = .slice p.mA p.ms.length p.mc ∧ k2 = .slice p.aA p.al.length p.ac := by
    unfold planV at hk
    simp only [Value.agg.injEq, Array.mk.injEq, List.cons.injEq, and_true] at hk
    exact ⟨hk.1.symm, hk.2.1.symm, hk.2.2.symm⟩
  exact LnRef.bad hb hB hbb hs
set_option maxHeartbeats 8000000 in
set_option maxRecDepth 100000 in
theorem refLineA_any (p : Plan) (last : ByteArray) (ws : List ByteArray) (B bw n c : Nat) (w : World) (hn : n = ws.length) (h1 : 1 ≤ n) (hO : OwnP B w p) (hB : B ≤ w.heap.size) (hW : WordsIn w bw ws) (hnc : n ≤ c) (hc : c ≤ 9223372036854775807) (hl : n ≤ 1000000) (hs : ∀ s ∈ ws, s.size ≤ 1000000) (hne : ∀ j (hj : j < ws.length), (ws[j].toList == []) = false) (hw : ∀ hj : 0 < ws.length, (ws[0].toList == [97, 108, 97, 114, 109]) = true) (hn7 : n = 5) (hlq : p.qs.length ≤ 1000000) (hlm : p.ms.length ≤ 1000000) (hla : p.al.length ≤ 1000000) :
    Calls Tryz.prog 56 #[planV p, .slice (some ⟨bw, 0, none⟩) n c, .string last] w (LnRef p last ws B w) := by
  have h0 := Lib.hid (no_empty hne)
  have h00 := Lib.hid (show (wordsL ws).headD [] = wA by rw [head_words (by omega)]; exact eq_of_beq (hw (by omega)))
  have Hc := Lib.hid (show ws.length = 5 by omega)
  have hn8 : 5 ≤ n := by omega
  have hn9 : n ≤ 5 := by omega
  have h7 : ((n : Int) == 5) = true := by rw [hn7]; rfl
  clear hn7
  have Hs := Lib.hid hs
  have Hne := Lib.hid hne
  have Hw := Lib.hid hw
  clear hs hne hw
  obtain ⟨nm, hnm⟩ : ∃ k, k = p.ms.length := ⟨_, rfl⟩
  obtain ⟨na, hna⟩ : ∃ k, k = p.al.length := ⟨_, rfl⟩
  have hs0 := entryW_size w p
  obtain ⟨W0, hW0⟩ : ∃ W0, W0 = entryW w p := ⟨_, rfl⟩
  rw [← hW0] at hs0
  have HB0 := Lib.hid (show Below w.heap.size w W0 by rw [hW0]; exact entryW_below w p)
  have HBox := Lib.hid (show BoxAt W0 w.heap.size p by rw [hW0]; exact entryW_box w p)
  have HZ := Lib.hid (show W0.heap[w.heap.size + 1]? = some zeroC by rw [hW0]; exact entryW_zero w p)
  have HWs := Lib.hid (hW.of HB0.out)
  have HW0 := Lib.hid hW0
  have HO := Lib.hid hO
  have HW := Lib.hid hW
  have Hn := Lib.hid hn
  have Hnm := Lib.hid hnm
  have Hna := Lib.hid hna
  have hbw := HWs.out.lt
  clear hO hW hn hW0 hnm hna
  have hnm2 : nm ≤ 1000000 := by have := Hnm.out; omega
  have hna2 : na ≤ 1000000 := by have := Hna.out; omega
  obtain ⟨mq, hmq⟩ : ∃ k, k = p.qs.length := ⟨_, rfl⟩
  have hmq2 : mq ≤ 1000000 := by omega
  have Hmq := Lib.hid hmq
  clear hmq
  unfold planV
  go_enter Tryz.func56, Tryz.ntmps56
  go_wp2
  go_loopw [8] (fun v8 wr => ∃ i : Nat, i ≤ n ∧ v8 = .int .i64 i ∧ Hid (W0 = wr)) (fun v8 _ => n - (intOf v8).toNat)
  case atStart => exact ⟨0, by omega, rfl, Lib.hid HW0.out⟩
  case round =>
    obtain ⟨i, hi, rfl, hwr⟩ := hrel
    obtain rfl := hwr.out
    by_cases hlt : i < n
    · have hin : i < ws.length := by have := Hn.out; omega
      have c0 := HWs.out.cell i hin
      have hse := Hne.out i hin
      generalize ws[i] = s at c0 hse
      go_wp2
      go_roundw
      case rel => exact ⟨i + 1, by omega, by go_num, Lib.hid trivial⟩
      case measure => simp [intOf]; omega
    · have hin : 0 < ws.length := by have := Hn.out; omega
      have c0 := HWs.out.cell 0 hin
      have hw0 := Hw.out hin
      generalize ws[0] = s0 at c0 hw0
      have x1 : (s0.toList == [113, 117, 97, 110, 116, 105, 116, 121]) = false := by rw [eq_of_beq hw0]; rfl
      have x2 : (s0.toList == [103, 97, 117, 103, 101]) = false := by rw [eq_of_beq hw0]; rfl
      have x3 : (s0.toList == [109, 101, 97, 115, 117, 114, 101]) = false := by rw [eq_of_beq hw0]; rfl
      have x4 : (s0.toList == [97, 108, 97, 114, 109]) = true := by rw [eq_of_beq hw0]; rfl
      clear hw0
      obtain ⟨q0, q1, q2⟩ := HBox.out.cells
      rw [← Hnm.out] at q1
      rw [← Hna.out] at q2
      obtain ⟨e0, e1, e2⟩ := res_cells HZ.out
      have f0 : W0.frozen? ⟨w.heap.size + 1, 0, none⟩ = false := by simp [World.frozen?, HZ.out, zeroC]
      have f1 : W0.frozen? ⟨w.heap.size + 1, 1, none⟩ = false := by simp [World.frozen?, HZ.out, zeroC]
      have f2 : W0.frozen? ⟨w.heap.size + 1, 2, none⟩ = false := by simp [World.frozen?, HZ.out, zeroC]
      have HNu := Lib.hid (refNumbers_any (ws.take 4) (some ⟨bw, 0, none⟩) 4 2 c W0.heap.size W0 (by rw [List.length_take, Hc.out]; rfl) (by omega) (HWs.out.sl.take 4) (fun s h => Hs.out s (List.mem_of_mem_take h)) (by omega) (Nat.le_refl _))
      rw [List.drop_take] at HNu
      go_wp2_with (go_at_call 84; fail)
      refine HNu.out.mono ?_
      clear HNu c0 q0 q1 q2 e0 e1 e2 f0 f1 f2 x1 x2 x3 x4 h7
      rintro r w2 ⟨hb2, (⟨ns, v, hns, rfl, hov⟩ | ⟨hno, rfl⟩)⟩
      rotate_left
      · have hs2 := hb2.size
        have HZ2 := Lib.hid ((hb2.block (w.heap.size + 1) (by omega)).trans HZ.out)
        have HBox2 := Lib.hid (show BoxAt w2 w.heap.size p from (hb2.block w.heap.size (by omega)).trans HBox.out)
        have Hb2 := Lib.hid (HB0.out.trans (hb2.mono (by omega)))
        have HStep := Lib.hid (show StepBad p last ws 4 from stepA_bad h0.out h00.out (.inr hno))
        clear hb2 hno
        obtain ⟨q0, q1, q2⟩ := HBox2.out.cells
        rw [← Hnm.out] at q1
        rw [← Hna.out] at q2
        obtain ⟨e0, e1, e2⟩ := res_cells HZ2.out
        have f0 : w2.frozen? ⟨w.heap.size + 1, 0, none⟩ = false := by simp [World.frozen?, HZ2.out, zeroC]
        have f1 : w2.frozen? ⟨w.heap.size + 1, 1, none⟩ = false := by simp [World.frozen?, HZ2.out, zeroC]
        have f2 : w2.frozen? ⟨w.heap.size + 1, 2, none⟩ = false := by simp [World.frozen?, HZ2.out, zeroC]
        go_wp2
        obtain rfl := Hnm.out
        obtain rfl := Hna.out
        obtain ⟨Hr0, g0, g1, g2⟩ := res_plan (w := w2) (b := w.heap.size + 1) HZ2.out p
        clear Hr0
        refine bodyPost_ret (v := .tuple #[planV p, .int .i64 4]) (by simp [results, Tryz.results56, go_sem, g0, g1, g2]; rfl) rfl ?_
        exact LnRef.bad (b := w.heap.size + 1) Hb2.out hB (by omega) HStep.out
      have hl5 : ns.length = 2 := by rw [numsB_len hns, List.length_map, List.length_take, List.length_drop, Hc.out]; rfl
      obtain ⟨x0, x1, rfl⟩ := two hl5
      obtain ⟨bi, ci, rfl, hbi, hbiw, hci1, hci2, hcell⟩ := owns_cells hov (Nat.succ_pos _)
      have n0 : w2.cell? ⟨bi, 0, none⟩ = some (.int .i64 x0) := hcell 0 _ rfl
      have n1 : w2.cell? ⟨bi, 1, none⟩ = some (.int .i64 x1) := hcell 1 _ rfl
      have hs2 := hb2.size
      have HZ2 := Lib.hid ((hb2.block (w.heap.size + 1) (by omega)).trans HZ.out)
      have HBox2 := Lib.hid (show BoxAt w2 w.heap.size p from (hb2.block w.heap.size (by omega)).trans HBox.out)
      have Hb2 := Lib.hid (HB0.out.trans (hb2.mono (by omega)))
      have HW2 := Lib.hid (HWs.out.of hb2)
      have Hns := Lib.hid hns
      have HO2 := Lib.hid (HO.out.below Hb2.out)
      have hl1 : 1 < ws.length := by have := Hc.out; omega
      have hl4 : 4 < ws.length := by have := Hc.out; omega
      obtain ⟨s1, hs1'⟩ : ∃ s, s = ws[1] := ⟨_, rfl⟩
      obtain ⟨s4, hs4'⟩ : ∃ s, s = ws[4] := ⟨_, rfl⟩
      have Hs1 := Lib.hid (show ws.getD 1 default = s1 by rw [hs1']; exact getD_lt hl1)
      have Hs4 := Lib.hid (show ws.getD 4 default = s4 by rw [hs4']; exact getD_lt hl4)
      -- what stands in every later world
      have HQ0 := Lib.hid (show ∀ X : World, Below w2.heap.size w2 X → X.cell? ⟨w.heap.size, 0, none⟩ = some (.slice p.qA mq p.qc) ∧ X.cell? ⟨w.heap.size, 1, none⟩ = some (.slice p.mA nm p.mc) ∧ X.cell? ⟨w.heap.size, 2, none⟩ = some (.slice p.aA na p.ac) from fun X hX => by
        obtain ⟨q0, q1, q2⟩ := HBox2.out.cells
        rw [← Hmq.out] at q0
        rw [← Hnm.out] at q1
        rw [← Hna.out] at q2
        exact ⟨(hX.cell (p := ⟨w.heap.size, 0, none⟩) (by simp; omega)).trans q0, (hX.cell (p := ⟨w.heap.size, 1, none⟩) (by simp; omega)).trans q1, (hX.cell (p := ⟨w.heap.size, 2, none⟩) (by simp; omega)).trans q2⟩)
      have HW1 := Lib.hid (show ∀ X : World, Below w2.heap.size w2 X → X.cell? ⟨bw, 1, none⟩ = some (.string s1) ∧ X.cell? ⟨bw, 4, none⟩ = some (.string s4) from fun X hX => by
        rw [hs1', hs4']
        exact ⟨(HW2.out.of hX).cell 1 hl1, (HW2.out.of hX).cell 4 hl4⟩)
      have HSq := Lib.hid (sl_own2 lenQ HO2.out.q)
      have HSm := Lib.hid (sl_own2 lenM HO2.out.m)
      clear hcell hov hns hb2 hl5 hs1' hs4'
      have y0 := later_cell n0 (by omega)
      have y1 := later_cell n1 (by omega)
      clear n0 n1
      go_wp2
      obtain ⟨R2, hR2⟩ : ∃ R : (Nat → Bool) → Act → World → Prop, R = fun L a' w' => ∃ (e : Later w2) (v210 v211 v212 v213 v214 v215 v216 v18 : Value), w' = e.w ∧ a' = { tmps := #[Value.agg #[Value.slice p.qA p.qs.length p.qc, Value.slice p.mA p.ms.length p.mc, Value.slice p.aA p.al.length p.ac], Value.slice (some { block := bw, off := 0 }) n c, Value.string last, Value.pointer (some { block := w.heap.size, off := 0 }), undef, undef, Value.pointer (some { block := w.heap.size + 1, off := 0 }), u7, Value.int IntKind.i64 ↑i, undef, undef, undef, undef, undef, undef, undef, Value.slice (some { block := bi, off := 0 }) 2 ci, Value.bool true, v18, undef, undef, Value.int IntKind.i64 ↑i, Value.slice (some { block := bw, off := 0 }) n c, Value.int IntKind.i64 ↑n, Value.bool false, u25, u26, u27, u28, u29, u30, u31, u32, Value.bool false, Value.slice (some { block := bw, off := 0 }) n c, Value.pointer (some { block := bw, off := 0 }), Value.string s0, Value.bool false, Value.bool false, undef, undef, undef, Value.bool false, Value.bool false, undef, undef, undef, undef, Value.bool false, Value.bool false, undef, undef, undef, undef, Value.bool false, undef, undef, undef, undef, undef, undef, undef, undef, undef, undef, undef, undef, undef, undef, undef, undef, undef, undef, undef, undef, undef, undef, undef, undef, undef, undef, undef, undef, undef, undef, undef, undef, undef, undef, Value.bool false, Value.slice (some { block := bw, off := 0 }) n c, Value.pointer (some { block := bw, off := 0 }), Value.string s0, Value.bool false, Value.bool false, undef, undef, undef, Value.bool false, Value.bool false, undef, undef, undef, undef, undef, undef, Value.bool false, undef, undef, undef, undef, undef, undef, undef, undef, undef, undef, undef, undef, undef, undef, undef, undef, undef, undef, undef, undef, undef, undef, undef, undef, undef, undef, undef, undef, undef, undef, undef, undef, undef, undef, undef, undef, undef, undef, Value.bool false, Value.slice (some { block := bw, off := 0 }) n c, Value.pointer (some { block := bw, off := 0 }), Value.string s0, Value.bool false, Value.bool false, undef, undef, undef, Value.bool false, Value.bool false, undef, undef, undef, undef, Value.bool false, undef, undef, undef, undef, undef, undef, undef, undef, undef, undef, undef, undef, undef, undef, undef, undef, undef, undef, undef, undef, undef, undef, undef, undef, undef, undef, undef, undef, undef, undef, Value.bool true, Value.slice (some { block := bw, off := 0 }) n c, Value.pointer (some { block := bw, off := 0 }), Value.string s0, Value.bool true, Value.bool true, Value.slice (some { block := bw, off := 0 }) n c, Value.int IntKind.i64 ↑n, Value.bool true, Value.bool true, Value.tuple #[Value.slice (some { block := bi, off := 0 }) 2 ci, Value.bool true], Value.slice (some { block := bw, off := 0 }) n c, Value.slice (some { block := bw, off := 0 }) 4 c, Value.tuple #[Value.slice (some { block := bi, off := 0 }) 2 ci, Value.bool true], Value.slice (some { block := bi, off := 0 }) 2 ci, Value.bool true, Value.bool true, Value.bool false, undef, v210, v211, v212, v213, v214, v215, v216, undef, undef, undef, undef, undef, undef, undef, undef, undef, undef, undef, undef, undef, undef, undef, undef, undef, undef, undef, undef, undef, undef, undef, undef, undef, undef, undef, undef, undef, undef, undef, undef, undef, undef, undef, undef, undef, undef, undef, undef, undef, undef, undef, undef, undef, undef, undef, undef, undef, undef, undef, undef, undef, undef, undef, undef, undef], defers := [] } ∧ (L 0 = true → v210 = .slice (some ⟨bi, 0, none⟩) 2 ci) ∧ (L 1 = true → v211 = .pointer (some ⟨bi, 0, none⟩)) ∧ (L 2 = true → v212 = .int .i64 x0) ∧ (L 3 = true → v213 = .slice (some ⟨bi, 0, none⟩) 2 ci) ∧ (L 4 = true → v214 = .pointer (some ⟨bi, 1, none⟩)) ∧ (L 5 = true → v215 = .int .i64 x1) ∧ (L 6 = true → v216 = .agg #[.int .i64 (-1), .int .i64 x0, .int .i64 x1, .int .i64 (-1)]) ∧ (L 7 = true → Hid (∃ gb, v18 = .pointer (some ⟨gb, 0, none⟩) ∧ BlkAt w2 e.w gb [.int .i64 0, .int .i64 0, .int .i64 0, .int .i64 0])) := ⟨_, rfl⟩
      have HR2 := Lib.hid hR2
      clear hR2
      refine wp_region_inv 8 R2 (by kernel_rfl) (by kernel_rfl) (by kernel_rfl) (by kernel_rfl) (by decide) (by kernel_rfl) ?_ ?_ ?_
      · rw [HR2.out]
        exact ⟨⟨_, (Below.refl w2.heap.size w2).drew⟩, _, _, _, _, _, _, _, _, rfl, rfl, fun z => (Bool.false_ne_true z).elim, fun z => (Bool.false_ne_true z).elim, fun z => (Bool.false_ne_true z).elim, fun z => (Bool.false_ne_true z).elim, fun z => (Bool.false_ne_true z).elim, fun z => (Bool.false_ne_true z).elim, fun z => (Bool.false_ne_true z).elim, fun z => (Bool.false_ne_true z).elim⟩
      · rintro L a' w' i o hi ho hLi haf hInv
        rw [HR2.out] at hInv
        obtain ⟨e, v210, v211, v212, v213, v214, v215, v216, v18, rfl, rfl, h0, h1, h2, h3, h4, h5, h6, h7⟩ := hInv
        have hse : w2.heap.size ≤ e.w.heap.size := e.b.size
        rcases i with _ | _ | _ | _ | _ | _ | _ | _ | i
        case succ.succ.succ.succ.succ.succ.succ.succ => omega
        all_goals (simp only [List.getElem?_cons_zero, List.getElem?_cons_succ, Option.some.injEq] at ho; subst ho)
        · go_wp2
          rw [HR2.out]
          exact ⟨e, _, _, _, _, _, _, _, _, rfl, rfl, fun _ => rfl, h1, h2, h3, h4, h5, h6, h7⟩
        · obtain rfl := h0 (haf ⟨0, .data⟩ (by simp) rfl)
          go_wp2
          rw [HR2.out]
          exact ⟨e, _, _, _, _, _, _, _, _, rfl, rfl, fun _ => rfl, fun _ => rfl, h2, h3, h4, h5, h6, h7⟩
        · obtain rfl := h1 (haf ⟨1, .data⟩ (by simp) rfl)
          go_wp2
          rw [HR2.out]
          exact ⟨e, _, _, _, _, _, _, _, _, rfl, rfl, h0, fun _ => rfl, fun _ => rfl, h3, h4, h5, h6, h7⟩
        · go_wp2
          rw [HR2.out]
          exact ⟨e, _, _, _, _, _, _, _, _, rfl, rfl, h0, h1, h2, fun _ => rfl, h4, h5, h6, h7⟩
        · obtain rfl := h3 (haf ⟨3, .data⟩ (by simp) rfl)
          go_wp2
          rw [HR2.out]
          exact ⟨e, _, _, _, _, _, _, _, _, rfl, rfl, h0, h1, h2, fun _ => rfl, fun _ => rfl, h5, h6, h7⟩
        · obtain rfl := h4 (haf ⟨4, .data⟩ (by simp) rfl)
          go_wp2
          rw [HR2.out]
          exact ⟨e, _, _, _, _, _, _, _, _, rfl, rfl, h0, h1, h2, h3, fun _ => rfl, fun _ => rfl, h6, h7⟩
        · obtain rfl := h2 (haf ⟨2, .data⟩ (by simp) rfl)
          obtain rfl := h5 (haf ⟨5, .data⟩ (by simp) rfl)
          go_wp2
          rw [HR2.out]
          exact ⟨e, _, _, _, _, _, _, _, _, rfl, rfl, h0, h1, fun _ => rfl, h3, h4, fun _ => rfl, fun _ => rfl, h7⟩
        · have hNew : Below e.w.heap.size e.w (e.w.alloc (.cells #[.int .i64 0, .int .i64 0, .int .i64 0, .int .i64 0] 75)) := (Below.refl _ _).alloc (Nat.le_refl _) _
          go_wp2
          rw [HR2.out]
          exact ⟨⟨_, e.b.alloc hse (.cells #[.int .i64 0, .int .i64 0, .int .i64 0, .int .i64 0] 75)⟩, _, _, _, _, _, _, _, _, rfl, rfl, h0, h1, h2, h3, h4, h5, h6, fun _ => Lib.hid ⟨_, rfl, BlkAt.new hse⟩⟩
      · rintro L a' w' hL hInv
        rw [HR2.out] at hInv
        obtain ⟨e, v210, v211, v212, v213, v214, v215, v216, v18, rfl, rfl, h0, h1, h2, h3, h4, h5, h6, h7⟩ := hInv
        obtain rfl := h0 (hL 0 (by omega))
        obtain rfl := h1 (hL 1 (by omega))
        obtain rfl := h2 (hL 2 (by omega))
        obtain rfl := h3 (hL 3 (by omega))
        obtain rfl := h4 (hL 4 (by omega))
        obtain rfl := h5 (hL 5 (by omega))
        obtain rfl := h6 (hL 6 (by omega))
        obtain ⟨gb18, rfl, hgb18⟩ := (h7 (hL 7 (by omega))).out
        have hse : w2.heap.size ≤ e.w.heap.size := e.b.size
        clear h0 h1 h2 h3 h4 h5 h6 h7 hL HR2
        have HA0 := Lib.hid (show AlAt e.w gb18 0 0 0 0 from ⟨hgb18.cell 0 _ rfl, hgb18.cell 1 _ rfl, hgb18.cell 2 _ rfl, hgb18.cell 3 _ rfl, hgb18.free⟩)
        have hg18 := hgb18.lo
        have hg18' := hgb18.hi
        have HA4 := Lib.hid (show AlAt ((((e.w.setCell ⟨gb18, 0, none⟩ (.int .i64 (-1))).setCell ⟨gb18, 1, none⟩ (.int .i64 x0)).setCell ⟨gb18, 2, none⟩ (.int .i64 x1)).setCell ⟨gb18, 3, none⟩ (.int .i64 (-1))) gb18 (-1) x0 x1 (-1) from (((HA0.out.set0 (-1)).set1 x0).set2 x1).set3 (-1))
        have HB4 := Lib.hid (show Below w2.heap.size w2 ((((e.w.setCell ⟨gb18, 0, none⟩ (.int .i64 (-1))).setCell ⟨gb18, 1, none⟩ (.int .i64 x0)).setCell ⟨gb18, 2, none⟩ (.int .i64 x1)).setCell ⟨gb18, 3, none⟩ (.int .i64 (-1))) from ((((e.b.setCell (p := ⟨gb18, 0, none⟩) hg18 _).setCell (p := ⟨gb18, 1, none⟩) hg18 _).setCell (p := ⟨gb18, 2, none⟩) hg18 _).setCell (p := ⟨gb18, 3, none⟩) hg18 _))
        have hz4 : gb18 < ((((e.w.setCell ⟨gb18, 0, none⟩ (.int .i64 (-1))).setCell ⟨gb18, 1, none⟩ (.int .i64 x0)).setCell ⟨gb18, 2, none⟩ (.int .i64 x1)).setCell ⟨gb18, 3, none⟩ (.int .i64 (-1))).heap.size := by simp [World.setCell]; omega
        have a0 := HA0.out.c0
        have a1 := HA0.out.c1
        have a2 := HA0.out.c2
        have a3 := HA0.out.c3
        have b0 := HA0.out.free 0
        have b1 := HA0.out.free 1
        have b2 := HA0.out.free 2
        have b3 := HA0.out.free 3
        obtain ⟨q0, q1, q2⟩ := HQ0.out _ HB4.out
        clear y0 y1 hgb18
        go_upto_region 30 with fail
        revert HA4 HB4 hz4 q0 q1 q2
        generalize ((((e.w.setCell ⟨gb18, 0, none⟩ (.int .i64 (-1))).setCell ⟨gb18, 1, none⟩ (.int .i64 x0)).setCell ⟨gb18, 2, none⟩ (.int .i64 x1)).setCell ⟨gb18, 3, none⟩ (.int .i64 (-1))) = w4
        intro HA4 HB4 hz4 q0 q1 q2
        clear a0 a1 a2 a3 b0 b1 b2 b3 HA0 hse
        go_wp2
        go_loopw [19] (fun v wr => ∃ k : Nat, k ≤ mq ∧ v = .int .i64 ((k : Int) - 1) ∧ Hid (Below w2.heap.size w2 wr) ∧ Hid (AlAt wr gb18 (dnB (fun x : Quantity => strEq x.name s1) p.qs k) x0 x1 (-1)) ∧ gb18 < wr.heap.size) (fun v _ => (intOf v + 1).toNat)
        case atStart => exact ⟨mq, by omega, rfl, HB4, (by rw [Hmq.out, dnB_end]; exact HA4), hz4⟩
        case round =>
          obtain ⟨k, hk, rfl, Hb, Ha, hg⟩ := hrel
          obtain ⟨q0, q1, q2⟩ := HQ0.out wr Hb.out
          have hsr := Hb.out.size
          by_cases hk0 : 1 ≤ k
          · have hkl : k - 1 < p.qs.length := by have := Hmq.out; omega
            obtain ⟨d1, d4⟩ := HW1.out wr Hb.out
            obtain ⟨qb, off, hqA, hqb, hqcell⟩ := HSq.out (by omega)
            rw [hqA] at q0
            have cN : wr.cell? ⟨qb, off + (k - 1) * 7, none⟩ = some (.string p.qs[k - 1].name) := (Hb.out.cell (p := ⟨qb, off + (k - 1) * 7 + 0, none⟩) hqb).trans (hqcell (k - 1) hkl 0 _ rfl)
            have hkc : ((k - 1 : Nat) : Int) = (k : Int) - 1 := by omega
            have Hkc := Lib.hid hkc
            clear hqcell hkc
            cases hP : strEq p.qs[k - 1].name s1
            · have Hm := Lib.hid (show dnB (fun x : Quantity => strEq x.name s1) p.qs (k - 1) = dnB (fun x : Quantity => strEq x.name s1) p.qs k by
                have h := dnB_miss (P := (fun x : Quantity => strEq x.name s1)) (xs := p.qs) hkl hP
                rwa [Nat.sub_add_cancel hk0] at h)
              unfold strEq at hP
              generalize p.qs[k - 1].name = nmK at cN hP
              go_wp2
              go_quiet (fail)
              have hb3 := below_drewN' wr nq
              revert hb3
              generalize wr.drewN nq = w3
              intro hb3
              have hs3 := hb3.size
              go_wp2
              go_roundw
              case rel => exact ⟨k - 1, by omega, by rw [Hkc.out], Lib.hid (Hb.out.trans (hb3.mono hsr)), Lib.hid (by rw [Hm.out]; exact Ha.out.below hb3 hg), by omega⟩
              case measure => simp [intOf]; omega
            · have Hm := Lib.hid (show dnB (fun x : Quantity => strEq x.name s1) p.qs (k - 1) = (k : Int) - 1 by
                rw [dnB_hit (P := (fun x : Quantity => strEq x.name s1)) (xs := p.qs) hkl hP, Hkc.out])
              unfold strEq at hP
              generalize p.qs[k - 1].name = nmK at cN hP
              go_wp2
              go_quiet (fail)
              have hb3 := below_drewN' wr nq
              revert hb3
              generalize wr.drewN nq = w3
              intro hb3
              have hs3 := hb3.size
              have Ha3 := Lib.hid (Ha.out.below hb3 hg)
              have a0 := Ha3.out.c0
              have b0 := Ha3.out.free 0
              go_wp2
              go_roundw
              case rel => exact ⟨k - 1, by omega, by rw [Hkc.out], Lib.hid ((Hb.out.trans (hb3.mono hsr)).setCell (p := ⟨gb18, 0, none⟩) hg18 _), Lib.hid (by rw [Hm.out]; exact Ha3.out.set0 _), by simp [World.setCell]; omega⟩
              case measure => simp [intOf]; omega
          · obtain rfl : k = 0 := by omega
            rw [dnB_zero] at Ha
            have Hiq := Lib.hid (show idxB (fun x : Quantity => strEq x.name (ws.getD 1 default)) p.qs = idxB (fun x : Quantity => strEq x.name s1) p.qs by rw [Hs1.out])
            generalize idxB (fun x : Quantity => strEq x.name s1) p.qs = iq at Ha Hiq
            go_wp2
            go_loopw [20] (fun v wr => ∃ k : Nat, k ≤ nm ∧ v = .int .i64 ((k : Int) - 1) ∧ Hid (Below w2.heap.size w2 wr) ∧ Hid (AlAt wr gb18 iq x0 x1 (dnB (fun x : Measure => strEq x.name s4) p.ms k)) ∧ gb18 < wr.heap.size) (fun v _ => (intOf v + 1).toNat)
            case atStart => exact ⟨nm, by omega, rfl, Hb, (by rw [Hnm.out, dnB_end]; exact Ha), hg⟩
            case round =>
              obtain ⟨k, hk, rfl, Hb, Ha, hg⟩ := hrel
              obtain ⟨q0, q1, q2⟩ := HQ0.out wr Hb.out
              have hsr := Hb.out.size
              by_cases hk0 : 1 ≤ k
              · have hkl : k - 1 < p.ms.length := by have := Hnm.out; omega
                obtain ⟨d1, d4⟩ := HW1.out wr Hb.out
                obtain ⟨qb, off, hqA, hqb, hqcell⟩ := HSm.out (by omega)
                rw [hqA] at q1
                have cN : wr.cell? ⟨qb, off + (k - 1) * 5, none⟩ = some (.string p.ms[k - 1].name) := (Hb.out.cell (p := ⟨qb, off + (k - 1) * 5 + 0, none⟩) hqb).trans (hqcell (k - 1) hkl 0 _ rfl)
                have hkc : ((k - 1 : Nat) : Int) = (k : Int) - 1 := by omega
                have Hkc := Lib.hid hkc
                clear hqcell hkc
                cases hP : strEq p.ms[k - 1].name s4
                · have Hm := Lib.hid (show dnB (fun x : Measure => strEq x.name s4) p.ms (k - 1) = dnB (fun x : Measure => strEq x.name s4) p.ms k by
                    have h := dnB_miss (P := (fun x : Measure => strEq x.name s4)) (xs := p.ms) hkl hP
                    rwa [Nat.sub_add_cancel hk0] at h)
                  unfold strEq at hP
                  generalize p.ms[k - 1].name = nmK at cN hP
                  go_wp2
                  go_quiet (fail)
                  have hb3 := below_drewN' wr nq
                  revert hb3
                  generalize wr.drewN nq = w3
                  intro hb3
                  have hs3 := hb3.size
                  go_wp2
                  go_roundw
                  case rel => exact ⟨k - 1, by omega, by rw [Hkc.out], Lib.hid (Hb.out.trans (hb3.mono hsr)), Lib.hid (by rw [Hm.out]; exact Ha.out.below hb3 hg), by omega⟩
                  case measure => simp [intOf]; omega
                · have Hm := Lib.hid (show dnB (fun x : Measure => strEq x.name s4) p.ms (k - 1) = (k : Int) - 1 by
                    rw [dnB_hit (P := (fun x : Measure => strEq x.name s4)) (xs := p.ms) hkl hP, Hkc.out])
                  unfold strEq at hP
                  generalize p.ms[k - 1].name = nmK at cN hP
                  go_wp2
                  go_quiet (fail)
                  have hb3 := below_drewN' wr nq
                  revert hb3
                  generalize wr.drewN nq = w3
                  intro hb3
                  have hs3 := hb3.size
                  have Ha3 := Lib.hid (Ha.out.below hb3 hg)
                  have a0 := Ha3.out.c3
                  have b0 := Ha3.out.free 3
                  go_wp2
                  go_roundw
                  case rel => exact ⟨k - 1, by omega, by rw [Hkc.out], Lib.hid ((Hb.out.trans (hb3.mono hsr)).setCell (p := ⟨gb18, 3, none⟩) hg18 _), Lib.hid (by rw [Hm.out]; exact Ha3.out.set3 _), by simp [World.setCell]; omega⟩
                  case measure => simp [intOf]; omega
              · obtain rfl : k = 0 := by omega
                rw [dnB_zero] at Ha
                have Him := Lib.hid (show idxB (fun x : Measure => strEq x.name (ws.getD 4 default)) p.ms = idxB (fun x : Measure => strEq x.name s4) p.ms by rw [Hs4.out])
                generalize idxB (fun x : Measure => strEq x.name s4) p.ms = im at Ha Him
                have Hbr := Lib.hid (Hb2.out.trans (Hb.out.mono (by omega)))
                have HZr := Lib.hid ((Hb.out.block (w.heap.size + 1) (by omega)).trans HZ2.out)
                have HBr := Lib.hid (show BoxAt wr w.heap.size p from (Hb.out.block w.heap.size (by omega)).trans HBox2.out)
                obtain ⟨e0, e1, e2⟩ := res_cells HZr.out
                have f0 : wr.frozen? ⟨w.heap.size + 1, 0, none⟩ = false := by simp [World.frozen?, HZr.out, zeroC]
                have f1 : wr.frozen? ⟨w.heap.size + 1, 1, none⟩ = false := by simp [World.frozen?, HZr.out, zeroC]
                have f2 : wr.frozen? ⟨w.heap.size + 1, 2, none⟩ = false := by simp [World.frozen?, HZr.out, zeroC]
                have a0 := Ha.out.c0
                have a1 := Ha.out.c1
                have a2 := Ha.out.c2
                have a3 := Ha.out.c3
                cases hq0 : decide (iq < 0)
                rotate_left
                · have HStep := Lib.hid (show StepBad p last ws 7 from stepA_none h0.out h00.out Hc.out Hns.out (by rw [Hiq.out, Him.out]; intro h; have h1 := of_decide_eq_true hq0; omega))
                  go_wp2
                  obtain ⟨g0, g1, g2⟩ := res_vals HZr.out (.slice p.qA mq p.qc) (.slice p.mA nm p.mc) (.slice p.aA na p.ac)
                  refine bodyPost_ret (v := .tuple #[.agg #[.slice p.qA mq p.qc, .slice p.mA nm p.mc, .slice p.aA na p.ac], .int .i64 7]) (by simp [results, Tryz.results56, go_sem, g0, g1, g2]) rfl ?_
                  exact LnRef.bad' (by unfold planV; rw [Hmq.out, Hnm.out, Hna.out]) Hbr.out hB (by omega) HStep.out
                cases hm0 : decide (im < 0)
                rotate_left
                · have HStep := Lib.hid (show StepBad p last ws 7 from stepA_none h0.out h00.out Hc.out Hns.out (by rw [Hiq.out, Him.out]; intro h; have h1 := of_decide_eq_true hm0; omega))
                  go_wp2
                  obtain ⟨g0, g1, g2⟩ := res_vals HZr.out (.slice p.qA mq p.qc) (.slice p.mA nm p.mc) (.slice p.aA na p.ac)
                  refine bodyPost_ret (v := .tuple #[.agg #[.slice p.qA mq p.qc, .slice p.mA nm p.mc, .slice p.aA na p.ac], .int .i64 7]) (by simp [results, Tryz.results56, go_sem, g0, g1, g2]) rfl ?_
                  exact LnRef.bad' (by unfold planV; rw [Hmq.out, Hnm.out, Hna.out]) Hbr.out hB (by omega) HStep.out
                have Hge := Lib.hid (show 0 ≤ iq ∧ 0 ≤ im from ⟨by have := of_decide_eq_false hq0; omega, by have := of_decide_eq_false hm0; omega⟩)
                have HOr := Lib.hid (HO.out.below Hbr.out)
                have hoA := HOr.out.a
                rw [← Hna.out] at hoA
                have r0 := row_ne (k := w.heap.size) hoA HBr.out (fun cs h => by cases h)
                have r3 := row_ne (k := w.heap.size + 1) hoA HZr.out (fun cs h => by cases h)
                have HoA := Lib.hid hoA
                clear hoA e0 e1 e2 f0 f1 f2
                have hBw : B ≤ wr.heap.size := by omega
                have hwr1 : w.heap.size + 1 < wr.heap.size := by omega
                go_wp2_with (at_builtin; refine wpList_append1 rfl _ _ 24 rfl B 75 _ 4 32 elemAl _ _ _ rfl HoA.out #[.int .i64 iq, .int .i64 x0, .int .i64 x1, .int .i64 im] 1 _ rfl (by simp) rfl (by simp [Value.oneCell']) (by omega) (by omega) ?_; intro v6 w6 hown6 hb6 hsz6 hg6 hblk6; obtain ⟨An, cn, hv6, hcn1, hcn2⟩ := own_cap' hown6; subst hv6; have Ho6 := Lib.hid hown6; have Hg6 := Lib.hid hg6; have heL : w6.heap[w.heap.size]? = some (.cells #[.slice p.qA p.qs.length p.qc, .slice p.mA p.ms.length p.mc, .slice p.aA p.al.length p.ac] 26 (0, 0)) := (hg6.block w.heap.size (by omega) r0).trans HBr.out; have heZ : w6.heap[w.heap.size + 1]? = some zeroC := (hg6.block (w.heap.size + 1) (by omega) r3).trans HZr.out; rw [← Hmq.out, ← Hnm.out, ← Hna.out] at heL; have hcL : w6.cell? ⟨w.heap.size, 2, none⟩ = some (.slice p.aA na p.ac) := (by simp only [World.cell?, heL]; rfl); have hfL : w6.frozen? ⟨w.heap.size, 2, none⟩ = false := (by simp [World.frozen?, heL]); have HeL := Lib.hid heL; have HZ3 := Lib.hid (show (w6.setCell ⟨w.heap.size, 2, none⟩ (.slice An (na + 1) cn)).heap[w.heap.size + 1]? = some zeroC by rw [Below.heap_setCell _ _ _ _ (by simp)]; exact heZ); have HB3 := Lib.hid (show (w6.setCell ⟨w.heap.size, 2, none⟩ (.slice An (na + 1) cn)).heap[w.heap.size]? = some (.cells #[.slice p.qA mq p.qc, .slice p.mA nm p.mc, .slice An (na + 1) cn] 26 (0, 0)) by simp [World.setCell, Array.getElem?_modify, heL]); have k0 : (w6.setCell ⟨w.heap.size, 2, none⟩ (.slice An (na + 1) cn)).cell? ⟨w.heap.size, 0, none⟩ = some (.slice p.qA mq p.qc) := (by simp only [World.cell?, HB3.out]; rfl); have k1 : (w6.setCell ⟨w.heap.size, 2, none⟩ (.slice An (na + 1) cn)).cell? ⟨w.heap.size, 1, none⟩ = some (.slice p.mA nm p.mc) := (by simp only [World.cell?, HB3.out]; rfl); have k2 : (w6.setCell ⟨w.heap.size, 2, none⟩ (.slice An (na + 1) cn)).cell? ⟨w.heap.size, 2, none⟩ = some (.slice An (na + 1) cn) := (by simp only [World.cell?, HB3.out]; rfl); obtain ⟨e0, e1, e2⟩ := res_cells HZ3.out; have f0 : (w6.setCell ⟨w.heap.size, 2, none⟩ (.slice An (na + 1) cn)).frozen? ⟨w.heap.size + 1, 0, none⟩ = false := (by simp [World.frozen?, HZ3.out, zeroC]); have f1 : (w6.setCell ⟨w.heap.size, 2, none⟩ (.slice An (na + 1) cn)).frozen? ⟨w.heap.size + 1, 1, none⟩ = false := (by simp [World.frozen?, HZ3.out, zeroC]); have f2 : (w6.setCell ⟨w.heap.size, 2, none⟩ (.slice An (na + 1) cn)).frozen? ⟨w.heap.size + 1, 2, none⟩ = false := (by simp [World.frozen?, HZ3.out, zeroC]); clear heL heZ hown6 hb6 hsz6 hg6 hblk6 hcn1 hcn2 q0 q1 q2 a0 a1 a2 a3)
                obtain ⟨g0, g1, g2⟩ := res_vals HZ3.out (.slice p.qA mq p.qc) (.slice p.mA nm p.mc) (.slice An (na + 1) cn)
                refine bodyPost_ret (v := .tuple #[.agg #[.slice p.qA mq p.qc, .slice p.mA nm p.mc, .slice An (na + 1) cn], .int .i64 0]) (by simp [results, Tryz.results56, go_sem, g0, g1, g2]) rfl ?_
                refine LnRef.good' (p' := { p with aA := An, ac := cn, al := p.al ++ [⟨iq, x0, x1, im⟩] }) (by unfold planV; rw [Hmq.out, Hnm.out]; simp [Hna.out]) (((Hbr.out.mono hB).grown Hg6.out hBw (fun k hk => (HoA.out.lt k hk).1)).setCell (p := ⟨w.heap.size, 2, none⟩) hB _) (KeepO.fin Hbr.out HoA.out (.inr (.inr (.inr rfl))) Hg6.out (.inl rfl)) hB (by omega) HZ3.out ?_ ?_
                · have hst := stepA_ok (p := p) (last := last) (A := An) (c := cn) h0.out h00.out Hc.out Hns.out (by rw [Hiq.out, Him.out]; exact Hge.out)
                  rw [Hiq.out, Him.out] at hst
                  exact hst
                · refine OwnP.addA (w := wr) (w' := w6.setCell ⟨w.heap.size, 2, none⟩ _) (p := p) (a := ⟨iq, x0, x1, im⟩) HOr.out ?_ ?_
                  · rw [← Hna.out]
                    exact own_setK Ho6.out HeL.out (by decide) _
                  · intro t size v n xs hk hne hv
                    exact own_setK (own_kind hv HoA.out Hg6.out hne) HeL.out (plan_ne _ hk) _
end Go.Proofs.YtcgnpndfhhcplaaGreatDoor
