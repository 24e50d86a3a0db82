/-
  The specification's reader of a line: all of its ends. Conditions: the parts are the call's own; texts are short.
  The specification's Parse: the plan of a text, its first wrong line, its error. Conditions: the text is of at most 65536 bytes.
  The law WatchParses answers true. Conditions: package-level variables of Go's library read as their initialisers lay them.
  The tied card of WatchParses holds: for every input the law returns true, and the argument reads behind the call as it read before. Condition: the row's own: tables and errors of Go's library read as the program's text lays them; the card ties them to the text.
-/
import Derived.Test.YtcgnpndfhhcplaaGreatDoorRLnX
import Derived.Test.YtcgnpndfhhcplaaGreatDoorRLnQ
import Derived.Test.YtcgnpndfhhcplaaGreatDoorRLnG1
import Derived.Test.YtcgnpndfhhcplaaGreatDoorRLnG2
import Derived.Test.YtcgnpndfhhcplaaGreatDoorRLnM
import Derived.Test.YtcgnpndfhhcplaaGreatDoorRLnA
import Derived.Test.YtcgnpndfhhcplaaGreatDoorRLn0
import Derived.Test.YtcgnpndfhhcplaaGreatDoorPars
import Derived.Test.YtcgnpndfhhcplaaGreatDoorRCheck
import Derived.Test.YtcgnpndfhhcplaaGreatDoorSame
import Derived.Test.YtcgnpndfhhcplaaGreatDoorWakes
import Derived.Test.YtcgnpndfhhcplaaGreatDoorEnvL
import Derived.Test.YtcgnpndfhhcplaaGreatDoorOpen
import Derived.Test.YtcgnpndfhhcplaaGreatDoorCards
import Derived.Test.YtcgnpndfhhcplaaGreatDoorTie
import Derived.OpenShut
import Derived.Lay
import Derived.Stop.Joined
import Derived.SevenTiedAt
namespace Go.Proofs.YtcgnpndfhhcplaaGreatDoor
open Go.RowKit W7
theorem int_ne {a b : Nat} (h : a ≠ b) : ((a : Int) == (b : Int)) = false := beq_false_of_ne (by omega)
theorem int_eq {a b : Nat} (h : a = b) : ((a : Int) == (b : Int)) = true := by rw [h]; exact beq_self_eq_true _
theorem refLine_any (p : Plan) (last : ByteArray) (ws : List ByteArray) (B bw n c : Nat) (w : World) (hn : n = ws.length) (h1 : 1 ≤ n) (hO : OwnP B w p) (hB : B ≤ w.heap.size) (hW : WordsIn w bw ws) (hnc : n ≤ c) (hc : c ≤ 9223372036854775807) (hl : n ≤ 1000000) (hs : ∀ s ∈ ws, s.size ≤ 1000000)
    (hlq : p.qs.length ≤ 1000000) (hlg : ∀ q ∈ p.qs, q.gs.length ≤ 1000000) (hlm : p.ms.length ≤ 1000000) (hla : p.al.length ≤ 1000000) (hpq : last.toList = wQ ∨ last.toList = wG → p.qs ≠ []) :
    Calls Tryz.prog 56 #[planV p, .slice (some ⟨bw, 0, none⟩) n c, .string last] w (LnRef p last ws B w) := by
  by_cases hall : ∀ j (hj : j < ws.length), (ws[j].toList == []) = false
  rotate_left
  · have hex : ∃ x ∈ ws, (fun s : ByteArray => s.toList == []) x = true := by
      refine Classical.byContradiction fun hh => hall fun j hj => ?_
      rw [Bool.eq_false_iff]
      exact fun hx => hh ⟨ws[j], List.getElem_mem hj, hx⟩
    have hlt := List.findIdx_lt_length_of_exists hex
    exact refLineE_any p last ws B bw n c w hn h1 hO hB hW hl (ws.findIdx fun s => s.toList == []) (by omega) (fun j hj hji => List.not_of_lt_findIdx hji) (fun hj => List.findIdx_getElem (w := hj))
  have hin : 0 < ws.length := by omega
  have h0 := no_empty hall
  have hh := head_words hin
  cases hq : (ws[0].toList == [113, 117, 97, 110, 116, 105, 116, 121]) with
  | true =>
    have e := eq_of_beq hq
    have hg : (ws[0].toList == [103, 97, 117, 103, 101]) = false := by rw [e]; rfl
    have hm : (ws[0].toList == [109, 101, 97, 115, 117, 114, 101]) = false := by rw [e]; rfl
    have ha : (ws[0].toList == [97, 108, 97, 114, 109]) = false := by rw [e]; rfl
    by_cases hx : n = 7 ∧ p.ms.length = 0 ∧ p.al.length = 0
    · exact refLineQ_any p last ws B bw n c w hn h1 hO hB hW hl hs hall (fun _ => hq) hx.1 hx.2.1 hx.2.2 hlq
    refine refLineX_any p last ws B bw n c w hn h1 hO hB hW hl hall (fun _ nm na hnm hna => ?_) (stepQ_bad h0 (hh.trans e) (.inl (by rw [← hn]; exact hx)))
    by_cases h7 : n = 7
    · by_cases h8 : nm = 0
      · have h9 : na ≠ 0 := fun h => hx ⟨h7, by omega, by omega⟩
        exact Or.inr (Or.inr (Or.inr (Or.inl (⟨hq, hg, hm, ha, int_eq h7, int_eq h8, int_ne h9⟩))))
      · exact Or.inr (Or.inr (Or.inl (⟨hq, hg, hm, ha, int_eq h7, int_ne h8⟩)))
    · exact Or.inr (Or.inl (⟨hq, hg, hm, ha, int_ne h7⟩))
  | false =>
    cases hg : (ws[0].toList == [103, 97, 117, 103, 101]) with
    | true =>
      have e := eq_of_beq hg
      have hm : (ws[0].toList == [109, 101, 97, 115, 117, 114, 101]) = false := by rw [e]; rfl
      have ha : (ws[0].toList == [97, 108, 97, 114, 109]) = false := by rw [e]; rfl
      by_cases hx : n = 5 ∧ (last.toList = wQ ∨ last.toList = wG)
      · cases hlq' : (last.toList == [113, 117, 97, 110, 116, 105, 116, 121]) with
        | true => exact refLineG1_any p last ws B bw n c w hn h1 hO hB hW hl hs hall (fun _ => hg) hx.1 hlq' (hpq hx.2) hlq hlg
        | false =>
          refine refLineG2_any p last ws B bw n c w hn h1 hO hB hW hl hs hall (fun _ => hg) hx.1 hlq' ?_ (hpq hx.2) hlq hlg
          rcases hx.2 with h | h
          · rw [h] at hlq'; exact absurd hlq' (by decide)
          · rw [h]; rfl
      refine refLineX_any p last ws B bw n c w hn h1 hO hB hW hl hall (fun _ nm na hnm hna => ?_) (stepG_bad h0 (hh.trans e) (.inl (by rw [← hn]; exact hx)))
      by_cases h7 : n = 5
      · have h8 : (last.toList == [113, 117, 97, 110, 116, 105, 116, 121]) = false := beq_false_of_ne fun h => hx ⟨h7, .inl h⟩
        have h9 : (last.toList == [103, 97, 117, 103, 101]) = false := beq_false_of_ne fun h => hx ⟨h7, .inr h⟩
        exact Or.inr (Or.inr (Or.inr (Or.inr (Or.inr (Or.inl (⟨hq, hg, hm, ha, int_eq h7, h8, h9⟩))))))
      · exact Or.inr (Or.inr (Or.inr (Or.inr (Or.inl (⟨hq, hg, hm, ha, int_ne h7⟩)))))
    | false =>
      cases hm : (ws[0].toList == [109, 101, 97, 115, 117, 114, 101]) with
      | true =>
        have e := eq_of_beq hm
        have ha : (ws[0].toList == [97, 108, 97, 114, 109]) = false := by rw [e]; rfl
        by_cases hx : n = 6 ∧ p.al.length = 0
        · exact refLineM_any p last ws B bw n c w hn h1 hO hB hW hl hs hall (fun _ => hm) hx.1 hx.2 hlm
        refine refLineX_any p last ws B bw n c w hn h1 hO hB hW hl hall (fun _ nm na hnm hna => ?_) (stepM_bad h0 (hh.trans e) (.inl (by rw [← hn]; exact hx)))
        by_cases h7 : n = 6
        · have h9 : na ≠ 0 := fun h => hx ⟨h7, by omega⟩
          exact Or.inr (Or.inr (Or.inr (Or.inr (Or.inr (Or.inr (Or.inr (Or.inl (⟨hq, hg, hm, ha, int_eq h7, int_ne h9⟩))))))))
        · exact Or.inr (Or.inr (Or.inr (Or.inr (Or.inr (Or.inr (Or.inl (⟨hq, hg, hm, ha, int_ne h7⟩)))))))
      | false =>
        cases ha : (ws[0].toList == [97, 108, 97, 114, 109]) with
        | true =>
          have e := eq_of_beq ha
          by_cases h7 : n = 5
          · exact refLineA_any p last ws B bw n c w hn h1 hO hB hW hnc hc hl hs hall (fun _ => ha) h7 hlq hlm hla
          refine refLineX_any p last ws B bw n c w hn h1 hO hB hW hl hall (fun _ nm na hnm hna => ?_) (stepA_bad h0 (hh.trans e) (.inl (by rw [← hn]; exact h7)))
          exact Or.inr (Or.inr (Or.inr (Or.inr (Or.inr (Or.inr (Or.inr (Or.inr (⟨hq, hg, hm, ha, int_ne h7⟩))))))))
        | false =>
          refine refLineX_any p last ws B bw n c w hn h1 hO hB hW hl hall (fun _ nm na hnm hna => ?_) (step_other h0 (fun e => ?_) (fun e => ?_) (fun e => ?_) (fun e => ?_))
          · exact Or.inl (⟨hq, hg, hm, ha⟩)
          · rw [hh.symm.trans e] at hq; exact absurd hq (by decide)
          · rw [hh.symm.trans e] at hg; exact absurd hg (by decide)
          · rw [hh.symm.trans e] at hm; exact absurd hm (by decide)
          · rw [hh.symm.trans e] at ha; exact absurd ha (by decide)
end Go.Proofs.YtcgnpndfhhcplaaGreatDoor
namespace Go.Proofs.YtcgnpndfhhcplaaGreatDoor
open Go.RowKit W7
attribute [local go_sem] Oper.semAt_some
theorem plan_notP : ¬ PKind 26 := by unfold PKind; decide
theorem str_notP : ¬ PKind 9 := by unfold PKind; decide
theorem BoxAt.put {w : World} {b : Nat} {p : Plan} (h : BoxAt w b p) (p' : Plan) :
    (w.setCell ⟨b, 0, none⟩ (.slice p'.qA p'.qs.length p'.qc)).heap[b]? = some (.cells #[.slice p'.qA p'.qs.length p'.qc, .slice p.mA p.ms.length p.mc, .slice p.aA p.al.length p.ac] 26 (0, 0)) ∧
    ((w.setCell ⟨b, 0, none⟩ (.slice p'.qA p'.qs.length p'.qc)).setCell ⟨b, 1, none⟩ (.slice p'.mA p'.ms.length p'.mc)).heap[b]? = some (.cells #[.slice p'.qA p'.qs.length p'.qc, .slice p'.mA p'.ms.length p'.mc, .slice p.aA p.al.length p.ac] 26 (0, 0)) ∧ BoxAt (putP w b p') b p' := by
  unfold BoxAt at h
  have h1 : (w.setCell ⟨b, 0, none⟩ (.slice p'.qA p'.qs.length p'.qc)).heap[b]? = some (.cells #[.slice p'.qA p'.qs.length p'.qc, .slice p.mA p.ms.length p.mc, .slice p.aA p.al.length p.ac] 26 (0, 0)) := by
    simp [World.setCell, Array.getElem?_modify, h]
  have h2 : ((w.setCell ⟨b, 0, none⟩ (.slice p'.qA p'.qs.length p'.qc)).setCell ⟨b, 1, none⟩ (.slice p'.mA p'.ms.length p'.mc)).heap[b]? = some (.cells #[.slice p'.qA p'.qs.length p'.qc, .slice p'.mA p'.ms.length p'.mc, .slice p.aA p.al.length p.ac] 26 (0, 0)) := by
    generalize w.setCell ⟨b, 0, none⟩ (.slice p'.qA p'.qs.length p'.qc) = w1 at h1
    simp [World.setCell, Array.getElem?_modify, h1]
  refine ⟨h1, h2, ?_⟩
  unfold BoxAt putP
  generalize (w.setCell ⟨b, 0, none⟩ (.slice p'.qA p'.qs.length p'.qc)).setCell ⟨b, 1, none⟩ (.slice p'.mA p'.ms.length p'.mc) = w1 at h2
  simp [World.setCell, Array.getElem?_modify, h2]
theorem OwnP.put {B b : Nat} {w : World} {p p' : Plan} (hO : OwnP B w p') (h : BoxAt w b p) : OwnP B (putP w b p') p' :=
  ((hO.setK (lb := b) (j := 0) h plan_ne _).setK (lb := b) (j := 1) (h.put p').1 plan_ne _).setK (lb := b) (j := 2) (h.put p').2.1 plan_ne _
theorem WordsIn.keep {w w' : World} {b : Nat} {ws : List ByteArray} (h : WordsIn w b ws) (he : w'.heap[b]? = w.heap[b]?) : WordsIn w' b ws :=
  ⟨by rw [he]; exact h.blk, fun j hj => (World.cell?_of_block (a := ⟨b, j, none⟩) he).trans (h.cell j hj)⟩
theorem WordsIn.kept {lb b : Nat} {w w' : World} {ws : List ByteArray} (h : WordsIn w b ws) (hk : KeepO lb w w') (hne : b ≠ lb) : WordsIn w' b ws := by
  obtain ⟨cs, hc⟩ := h.blk
  refine h.keep ?_
  rw [hc]
  exact hk b _ h.lt hne hc (fun cs' e he => by cases he; exact str_notP)
theorem WordsIn.ne {w : World} {b b' : Nat} {ws : List ByteArray} {p : Plan} (h : WordsIn w b ws) (hx : BoxAt w b' p) : b ≠ b' := by
  rintro rfl
  obtain ⟨cs, hc⟩ := h.blk
  unfold BoxAt at hx
  rw [hx] at hc
  simp only [Option.some.injEq, Obj.cells.injEq] at hc
  exact absurd hc.2.1 (by decide)
theorem lines_mem {l x : List UInt8} (h : x ∈ linesL l) : x.length ≤ l.length := by
  unfold linesL dropE at h
  split at h
  · exact parts_mem_len (List.dropLast_subset _ h)
  · exact parts_mem_len h
/-- what holds while lines are read -/
def RefI (t : ByteArray) (w : World) (ls : List ByteArray) (bl n : Nat) (a b : Value) (wr : World) : Prop := ∃ (i : Nat) (p : Plan) (last : ByteArray), i ≤ n ∧ a = .string last ∧ b = .int .i64 i ∧ Below w.heap.size w wr ∧ w.heap.size + 2 ≤ wr.heap.size ∧ wr.heap[w.heap.size]? = some zeroC ∧
  BoxAt wr (w.heap.size + 1) p ∧ OwnP w.heap.size wr p ∧ WordsIn wr bl ls ∧ Inv 65536 p last.data.toList i ∧ runL emptyP [] 0 (linesL t.data.toList) = runL (absP p) last.data.toList i ((linesL t.data.toList).drop i)
set_option maxHeartbeats 4000000 in
set_option maxRecDepth 100000 in
theorem refParse_any (t : ByteArray) (w : World) (ht : t.size ≤ 65536) : Calls Tryz.prog 17 #[.string t] w (ParsR t w) := by
  have htl : t.data.toList.length ≤ 65536 := by rw [← Lib.size_eq]; exact ht
  have Htl := Lib.hid htl
  obtain ⟨W0, hW0⟩ : ∃ W0, W0 = (w.alloc (.cells #[.slice none 0 0, .slice none 0 0, .slice none 0 0] 26)).alloc (.cells #[.slice none 0 0, .slice none 0 0, .slice none 0 0] 26) := ⟨_, rfl⟩
  have hs0 : W0.heap.size = w.heap.size + 2 := by rw [hW0]; simp
  have HB0 := Lib.hid (show Below w.heap.size w W0 by rw [hW0]; exact ((Below.refl w.heap.size w).alloc (Nat.le_refl _) _).alloc (by simp) _)
  have HZ0 := Lib.hid (show W0.heap[w.heap.size]? = some zeroC by
    rw [hW0, Below.heap_alloc _ _ _ (by simp)]
    exact heap_alloc_new _ _)
  have HX0 := Lib.hid (show BoxAt W0 (w.heap.size + 1) emptyP by
    have h := heap_alloc_new (w.alloc (.cells #[.slice none 0 0, .slice none 0 0, .slice none 0 0] 26)) (.cells #[.slice none 0 0, .slice none 0 0, .slice none 0 0] 26)
    have hz : (w.alloc (.cells #[.slice none 0 0, .slice none 0 0, .slice none 0 0] 26)).heap.size = w.heap.size + 1 := by simp
    rw [hz] at h
    rw [hW0]
    exact h)
  have HLi := Lib.hid (refLines_any t W0 (by omega))
  have HW0 := Lib.hid hW0
  clear htl hW0
  go_enter Tryz.func17, Tryz.ntmps17
  go_wp2_with (go_at_call 54; fail)
  rw [← HW0.out]
  refine HLi.out.mono ?_
  rintro r w1 ⟨ls, bl, n, c, hmap, hn, hnl, rfl, hWl, hb1⟩
  have Hmap := Lib.hid hmap
  have Hn := Lib.hid hn
  have Hb1 := Lib.hid hb1
  have HWl := Lib.hid hWl
  have hs1 := hb1.size
  clear hmap hn hb1 hWl HLi
  go_wp2
  go_loopw [6, 8] (fun a b wr => RefI t w ls bl n a b wr) (fun _ b _ => n - (intOf b).toNat)
  case atStart =>
    refine ⟨0, emptyP, ByteArray.empty, by omega, rfl, rfl, HB0.out.trans (Hb1.out.mono (by omega)), by omega, (Hb1.out.block _ (by omega)).trans HZ0.out, (Hb1.out.block _ (by omega)).trans HX0.out, own_empty _ _, HWl.out, inv_empty _, ?_⟩
    rfl
  case round =>
    obtain ⟨i, p, last, hi, rfl, rfl, hb, hsz, hres, hbox, hO, hWr, hI, hrun⟩ := hrel
    have Hbox := Lib.hid hbox
    have HO := Lib.hid hO
    have HI := Lib.hid hI
    have Hrun := Lib.hid hrun
    have Hres := Lib.hid hres
    have HWr := Lib.hid hWr
    have Hb := Lib.hid hb
    clear hbox hO hI hrun hres hWr hb
    by_cases hlt : i < n
    rotate_left
    · have HP2 := Lib.hid (HO.out.pin HI.out (by decide) (by omega))
      have HC := Lib.hid (refCheck_any p wr.heap.size wr HP2.out (Nat.le_refl _))
      have HEnd := Lib.hid (par_end (t := t.data.toList) (p := absP p) (i := i) (by rw [Hrun.out, List.drop_of_length_le (by rw [← Hmap.out, List.length_map]; have := Hn.out; omega)]; rfl) Htl.out)
      rw [planErr_abs] at HEnd
      obtain ⟨pe, hpe⟩ : ∃ x, x = planErr p := ⟨_, rfl⟩
      rw [← hpe] at HEnd HC
      have Hpe := Lib.hid hpe
      obtain ⟨l0, l1, l2⟩ := Hbox.out.cells
      clear hpe
      go_wp2_with (go_at_call 11; fail)
      refine HC.out.mono ?_
      rintro r w3 ⟨rfl, hb3⟩
      have hs3 := hb3.size
      have hres3 := (hb3.block _ (by omega)).trans Hres.out
      have HX3 := Lib.hid (show BoxAt w3 (w.heap.size + 1) p from (hb3.block _ (by omega)).trans Hbox.out)
      have HO3 := Lib.hid (HO.out.below hb3)
      have Hb3 := Lib.hid (Hb.out.trans (hb3.mono (by omega)))
      have Hres3 := Lib.hid hres3
      obtain ⟨e0, e1, e2⟩ := res_cells hres3
      have f0 : w3.frozen? ⟨w.heap.size, 0, none⟩ = false := by simp [World.frozen?, hres3, zeroC]
      have f1 : w3.frozen? ⟨w.heap.size, 1, none⟩ = false := by simp [World.frozen?, hres3, zeroC]
      have f2 : w3.frozen? ⟨w.heap.size, 2, none⟩ = false := by simp [World.frozen?, hres3, zeroC]
      obtain ⟨k0, k1, k2⟩ := HX3.out.cells
      clear hb3 hres3 l0 l1 l2
      cases hp0 : (pe == 0)
      · have Hp0 := Lib.hid (show pe ≠ 0 from fun h => by rw [h] at hp0; cases hp0)
        go_wp2
        have Hr0 := Lib.hid (show ((((w3.setCell ⟨w.heap.size, 0, none⟩ (.slice none 0 0)).setCell ⟨w.heap.size, 1, none⟩ (.slice none 0 0)).setCell ⟨w.heap.size, 2, none⟩ (.slice none 0 0)) : World).heap[w.heap.size]? = some zeroC from res_set Hres3.out _ _ _)
        obtain ⟨g0, g1, g2⟩ := res_cells Hr0.out
        refine bodyPost_ret (v := .tuple #[.agg #[.slice none 0 0, .slice none 0 0, .slice none 0 0], .int .i64 0, .int .i64 pe]) (by simp [results, Tryz.results17, go_sem, g0, g1, g2]) rfl ?_
        exact ParsR.bad (n := 0) (((Hb3.out.setCell (p := ⟨w.heap.size, 0, none⟩) (Nat.le_refl _) _).setCell (p := ⟨w.heap.size, 1, none⟩) (Nat.le_refl _) _).setCell (p := ⟨w.heap.size, 2, none⟩) (Nat.le_refl _) _) ⟨HEnd.out.1, HEnd.out.2.1, by rw [HEnd.out.2.2, if_neg Hp0.out]⟩
      · have Hp0 := Lib.hid (eq_of_beq hp0)
        go_wp2
        obtain ⟨Hr0, g0, g1, g2⟩ := res_plan (w := w3) (b := w.heap.size) Hres3.out p
        have HR0 := Lib.hid Hr0
        clear Hr0
        refine bodyPost_ret (v := .tuple #[planV p, .int .i64 0, .int .i64 0]) (by simp [results, Tryz.results17, go_sem, g0, g1, g2]; rfl) rfl ?_
        have hO4 := ((HO3.out.setK (lb := w.heap.size) (j := 0) Hres3.out plan_ne (.slice p.qA p.qs.length p.qc)).setK (lb := w.heap.size) (j := 1) HR0.out.1 plan_ne (.slice p.mA p.ms.length p.mc)).setK (lb := w.heap.size) (j := 2) HR0.out.2 plan_ne (.slice p.aA p.al.length p.ac)
        refine ⟨((Hb3.out.setCell (p := ⟨w.heap.size, 0, none⟩) (Nat.le_refl _) _).setCell (p := ⟨w.heap.size, 1, none⟩) (Nat.le_refl _) _).setCell (p := ⟨w.heap.size, 2, none⟩) (Nat.le_refl _) _, p, ?_, ?_, hO4, hO4.pin HI.out (by decide) (by omega)⟩
        · rw [HEnd.out.1, HEnd.out.2.1, Hp0.out]; rfl
        · rw [HEnd.out.2.2, if_pos Hp0.out]
    · have hil : i < ls.length := by have := Hn.out; omega
      have c0 := HWr.out.cell i hil
      obtain ⟨x, hx⟩ : ∃ x, x = ls[i] := ⟨_, rfl⟩
      rw [← hx] at c0
      have hxm : x.data.toList ∈ linesL t.data.toList := by
        rw [← Hmap.out]
        exact List.mem_map.2 ⟨x, by rw [hx]; exact List.getElem_mem _, rfl⟩
      have hxl : x.data.toList.length ≤ 65536 := Nat.le_trans (lines_mem hxm) Htl.out
      have hxs : x.size ≤ 65536 := by rw [Lib.size_eq]; exact hxl
      have Hdrop := Lib.hid (show (linesL t.data.toList).drop i = x.data.toList :: (linesL t.data.toList).drop (i + 1) by
        have h1 : i < (linesL t.data.toList).length := by rw [← Hmap.out, List.length_map]; exact hil
        have h2 : (linesL t.data.toList)[i] = x.data.toList := by
          have h3 : (linesL t.data.toList)[i]? = some x.data.toList := by rw [← Hmap.out, List.getElem?_map, List.getElem?_eq_getElem hil, hx]; rfl
          exact Option.some.inj ((List.getElem?_eq_getElem h1).symm.trans h3)
        rw [List.drop_eq_getElem_cons h1, h2])
      have Hxl := Lib.hid hxl
      have HPa := Lib.hid (refParts_any x 32 wr (by omega))
      clear hx hxm hxl
      go_wp2_with (go_at_call 55; fail)
      refine HPa.out.mono ?_
      rintro r w1' ⟨ws, v, hws, rfl, hov, hb1'⟩
      obtain ⟨nw, hnw⟩ : ∃ k, k = ws.length := ⟨_, rfl⟩
      have hpl : ws.length = (parts 32 x.data.toList).length := by rw [← hws, List.length_map]
      have hnw1 : 1 ≤ nw := by
        have h1 : 0 < (parts 32 x.data.toList).length := List.length_pos_iff.2 (parts_ne _ _)
        omega
      have hnw2 : nw ≤ 65537 := by
        have h1 := parts_len_le (c := 32) x.data.toList
        have h2 := Hxl.out
        omega
      have hwl : ∀ s ∈ ws, s.size ≤ 65536 := fun s hs => by
        have h1 : s.data.toList ∈ parts 32 x.data.toList := by rw [← hws]; exact List.mem_map.2 ⟨s, hs, rfl⟩
        have h2 := parts_mem_len h1
        rw [Lib.size_eq]
        exact Nat.le_trans h2 Hxl.out
      rw [← hnw] at hov
      obtain ⟨bw, cw, rfl, hbb, hnc, hcw, hW⟩ := WordsIn.own hov hnw hnw1
      have hs1' := hb1'.size
      have HO1 := Lib.hid (HO.out.below hb1')
      have HX1 := Lib.hid (show BoxAt w1' (w.heap.size + 1) p from (hb1'.block _ (by omega)).trans Hbox.out)
      have Hres1 := Lib.hid ((hb1'.block _ (by omega)).trans Hres.out)
      have HWl1 := Lib.hid (HWr.out.of hb1')
      have Hb1' := Lib.hid (Hb.out.trans (hb1'.mono (by omega)))
      have HW := Lib.hid hW
      have Hws := Lib.hid hws
      have Hnw := Lib.hid hnw
      have Hwl := Lib.hid hwl
      have hIq := HI.out.q
      have hIm := HI.out.m
      have hIa := HI.out.a
      have HLine := Lib.hid (refLine_any p last ws w.heap.size bw nw cw w1' hnw hnw1 HO1.out (by omega) hW hnc hcw (by omega) (fun s hs => Nat.le_trans (hwl s hs) (by decide)) (by omega) (fun q hq => Nat.le_trans (HI.out.g q hq) (by omega)) (by omega) (by omega) (by rw [Lib.toList_data]; exact HI.out.l))
      unfold planV at HLine
      obtain ⟨l0, l1, l2⟩ := HX1.out.cells
      clear hws hov hb1' hW hnw hpl hwl hIq hIm hIa
      go_wp2_with (go_at_call 56; fail)
      refine HLine.out.mono ?_
      rintro r w2 ⟨hb2, hk2, hend⟩
      have hs2 := hb2.size
      have HX2 := Lib.hid (show BoxAt w2 (w.heap.size + 1) p from hk2 _ _ HX1.out.lt (by omega) HX1.out (fun cs e he => by cases he; exact plan_notP))
      have Hres2 := Lib.hid (show w2.heap[w.heap.size]? = some zeroC from hk2 _ _ (by omega) (by omega) Hres1.out (fun cs e he => by cases he; exact plan_notP))
      have HWl2 := Lib.hid (HWl1.out.kept hk2 (by have := HWl1.out.lt; omega))
      have HW2 := Lib.hid (HW.out.kept hk2 (by have := HW.out.lt; omega))
      have Hb2 := Lib.hid (Hb1'.out.trans hb2)
      obtain ⟨m0, m1, m2⟩ := HX2.out.cells
      have h0 : w2.frozen? ⟨w.heap.size + 1, 0, none⟩ = false := by simp [World.frozen?, show w2.heap[w.heap.size + 1]? = _ from HX2.out]
      have h1 : w2.frozen? ⟨w.heap.size + 1, 1, none⟩ = false := by simp [World.frozen?, show w2.heap[w.heap.size + 1]? = _ from HX2.out]
      have h2 : w2.frozen? ⟨w.heap.size + 1, 2, none⟩ = false := by simp [World.frozen?, show w2.heap[w.heap.size + 1]? = _ from HX2.out]
      have hall : ∀ p' : Plan, Hid (Below w.heap.size w (putP w2 (w.heap.size + 1) p') ∧ w.heap.size + 2 ≤ (putP w2 (w.heap.size + 1) p').heap.size ∧ (putP w2 (w.heap.size + 1) p').heap[w.heap.size]? = some zeroC ∧ BoxAt (putP w2 (w.heap.size + 1) p') (w.heap.size + 1) p' ∧ WordsIn (putP w2 (w.heap.size + 1) p') bl ls ∧ WordsIn (putP w2 (w.heap.size + 1) p') bw ws) := fun p' => Lib.hid
        ⟨putP_below Hb2.out (by omega), by simp [putP, World.setCell]; omega, by rw [putP_heap (by omega)]; exact Hres2.out, (HX2.out.put p').2.2, HWl2.out.keep (putP_heap (HWl2.out.ne HX2.out)), HW2.out.keep (putP_heap (HW2.out.ne HX2.out))⟩
      clear hb2 hk2
      rcases hend with ⟨k, rfl, hbad⟩ | ⟨p', rfl, hok, hO2⟩
      · have Hp3 := hall p
        have Hfin := Lib.hid (par_bad (t := t.data.toList) (k := k) (n := i + 1) rfl (by rw [Hrun.out, Hdrop.out]; exact (runL_bad (p := p) (last := last) (i := i) (r := (linesL t.data.toList).drop (i + 1)) Hws.out hbad).1) hbad.1 (by rw [Hrun.out, Hdrop.out]; exact (runL_bad (p := p) (last := last) (i := i) (r := (linesL t.data.toList).drop (i + 1)) Hws.out hbad).2) Htl.out)
        have hk0 : (k == 0) = false := beq_false_of_ne hbad.1
        have hk1 : (k != 0) = true := bne_iff_ne.2 hbad.1
        clear hbad hall
        unfold planV
        go_upto_region 12 with fail
        obtain ⟨w3, hw3⟩ : ∃ w3, w3 = ((w2.setCell ⟨w.heap.size + 1, 0, none⟩ (.slice p.qA p.qs.length p.qc)).setCell ⟨w.heap.size + 1, 1, none⟩ (.slice p.mA p.ms.length p.mc)).setCell ⟨w.heap.size + 1, 2, none⟩ (.slice p.aA p.al.length p.ac) := ⟨_, rfl⟩
        rw [show putP w2 (w.heap.size + 1) p = w3 from hw3.symm] at Hp3
        rw [← hw3]
        have Hres3 := Lib.hid Hp3.out.2.2.1
        have Hb3 := Lib.hid Hp3.out.1
        obtain ⟨e0, e1, e2⟩ := res_cells Hres3.out
        have f0 : w3.frozen? ⟨w.heap.size, 0, none⟩ = false := by simp [World.frozen?, Hres3.out, zeroC]
        have f1 : w3.frozen? ⟨w.heap.size, 1, none⟩ = false := by simp [World.frozen?, Hres3.out, zeroC]
        have f2 : w3.frozen? ⟨w.heap.size, 2, none⟩ = false := by simp [World.frozen?, Hres3.out, zeroC]
        clear hw3 Hp3 m0 m1 m2 h0 h1 h2 l0 l1 l2
        go_wp2
        have Hr0 := Lib.hid (show ((((w3.setCell ⟨w.heap.size, 0, none⟩ (.slice none 0 0)).setCell ⟨w.heap.size, 1, none⟩ (.slice none 0 0)).setCell ⟨w.heap.size, 2, none⟩ (.slice none 0 0)) : World).heap[w.heap.size]? = some zeroC from res_set Hres3.out _ _ _)
        obtain ⟨g0, g1, g2⟩ := res_cells Hr0.out
        refine bodyPost_ret (v := .tuple #[.agg #[.slice none 0 0, .slice none 0 0, .slice none 0 0], .int .i64 (i + 1 : Nat), .int .i64 k]) (by simp [results, Tryz.results17, go_sem, g0, g1, g2]) rfl ?_
        exact ParsR.bad (n := i + 1) (((Hb3.out.setCell (p := ⟨w.heap.size, 0, none⟩) (Nat.le_refl _) _).setCell (p := ⟨w.heap.size, 1, none⟩) (Nat.le_refl _) _).setCell (p := ⟨w.heap.size, 2, none⟩) (Nat.le_refl _) _) Hfin.out
      · have Hp3 := hall p'
        have HO3 := Lib.hid (show OwnP w.heap.size (putP w2 (w.heap.size + 1) p') p' from hO2.put HX2.out)
        have hws0 : ws ≠ [] := fun h => by have := Hnw.out; rw [h] at this; simp at this; omega
        have HI3 := Lib.hid (show Inv 65536 p' (ws.headD default).data.toList (i + 1) from by
          have h := stepW_inv (w := wordsL ws) (inv_abs.2 HI.out) (fun x hx => by obtain ⟨s, hs, rfl⟩ := List.mem_map.1 hx; rw [← Lib.size_eq]; exact Hwl.out s hs) (by rw [show stepW (absP p) last.data.toList (wordsL ws) = (0, absP p') from hok])
          rw [show stepW (absP p) last.data.toList (wordsL ws) = (0, absP p') from hok] at h
          have h2 := inv_abs.1 h
          cases ws with
          | nil => exact absurd rfl hws0
          | cons x y => exact h2)
        have Hrun3 := Lib.hid (show runL emptyP [] 0 (linesL t.data.toList) = runL (absP p') (ws.headD default).data.toList (i + 1) ((linesL t.data.toList).drop (i + 1)) by rw [Hrun.out, Hdrop.out]; exact runL_ok Hws.out hok hws0)
        have hw00 : 0 < ws.length := List.length_pos_iff.2 hws0
        have Hhd := Lib.hid (show ws[0] = ws.headD default by
          cases ws with
          | nil => exact absurd rfl hws0
          | cons x y => rfl)
        clear hall hO2 hok
        unfold planV
        go_upto_region 12 with fail
        obtain ⟨w3, hw3⟩ : ∃ w3, w3 = ((w2.setCell ⟨w.heap.size + 1, 0, none⟩ (.slice p'.qA p'.qs.length p'.qc)).setCell ⟨w.heap.size + 1, 1, none⟩ (.slice p'.mA p'.ms.length p'.mc)).setCell ⟨w.heap.size + 1, 2, none⟩ (.slice p'.aA p'.al.length p'.ac) := ⟨_, rfl⟩
        rw [show putP w2 (w.heap.size + 1) p' = w3 from hw3.symm] at Hp3 HO3
        rw [← hw3]
        have c3 := Hp3.out.2.2.2.2.2.cell 0 hw00
        rw [Hhd.out] at c3
        have hw3s := Hp3.out.2.1
        clear hw3 m0 m1 m2 h0 h1 h2 l0 l1 l2
        generalize ws.headD default = y at c3 HI3 Hrun3
        go_wp2
        go_roundw
        case rel => exact ⟨i + 1, p', y, by omega, rfl, by go_num, Hp3.out.1, hw3s, Hp3.out.2.2.1, Hp3.out.2.2.2.1, HO3.out, Hp3.out.2.2.2.2.1, HI3.out, Hrun3.out⟩
        case measure => simp [intOf]; omega
end Go.Proofs.YtcgnpndfhhcplaaGreatDoor
namespace Go.Proofs.YtcgnpndfhhcplaaGreatDoor
open Go.RowKit W7
set_option maxHeartbeats 4000000 in
set_option maxRecDepth 100000 in
theorem LawParses_any (s : ByteArray) (w : World) (hE : Env w.heap.size w) : Calls Tryz.prog 4 #[.string s] w fun e w' => e = .returned (.bool true) ∧ Below w.heap.size w w' := by
  have HE := Lib.hid hE
  clear hE
  cases hc : decide ((s.size : Int) > 2000)
  rotate_left
  · go_enter Tryz.func4, Tryz.ntmps4
    go_wp2_with (go_at_call 7; refine (wakes_any _).mono ?_; rintro r w8 ⟨rfl, hb8⟩)
    go_ret
    exact ⟨rfl, hb8⟩
  have hl : s.size ≤ 2000 := by have := of_decide_eq_false hc; omega
  have H1 := Lib.hid (Parse_any s w (by omega) HE.out)
  go_enter Tryz.func4, Tryz.ntmps4
  go_wp2_with (go_at_call 16; fail)
  refine H1.out.mono ?_
  rintro r w1 ⟨hb1, p, rfl, hp, hO, hpin⟩
  unfold planV
  have Hp := Lib.hid hp
  have Hpin := Lib.hid hpin
  have Hb1 := Lib.hid hb1
  have hs1 := hb1.size
  clear hp hO hpin hb1 H1
  go_upto_region 4 with fail
  obtain ⟨W1, hW1⟩ : ∃ W1, W1 = w1.alloc (.cells #[.slice p.qA p.qs.length p.qc, .slice p.mA p.ms.length p.mc, .slice p.aA p.al.length p.ac] 26) := ⟨_, rfl⟩
  rw [← hW1]
  have hz1 : W1.heap.size = w1.heap.size + 1 := by rw [hW1]; simp
  have HA1 := Lib.hid (show Below w1.heap.size w1 W1 by rw [hW1]; exact (Below.refl _ _).alloc (Nat.le_refl _) _)
  have HX1 := Lib.hid (show BoxAt W1 w1.heap.size p by rw [hW1]; exact heap_alloc_new _ _)
  clear hW1
  have H2 := Lib.hid (refParse_any s W1 (by omega))
  go_wp2_with (go_at_call 17; fail)
  refine H2.out.mono ?_
  rintro r w2 ⟨hb2, o, rfl, ho, hO, hpin⟩
  unfold planV
  have Ho := Lib.hid ho
  have Hoin := Lib.hid hpin
  have hs2 := hb2.size
  have HX2 := Lib.hid (show BoxAt w2 w1.heap.size p from (hb2.block _ (by omega)).trans HX1.out)
  have HC2 := Lib.hid (show Below w1.heap.size w1 w2 from HA1.out.trans (hb2.mono (by omega)))
  clear ho hO hpin hb2 H2
  go_upto_region 5 with fail
  obtain ⟨W2, hW2⟩ : ∃ W2, W2 = w2.alloc (.cells #[.slice o.qA o.qs.length o.qc, .slice o.mA o.ms.length o.mc, .slice o.aA o.al.length o.ac] 26) := ⟨_, rfl⟩
  rw [← hW2]
  have hz2 : W2.heap.size = w2.heap.size + 1 := by rw [hW2]; simp
  have HA2 := Lib.hid (show Below w2.heap.size w2 W2 by rw [hW2]; exact (Below.refl _ _).alloc (Nat.le_refl _) _)
  have HY2 := Lib.hid (show BoxAt W2 w2.heap.size o by rw [hW2]; exact heap_alloc_new _ _)
  clear hW2
  have HX3 := Lib.hid (show BoxAt W2 w1.heap.size p from (HA2.out.block _ (by omega)).trans HX2.out)
  have HPp := Lib.hid (show PIn W2 W2.heap.size p from (Hpin.out.below (HC2.out.trans (HA2.out.mono (by omega)))).mono (by omega))
  have HPo := Lib.hid (show PIn W2 W2.heap.size o from (Hoin.out.below HA2.out).mono (by omega))
  have HS := Lib.hid (refSame_any p o W2.heap.size W2 HPp.out HPo.out (Nat.le_refl _))
  rw [sameP_abs (Hp.out.trans Ho.out.symm)] at HS
  have HBe := Lib.hid (show Below w.heap.size w W2 from Hb1.out.trans ((HC2.out.trans (HA2.out.mono (by omega))).mono (by omega)))
  obtain ⟨l0, l1, l2⟩ := HX3.out.cells
  obtain ⟨m0, m1, m2⟩ := HY2.out.cells
  generalize parN s.data.toList = N
  generalize parE s.data.toList = E
  have hN : ((N : Int) == (N : Int)) = true := beq_self_eq_true _
  have hE : (E == E) = true := beq_self_eq_true _
  go_wp2_with (go_at_call 13; fail)
  refine HS.out.mono ?_
  rintro r w3 ⟨rfl, hb3⟩
  have Hb3 := Lib.hid (HBe.out.trans (hb3.mono (by have := HBe.out.size; omega)))
  clear hb3 HS l0 l1 l2 m0 m1 m2
  go_wp2_with (go_at_call 7; refine (wakes_any _).mono ?_; rintro r w8 ⟨rfl, hb8⟩)
  go_ret
  exact ⟨rfl, Hb3.out.trans (hb8.mono (by have := Hb3.out.size; omega))⟩
end Go.Proofs.YtcgnpndfhhcplaaGreatDoor
namespace Go.Proofs.YtcgnpndfhhcplaaGreatDoor
open Go.ChangeShapes Go.WideShapes Go.ChangeAt Go.RowKit W7
set_option maxRecDepth 100000 in
theorem watchParses_lifted (os : Os) (started : os.Started) (H : Type) (enc : TypeId × Value → H) :
    ReturnsInHanded {} Tryz.checked os 4 .any (fun w args => (Rows.watchParsesSpec.pre enc Tryz.prog Tryz.f4 [] false w args ∧ laidMetH Tryz.prog Rows.watchParsesRow.laid w) ∧ sizedMet enc Tryz.prog Tryz.f4 (OpenSpec.ofChange Rows.watchParsesSpec) false w args)
      (Rows.watchParsesSpec.post enc Tryz.prog Tryz.f4 false true false false) := by
  refine returns_and_shaped (C := Tryz.checked) (X := fun w _ => laidMetH Tryz.prog Rows.watchParsesRow.laid w) (fun _ _ _ hh h => h.of_heap hh) Tryz.own started (by kernel_rfl) Tryz.func4
    (ChangeSpec.witness_shaped (enc := enc) (C := Tryz.checked) (os := os) (X := fun w _ => laidMetH Tryz.prog Rows.watchParsesRow.laid w) false (World.laidAll Tryz.prog os Rows.watchParsesRow.laid) #[.string ⟨#[]⟩] 8 (World.laidAll_os _ _ _)
      (World.shaped_of_ZipB (by kernel_rfl) (by kernel_rfl)) (by kernel_rfl) (by kernel_rfl) (by kernel_rfl)
      (by rw [MakeChecks.laidMetH_plain _ _ _ (by kernel_rfl)]; exact laidMet_laidAll _ (by kernel_rfl) (by kernel_rfl))) ?_
  intro W base args ds gs before hval0 hW hL hsh
  have hval : ∀ (j : Nat) t v, Tryz.f4.params[j]? = some t → args[j]? = some v → Value.okWide Tryz.prog W .any base t v := hval0
  have hW' := hW
  obtain ⟨p, q, hA0, hV, rfl, hfz, hnd⟩ := hW
  have hA : DataW.TrodAll enc Tryz.prog W 0 (fun _ => true) true Tryz.f4.params.toList args.toList ds p := hA0
  have hAll := hA
  rw [Tryz.params4] at hA hval
  obtain ⟨v0, d0, rfl, rfl, h0⟩ := trodAll_one hA
  obtain ⟨rfl, rfl⟩ := trodVars_none hV
  obtain ⟨s, rfl⟩ : ∃ s, v0 = .string s := okWide_string Tryz.underlying9 (hval 0 9 v0 rfl rfl)
  have hlt : ∀ x ∈ p, x.block < W.heap.size := fun x hx => hW'.lt x (by simp [hx])
  refine (LawParses_any s W (env_of hL hsh)).mono fun e W' ⟨he, hb⟩ => ?_
  subst he
  exact ⟨_, rfl, post_of_below (pa := p) (pv := []) hW' (fun _ _ _ => trodAll_mk1 (shut_bool Tryz.underlying4 true))
    (fun sp hsp => all_stay Tryz.laidOut _ _ _ _ (fun t ht => by
      rw [Tryz.params4] at ht
      simp only [List.mem_cons, List.not_mem_nil, or_false] at ht
      subst ht
      exact ⟨by kernel_rfl, of_decide_eq_true (by kernel_rfl)⟩) hAll (fun x hx => hb.same (hlt x hx)) (fun x hx => hsp x (by simp [hx])))
    (fun _ _ => rfl) rfl hb (ok_one (by kernel_rfl) rfl (okWide_bool_mk Tryz.underlying4 true))⟩
theorem watchParses_holds : Rows.WatchParsesSaid :=
  OpenClaim.holds_of_wide 4 Tryz.f4 rfl rfl rfl rfl rfl rfl rfl ⟨rfl, rfl, rfl, rfl, rfl⟩ rfl rfl rfl rfl rfl (by kernel_rfl) Tryz.func4 (by kernel_rfl)
    (of_decide_eq_true (by kernel_rfl)) (by unfold Func.isWrapper; first | (rw [if_pos (by decide +kernel)]; kernel_rfl) | (rw [if_neg (by decide +kernel)]; exact ⟨rfl, rfl⟩))
    (fun os started H enc _ => watchParses_lifted os started H enc)
theorem watchParsesCard_holds : Rows.WatchParsesCardSaid :=
  Claim7.holds_tied_plain_at .later [] [.data, .data, .data, .data, .sentinel, .sentinel, .pinned] true Rows.watchParsesCard.stood.harness true
    watchParses_holds (fun _ h => by cases h) (by kernel_rfl) (fun _ h => by cases h) watchParses_row_tie rfl ⟨rfl, rfl⟩ (by kernel_rfl) rfl
    (fun f fn hf hfn => by
      obtain rfl : f = 4 := Option.some.inj ((show Tryz.prog.funcNamed "underpin/underpinlaw07.WatchParses" = some 4 by kernel_rfl).symm.trans hf) |>.symm
      obtain rfl : fn = Tryz.f4 := (Option.some.inj (Tryz.func4.symm.trans hfn)).symm
      exact ⟨by kernel_rfl, fun j t ht => by
        rw [Tryz.params4] at ht
        have hm : t ∈ [9] := by simpa using Array.mem_of_getElem? ht
        have hall : ([9].all fun u => !Tryz.prog.wantsStandIn u) = true := by kernel_rfl
        exact (show Tryz.prog.wantsStandIn t = false by simpa using List.all_eq_true.1 hall t hm)⟩)
    (by kernel_rfl)
end Go.Proofs.YtcgnpndfhhcplaaGreatDoor
