/-
  Package watch's reader of a plan's lines: its method that reads one line. Conditions: the parts are the call's own; texts are short; package-level variables read as their initialisers lay them.
-/
import Derived.Test.YtcgnpndfhhcplaaGreatDoorLnQ
import Derived.Test.YtcgnpndfhhcplaaGreatDoorLnG
import Derived.Test.YtcgnpndfhhcplaaGreatDoorLnM
import Derived.Test.YtcgnpndfhhcplaaGreatDoorLnA
import Derived.Test.YtcgnpndfhhcplaaGreatDoorLines
import Derived.Test.YtcgnpndfhhcplaaGreatDoorTxt
import Derived.Shelf.Slices.Turned
namespace Go.Proofs.YtcgnpndfhhcplaaGreatDoor
open Go.RowKit W7
attribute [local go_sem] Oper.semAt_some
theorem has_lib (b n : Nat) (ws : List ByteArray) (w : World) (hn : n = ws.length) (hl : n ≤ 1000000) (hW : WordsAt w b ws) :
    Calls Tryz.prog 79 #[.slice (some ⟨b, 0, none⟩) n n, .string ⟨#[]⟩] w fun e w' => e = .returned (.bool (Lib.containsS ws ⟨#[]⟩)) ∧ w' = w := by
  refine (Any.slices_Contains_string Tryz.layHas b 0 n n ws ⟨#[]⟩ w (by omega) (by omega) (fun j hj => ?_)).mono fun _ _ ⟨he, hw⟩ => ⟨by rw [he, hn, List.take_length], hw⟩
  have := hW.cell hj
  rw [Nat.zero_add, this, List.getD_eq_getElem?_getD, List.getElem?_eq_getElem hj, Option.getD_some]
/-- how a line ends -/
def LineEnd (p : Plan) (last : ByteArray) (ws : List ByteArray) (lb B : Nat) (e : Ending) (w' : World) : Prop :=
  (∃ k, e = .returned (.int .i64 k) ∧ StepBad p last ws k) ∨ (∃ p', e = .returned (.int .i64 0) ∧ StepOk p last ws p' ∧ LinesAt w' lb p' (ws.headD default) ∧ OwnP B w' p')
def LnR (p : Plan) (last s : ByteArray) (lb B : Nat) (w : World) (e : Ending) (w' : World) : Prop := Below B w w' ∧ KeepO lb w w' ∧ ∃ ws : List ByteArray, wordsL ws = parts 32 s.data.toList ∧ LineEnd p last ws lb B e w'
theorem LnR.bad {p : Plan} {last s : ByteArray} {lb B bE : Nat} {w w2 : World} {ws : List ByteArray} {k : Int} (hws : wordsL ws = parts 32 s.data.toList) (hb : Below B w w2) (hk : KeepO lb w w2) (hE : w.heap.size ≤ bE) (hB : B ≤ w.heap.size) (hs : StepBad p last ws k) : LnR p last s lb B w (.returned (.int .i64 k)) ((w2.setCell ⟨bE, 0, none⟩ (.int .i64 k)).alloc (.cells #[.int .i64 k] 121)) := by
  refine ⟨(hb.setCell (p := ⟨bE, 0, none⟩) (by show B ≤ bE; omega) _).alloc (by have := hb.size; simp; omega) _, fun j o hj hne ho hn => ?_, ws, hws, .inl ⟨k, rfl, hs⟩⟩
  have h1 := hk j o hj hne ho hn
  have h2 : j < w2.heap.size := (Array.getElem?_eq_some_iff.1 h1).1
  rw [Below.heap_alloc _ _ j (by simpa using h2), Below.heap_setCell _ _ _ _ (fun h => by simp at h; omega)]
  exact h1
theorem errno_ne (e : TypeId) (h : PKind e) : 31 ≠ e := by rcases h with rfl | rfl | rfl | rfl <;> decide
theorem string_ne (e : TypeId) (h : PKind e) : 9 ≠ e := by rcases h with rfl | rfl | rfl | rfl <;> decide
theorem LnR.good {p p' : Plan} {last s s0 : ByteArray} {lb B bE : Nat} {w w3 : World} {ws : List ByteArray} (hws : wordsL ws = parts 32 s.data.toList) (hb : Below B w w3) (hk : KeepO lb w w3) (hs : StepOk p last ws p') (hL : LinesAt w3 lb p' last) (hO : OwnP B w3 p') (hx : w3.heap[bE]? = some (.cells #[.int .i64 0] 31 (0, 0))) (hE : w.heap.size ≤ bE) (hB : B ≤ w.heap.size) (hBL : B ≤ lb) (hlb : lb ≠ bE) (h0 : ws.headD default = s0) :
    LnR p last s lb B w (.returned (.int .i64 0)) ((w3.setCell ⟨lb, 3, none⟩ (.string s0)).setCell ⟨bE, 0, none⟩ (.int .i64 0)) := by
  have hx2 : (w3.setCell ⟨lb, 3, none⟩ (.string s0)).heap[bE]? = some (.cells #[.int .i64 0] 31 (0, 0)) := by
    rw [Below.heap_setCell _ _ _ _ (fun h => hlb h.symm)]
    exact hx
  refine ⟨(hb.setCell (p := ⟨lb, 3, none⟩) hBL _).setCell (p := ⟨bE, 0, none⟩) (by show B ≤ bE; omega) _, fun j o hj hne ho hn => ?_, ws, hws, .inr ⟨p', rfl, hs, ?_, ?_⟩⟩
  · rw [Below.heap_setCell _ _ _ _ (fun h => by simp at h; omega), Below.heap_setCell _ _ _ _ (fun h => hne h)]
    exact hk j o hj hne ho hn
  · show (World.heap _)[lb]? = _
    rw [Below.heap_setCell _ _ _ _ (fun h => hlb h), h0]
    simp only [World.setCell, Array.getElem?_modify, if_true]
    unfold LinesAt at hL
    rw [hL]
    rfl
  · exact (hO.setK hL (fun e h => h.ne) _).setK hx2 errno_ne _
theorem parts_mem_len {c : UInt8} : ∀ {l x : List UInt8}, x ∈ parts c l → x.length ≤ l.length
  | [], x, h => by simp [parts] at h; simp [h]
  | y :: r, x, h => by
    unfold parts at h
    split at h
    · rcases List.mem_cons.1 h with rfl | h
      · simp
      · have := parts_mem_len h; simp; omega
    · obtain ⟨z, t, hz⟩ : ∃ z t, parts c r = z :: t := by
        cases hp : parts c r with
        | nil => exact absurd hp (parts_ne _ _)
        | cons z t => exact ⟨z, t, rfl⟩
      rw [hz] at h
      rcases List.mem_cons.1 h with rfl | h
      · have := parts_mem_len (c := c) (l := r) (x := z) (by rw [hz]; simp)
        simp; omega
      · have := parts_mem_len (c := c) (l := r) (x := x) (by rw [hz]; exact List.mem_cons_of_mem _ h)
        simp; omega
theorem parts_len_le {c : UInt8} : ∀ l : List UInt8, (parts c l).length ≤ l.length + 1
  | [] => by simp [parts]
  | y :: r => by
    have := parts_len_le (c := c) r
    have h1 : (parts c r) ≠ [] := parts_ne _ _
    have h2 : 0 < (parts c r).length := List.length_pos_iff.2 h1
    unfold parts
    split
    · simp; omega
    · simp; omega
set_option maxHeartbeats 4000000 in
set_option maxRecDepth 100000 in
theorem read_any (p : Plan) (last s : ByteArray) (lb B : Nat) (w : World) (hL : LinesAt w lb p last) (hO : OwnP B w p) (hBL : B ≤ lb) (hs : s.size ≤ 100000) (hlq : p.qs.length ≤ 1000000) (hlg : ∀ q ∈ p.qs, q.gs.length ≤ 1000000) (hlm : p.ms.length ≤ 1000000) (hla : p.al.length ≤ 1000000) (hpq : last.toList = wQ ∨ last.toList = wG → p.qs ≠ []) (hE : Env B w) :
    Calls Tryz.prog 53 #[.pointer (some ⟨lb, 0, none⟩), .string s] w (LnR p last s lb B w) := by
  have hLw : lb < w.heap.size := (Array.getElem?_eq_some_iff.1 hL).1
  have HL := Lib.hid hL
  have HO := Lib.hid hO
  have Hlg := Lib.hid hlg
  have Hpq := Lib.hid hpq
  have HE := Lib.hid hE
  have hmf : ∀ (fn : Fn) (first cap : Array Value) (w : World), (Instr.makeFunc fn first cap).run Tryz.prog w = .ok (.func fn first cap) w := fun _ _ _ _ => rfl
  clear hL hO hlg hpq hE
  go_enter_defers Tryz.func53, Tryz.ntmps53
  go_wp2_with (go_at_call 77; fail)
  have hb0 : Below w.heap.size w (w.alloc (.cells #[.int .i64 0] 31)) := Below.alloc (Below.refl w.heap.size w) (Nat.le_refl _) _
  have hx0 : (w.alloc (.cells #[.int .i64 0] 31)).heap[w.heap.size]? = some (.cells #[.int .i64 0] 31 (0, 0)) := heap_alloc_new _ _
  have hz0 : (w.alloc (.cells #[.int .i64 0] 31)).heap.size = w.heap.size + 1 := by simp
  revert hb0 hx0 hz0
  generalize w.alloc (.cells #[.int .i64 0] 31) = w0
  intro hb0 hx0 hz0
  have Hb0 := Lib.hid hb0
  have Hx0 := Lib.hid hx0
  have HE0 := Lib.hid (HE.out.on (hb0.mono (by omega)) (Nat.le_refl _))
  have hz1 : w0.heap.size = w.heap.size + 1 := hz0
  clear hb0 hx0
  refine (split_lib s B w0 (by omega) HE0.out).mono ?_
  rintro r w1 ⟨ws, hws, rfl, hw1⟩
  obtain ⟨n, hn⟩ : ∃ k, k = ws.length := ⟨_, rfl⟩
  rw [← hn, hz0]
  have hws' : wordsL ws = parts 32 s.data.toList := hws
  have hne : 0 < ws.length := by
    have h1 : 0 < (parts 32 s.data.toList).length := List.length_pos_iff.2 (parts_ne _ _)
    rw [← hws', wordsL_len] at h1
    exact h1
  have hnl : n ≤ 1000000 := by
    have h1 := parts_len_le (c := 32) s.data.toList
    rw [← hws', wordsL_len, ← hn] at h1
    have h2 : s.data.toList.length = s.size := (Lib.size_eq s).symm
    omega
  have hsz : ∀ x ∈ ws, x.size ≤ 1000000 := fun x hx => by
    have h1 : x.data.toList ∈ parts 32 s.data.toList := by rw [← hws']; exact List.mem_map_of_mem hx
    have h2 := parts_mem_len h1
    rw [← Lib.size_eq, ← Lib.size_eq] at h2
    omega
  have hb1 : Below w0.heap.size w0 w1 := by rw [hw1]; exact Below.alloc (Below.refl _ _) (Nat.le_refl _) _
  have hs1 : w1.heap.size = w.heap.size + 2 := by rw [hw1]; simp [hz0]
  have Hb1 := Lib.hid (Hb0.out.trans (hb1.mono (by omega)))
  have HW1 := Lib.hid (show WordsAt w1 (w.heap.size + 1) ws by unfold WordsAt; rw [hw1, ← hz0]; exact heap_alloc_new _ _)
  have Hx1 := Lib.hid (show w1.heap[w.heap.size]? = some (.cells #[.int .i64 0] 31 (0, 0)) from (hb1.block _ (by omega)).trans Hx0.out)
  have Hws := Lib.hid hws'
  have Hn := Lib.hid hn
  have Hsz := Lib.hid hsz
  obtain ⟨s0, hs0⟩ : ∃ x, x = ws[0] := ⟨_, rfl⟩
  have Hh0 := Lib.hid (show ws.headD default = s0 by rw [hs0]; cases ws with | nil => exact absurd hne (by simp) | cons a b => rfl)
  have Hhw := Lib.hid (show (wordsL ws).headD [] = s0.toList by rw [hs0, Lib.toList_data]; cases ws with | nil => exact absurd hne (by simp) | cons a b => rfl)
  have Hc0 := Lib.hid (show ∀ X : World, WordsAt X (w.heap.size + 1) ws → X.cell? ⟨w.heap.size + 1, 0, none⟩ = some (.string s0) from fun X hX => by rw [hs0]; exact hX.cell hne)
  have hpos : 1 ≤ n := by omega
  have HD := Lib.hid (fun X => demand_no 4 X)
  have HDo := Lib.hid (fun X => demand_ok 4 X)
  have hHas := Lib.hid (fun X (hX : WordsAt X (w.heap.size + 1) ws) => has_lib (w.heap.size + 1) n ws X Hn.out hnl hX)
  have hBw : B ≤ w.heap.size := by omega
  have Hem := Lib.hid (show Lib.containsS ws ⟨#[]⟩ = (wordsL ws).any (·.isEmpty) by
    rw [Bool.eq_iff_iff, Lib.containsS_iff, List.any_eq_true]
    unfold wordsL
    constructor
    · intro h
      exact ⟨[], List.mem_map.2 ⟨_, h, rfl⟩, rfl⟩
    · rintro ⟨x, hx, he⟩
      obtain ⟨y, hy, rfl⟩ := List.mem_map.1 hx
      have h1 : y.data.toList = [] := by simpa using he
      have h2 : y = ⟨#[]⟩ := by rw [← bst_data y, h1]; rfl
      rw [← h2]; exact hy)
  clear hw1 hws hws' hn hsz hs0 hne hb1
  obtain ⟨em, hem⟩ : ∃ x, x = Lib.containsS ws ⟨#[]⟩ := ⟨_, rfl⟩
  rw [← hem] at Hem hHas
  have Hem2 := Lib.hid hem
  clear hem
  go_wp2_with (go_at_call 79; fail)
  refine (hHas.out w1 HW1.out).mono ?_
  rintro r w2 ⟨rfl, rfl⟩
  cases em
  rotate_left
  · go_wp2_with (go_at_call 78; refine (HD.out _).mono ?_; rintro r w3 ⟨rfl, hb3⟩)
    have hx3 := (hb3.block _ (by omega)).trans Hx1.out
    have hs3 := hb3.size
    exact door_stray (x := 0) rfl (by simp only [World.cell?, hx3]; rfl) (by simp [World.frozen?, hx3]) (by omega) (LnR.bad Hws.out ((Hb1.out.trans (hb3.mono (by omega))).mono (by omega)) (KeepO.of_below (Hb1.out.trans (hb3.mono (by omega)))) (Nat.le_refl _) hBw (step_empty Hem.out.symm))
  go_wp2_with (go_at_call 78; fail)
  refine (HDo.out _).mono ?_
  rintro r w3 ⟨rfl, hb3⟩
  have hs3 := hb3.size
  have Hb3 := Lib.hid (Hb1.out.trans (hb3.mono (by omega)))
  have HW3 := Lib.hid (show WordsAt w3 (w.heap.size + 1) ws from (hb3.block _ (by omega)).trans HW1.out)
  have Hx3 := Lib.hid ((hb3.block _ (by omega)).trans Hx1.out)
  have HL3 := Lib.hid (show LinesAt w3 lb p last from (Hb3.out.block lb hLw).trans HL.out)
  have HO3 := Lib.hid (HO.out.below Hb3.out)
  have HE3 := Lib.hid (HE.out.on (Hb3.out.mono hBw) (Nat.le_refl _))
  have c3 := Hc0.out w3 HW3.out
  have hlast : ∀ (X : World) (p' : Plan), LinesAt X lb p' last → X.cell? ⟨lb, 3, none⟩ = some (.string last) ∧ X.frozen? ⟨lb, 3, none⟩ = false := fun X p' h => ⟨h.cells.2.2.2, by unfold LinesAt at h; simp [World.frozen?, h]⟩
  have Hlast := Lib.hid hlast
  have HKx := Lib.hid (fun (X : World) (h : KeepO lb w3 X) => show X.heap[w.heap.size]? = some (.cells #[.int .i64 0] 31 (0, 0)) from h _ _ (by omega) (by omega) Hx3.out (fun cs e h1 h2 => by cases h1; exact errno_ne _ h2 rfl))
  have HKw := Lib.hid (fun (X : World) (h : KeepO lb w3 X) => show WordsAt X (w.heap.size + 1) ws from h _ _ (by omega) (by omega) HW3.out (fun cs e h1 h2 => by cases h1; exact string_ne _ h2 rfl))
  have HKk := Lib.hid (fun (X : World) (h : KeepO lb w3 X) => show KeepO lb w X from fun j o hj hne ho hn => h j o (by have := Hb3.out.size; omega) hne ((Hb3.out.block j hj).trans ho) hn)
  have HQ := Lib.hid (lnQuantity_any p last ws lb B (w.heap.size + 1) n w3 Hn.out HL3.out HO3.out hBL HW3.out Hsz.out hnl hlq HE3.out)
  have HG := Lib.hid (lnGauge_any p last ws lb B (w.heap.size + 1) n w3 Hn.out HL3.out HO3.out hBL HW3.out Hsz.out hnl hlq Hlg.out Hpq.out HE3.out)
  have HM := Lib.hid (lnMeasure_any p last ws lb B (w.heap.size + 1) n w3 Hn.out HL3.out HO3.out hBL HW3.out Hsz.out hnl hlm HE3.out)
  have HA := Lib.hid (lnAlarm_any p last ws lb B (w.heap.size + 1) n w3 Hn.out HL3.out HO3.out hBL HW3.out Hsz.out hnl hlq hlm hla HE3.out)
  have Hem0 := Lib.hid Hem.out.symm
  clear hb3 hlast
  cases hQ : (s0.toList == [113, 117, 97, 110, 116, 105, 116, 121])
  rotate_left
  · have Hw := Lib.hid (show (wordsL ws).headD [] = wQ from Hhw.out.trans (eq_of_beq hQ))
    go_wp2_with (go_at_call 80; fail)
    refine HQ.out.mono ?_
    rintro r w4 ⟨hb4, hk4, (⟨rfl, hbad⟩ | ⟨hc, ns, A', c', hns, rfl, hL4, hO4⟩)⟩
    · exact door_stray (x := 0) rfl (by simp only [World.cell?, HKx.out w4 hk4]; rfl) (by simp [World.frozen?, HKx.out w4 hk4]) ((Array.getElem?_eq_some_iff.1 (HKx.out w4 hk4)).1) (LnR.bad Hws.out ((Hb3.out.mono hBw).trans hb4) (HKk.out w4 hk4) (Nat.le_refl _) hBw (stepQ_bad Hem0.out Hw.out (Hn.out ▸ hbad)))
    · have c4 := Hc0.out w4 (HKw.out w4 hk4)
      obtain ⟨l3, f3⟩ := Hlast.out w4 _ hL4
      have HX4 := Lib.hid (HKx.out w4 hk4)
      have HF := Lib.hid (LnR.good (s := s) (bE := w.heap.size) Hws.out ((Hb3.out.mono hBw).trans hb4) (HKk.out w4 hk4) (stepQ_ok Hem0.out Hw.out ⟨Hn.out ▸ hc.1, hc.2⟩ hns) hL4 hO4 (HKx.out w4 hk4) (Nat.le_refl _) hBw hBL (by omega) Hh0.out)
      have he4 : w4.cell? ⟨w.heap.size, 0, none⟩ = some (.int .i64 0) := by simp only [World.cell?, HX4.out]; rfl
      have hf4 : w4.frozen? ⟨w.heap.size, 0, none⟩ = false := by simp [World.frozen?, HX4.out]
      clear hb4 hk4 hc hns hL4 hO4
      go_wp2
      exact door_none (k := 0) rfl (by simp [go_sem, he4]) HF.out
  cases hG : (s0.toList == [103, 97, 117, 103, 101])
  rotate_left
  · have Hw := Lib.hid (show (wordsL ws).headD [] = wG from Hhw.out.trans (eq_of_beq hG))
    go_wp2_with (go_at_call 81; fail)
    refine HG.out.mono ?_
    rintro r w4 ⟨hb4, hk4, (⟨rfl, hbad⟩ | ⟨hc, ns, A', c', qi, q, hns, hqs, rfl, hL4, hO4⟩)⟩
    · exact door_stray (x := 0) rfl (by simp only [World.cell?, HKx.out w4 hk4]; rfl) (by simp [World.frozen?, HKx.out w4 hk4]) ((Array.getElem?_eq_some_iff.1 (HKx.out w4 hk4)).1) (LnR.bad Hws.out ((Hb3.out.mono hBw).trans hb4) (HKk.out w4 hk4) (Nat.le_refl _) hBw (stepG_bad Hem0.out Hw.out (Hn.out ▸ hbad)))
    · have c4 := Hc0.out w4 (HKw.out w4 hk4)
      obtain ⟨l3, f3⟩ := Hlast.out w4 _ hL4
      have HX4 := Lib.hid (HKx.out w4 hk4)
      have HF := Lib.hid (LnR.good (s := s) (bE := w.heap.size) Hws.out ((Hb3.out.mono hBw).trans hb4) (HKk.out w4 hk4) (stepG_ok Hem0.out Hw.out ⟨Hn.out ▸ hc.1, hc.2⟩ hns hqs) hL4 hO4 (HKx.out w4 hk4) (Nat.le_refl _) hBw hBL (by omega) Hh0.out)
      have he4 : w4.cell? ⟨w.heap.size, 0, none⟩ = some (.int .i64 0) := by simp only [World.cell?, HX4.out]; rfl
      have hf4 : w4.frozen? ⟨w.heap.size, 0, none⟩ = false := by simp [World.frozen?, HX4.out]
      clear hb4 hk4 hc hns hL4 hO4 hqs
      go_wp2
      exact door_none (k := 0) rfl (by simp [go_sem, he4]) HF.out
  cases hM : (s0.toList == [109, 101, 97, 115, 117, 114, 101])
  rotate_left
  · have Hw := Lib.hid (show (wordsL ws).headD [] = wM from Hhw.out.trans (eq_of_beq hM))
    go_wp2_with (go_at_call 82; fail)
    refine HM.out.mono ?_
    rintro r w4 ⟨hb4, hk4, (⟨rfl, hbad⟩ | ⟨hc, ns, A', c', hns, rfl, hL4, hO4⟩)⟩
    · exact door_stray (x := 0) rfl (by simp only [World.cell?, HKx.out w4 hk4]; rfl) (by simp [World.frozen?, HKx.out w4 hk4]) ((Array.getElem?_eq_some_iff.1 (HKx.out w4 hk4)).1) (LnR.bad Hws.out ((Hb3.out.mono hBw).trans hb4) (HKk.out w4 hk4) (Nat.le_refl _) hBw (stepM_bad Hem0.out Hw.out (Hn.out ▸ hbad)))
    · have c4 := Hc0.out w4 (HKw.out w4 hk4)
      obtain ⟨l3, f3⟩ := Hlast.out w4 _ hL4
      have HX4 := Lib.hid (HKx.out w4 hk4)
      have HF := Lib.hid (LnR.good (s := s) (bE := w.heap.size) Hws.out ((Hb3.out.mono hBw).trans hb4) (HKk.out w4 hk4) (stepM_ok Hem0.out Hw.out ⟨Hn.out ▸ hc.1, hc.2⟩ hns) hL4 hO4 (HKx.out w4 hk4) (Nat.le_refl _) hBw hBL (by omega) Hh0.out)
      have he4 : w4.cell? ⟨w.heap.size, 0, none⟩ = some (.int .i64 0) := by simp only [World.cell?, HX4.out]; rfl
      have hf4 : w4.frozen? ⟨w.heap.size, 0, none⟩ = false := by simp [World.frozen?, HX4.out]
      clear hb4 hk4 hc hns hL4 hO4
      go_wp2
      exact door_none (k := 0) rfl (by simp [go_sem, he4]) HF.out
  cases hA : (s0.toList == [97, 108, 97, 114, 109])
  rotate_left
  · have Hw := Lib.hid (show (wordsL ws).headD [] = wA from Hhw.out.trans (eq_of_beq hA))
    go_wp2_with (go_at_call 83; fail)
    refine HA.out.mono ?_
    rintro r w4 ⟨hb4, hk4, (⟨rfl, hbad⟩ | ⟨hc, ns, A', c', hns, (⟨rfl, hx⟩ | ⟨hx, rfl, hL4, hO4⟩)⟩)⟩
    · exact door_stray (x := 0) rfl (by simp only [World.cell?, HKx.out w4 hk4]; rfl) (by simp [World.frozen?, HKx.out w4 hk4]) ((Array.getElem?_eq_some_iff.1 (HKx.out w4 hk4)).1) (LnR.bad Hws.out ((Hb3.out.mono hBw).trans hb4) (HKk.out w4 hk4) (Nat.le_refl _) hBw (stepA_bad Hem0.out Hw.out (Hn.out ▸ hbad)))
    · exact door_stray (x := 0) rfl (by simp only [World.cell?, HKx.out w4 hk4]; rfl) (by simp [World.frozen?, HKx.out w4 hk4]) ((Array.getElem?_eq_some_iff.1 (HKx.out w4 hk4)).1) (LnR.bad Hws.out ((Hb3.out.mono hBw).trans hb4) (HKk.out w4 hk4) (Nat.le_refl _) hBw (stepA_none Hem0.out Hw.out (Hn.out ▸ hc) hns hx))
    · have c4 := Hc0.out w4 (HKw.out w4 hk4)
      obtain ⟨l3, f3⟩ := Hlast.out w4 _ hL4
      have HX4 := Lib.hid (HKx.out w4 hk4)
      have HF := Lib.hid (LnR.good (s := s) (bE := w.heap.size) Hws.out ((Hb3.out.mono hBw).trans hb4) (HKk.out w4 hk4) (stepA_ok Hem0.out Hw.out (Hn.out ▸ hc) hns hx) hL4 hO4 (HKx.out w4 hk4) (Nat.le_refl _) hBw hBL (by omega) Hh0.out)
      have he4 : w4.cell? ⟨w.heap.size, 0, none⟩ = some (.int .i64 0) := by simp only [World.cell?, HX4.out]; rfl
      have hf4 : w4.frozen? ⟨w.heap.size, 0, none⟩ = false := by simp [World.frozen?, HX4.out]
      clear hb4 hk4 hc hns hL4 hO4 hx
      go_wp2
      exact door_none (k := 0) rfl (by simp [go_sem, he4]) HF.out
  have H1 := Lib.hid (show (wordsL ws).headD [] ≠ wQ from fun h => by rw [Hhw.out] at h; rw [h] at hQ; exact absurd hQ (by decide))
  have H2 := Lib.hid (show (wordsL ws).headD [] ≠ wG from fun h => by rw [Hhw.out] at h; rw [h] at hG; exact absurd hG (by decide))
  have H3 := Lib.hid (show (wordsL ws).headD [] ≠ wM from fun h => by rw [Hhw.out] at h; rw [h] at hM; exact absurd hM (by decide))
  have H4 := Lib.hid (show (wordsL ws).headD [] ≠ wA from fun h => by rw [Hhw.out] at h; rw [h] at hA; exact absurd hA (by decide))
  go_wp2_with (go_at_call 78; refine (HD.out _).mono ?_; rintro r w4 ⟨rfl, hb4⟩)
  have hk4 : KeepO lb w3 w4 := KeepO.of_below hb4
  exact door_stray (x := 0) rfl (by simp only [World.cell?, HKx.out w4 hk4]; rfl) (by simp [World.frozen?, HKx.out w4 hk4]) ((Array.getElem?_eq_some_iff.1 (HKx.out w4 hk4)).1) (LnR.bad Hws.out ((Hb3.out.trans (hb4.mono (by omega))).mono hBw) (HKk.out w4 hk4) (Nat.le_refl _) hBw (step_other Hem0.out H1.out H2.out H3.out H4.out))
end Go.Proofs.YtcgnpndfhhcplaaGreatDoor
