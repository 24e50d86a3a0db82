/-
  Package watch's Parse: the plan of a text, its first wrong line, its error. Conditions: the text is of at most 65536 bytes; package-level variables read as their initialisers lay them.
-/
import Derived.Test.YtcgnpndfhhcplaaGreatDoorRead
import Derived.Test.YtcgnpndfhhcplaaGreatDoorTxt
import Derived.Test.YtcgnpndfhhcplaaGreatDoorPlanC
import Derived.WalkMore
namespace Go.Proofs.YtcgnpndfhhcplaaGreatDoor
open Go.RowKit W7
attribute [local go_sem] Oper.semAt_some
theorem OwnP.pin {B N i : Nat} {w : World} {p : Plan} {last : List UInt8} (h : OwnP B w p) (hI : Inv N p last i) (hN : N ≤ 9223372036854775807) (hi : i ≤ 9223372036854775807) : PIn w w.heap.size p := by
  have hc : ∀ {e size n c : Nat} {A : Option Addr} {xs : List Value}, w.ownsRow B e size (.slice A n c) n xs → n ≤ c ∧ c ≤ 9223372036854775807 := fun ho => by
    obtain ⟨A', c', e1, h1, h2⟩ := own_cap' ho
    cases e1
    exact ⟨h1, h2⟩
  refine ⟨sl_own2 lenQ h.q, fun q hq => ?_, (hc h.q).1, (hc h.q).2, sl_own2 lenM h.m, fun m hm => ⟨Nat.le_trans (hI.mn m hm).1 hN, Nat.le_trans (hI.mn m hm).2 hN⟩, (hc h.m).1, (hc h.m).2, sl_own2 (enc := encA) (fun _ => rfl) h.a, (hc h.a).1, (hc h.a).2⟩
  obtain ⟨k, hk, rfl⟩ := List.getElem_of_mem hq
  exact ⟨Nat.le_trans (hI.qn _ hq).1 hN, Nat.le_trans (hI.g _ hq) hi, (hc (h.g k hk)).1, (hc (h.g k hk)).2, sl_own2 (enc := encG) (fun _ => rfl) (h.g k hk), fun g hg => Nat.le_trans ((hI.qn _ hq).2 g hg) hN⟩
theorem own_empty (B : Nat) (w : World) : OwnP B w emptyP := ⟨World.ownsRow_nil _ _ _ _, fun i h => absurd h (by simp [emptyP]), fun i j h => absurd h (by simp [emptyP]), World.ownsRow_nil _ _ _ _, World.ownsRow_nil _ _ _ _⟩
/-- how Parse ends -/
def ParsR (t : ByteArray) (w : World) (e : Ending) (w' : World) : Prop := Below w.heap.size w w' ∧ ∃ p', e = .returned (.tuple #[planV p', .int .i64 (parN t.data.toList), .int .i64 (parE t.data.toList)]) ∧ absP p' = parP t.data.toList ∧ OwnP w.heap.size w' p' ∧ PIn w' w'.heap.size p'
theorem par_bad {t : List UInt8} {X : Int × Nat × Plan} {k : Int} {n : Nat} (h : runL emptyP [] 0 (linesL t) = X) (h1 : X.1 = k) (h0 : k ≠ 0) (h2 : X.2.1 = n) (ht : t.length ≤ 65536) : parE t = k ∧ parN t = n ∧ parP t = emptyP := by
  have he : parE t = k := by
    unfold parE
    rw [if_pos ht, h, h1, if_neg h0]
  refine ⟨he, ?_, ?_⟩
  · unfold parN
    rw [if_pos ht, h, h1, if_neg h0, h2]
  · unfold parP
    rw [he, if_neg h0]
theorem par_end {t : List UInt8} {p : Plan} {i : Nat} (h : runL emptyP [] 0 (linesL t) = (0, i, p)) (ht : t.length ≤ 65536) : parE t = planErr p ∧ parN t = 0 ∧ parP t = if planErr p = 0 then p else emptyP := by
  have he : parE t = planErr p := by
    unfold parE
    rw [if_pos ht, h, if_pos rfl]
  refine ⟨he, ?_, ?_⟩
  · unfold parN
    rw [if_pos ht, h, if_pos rfl]
  · unfold parP
    rw [he, h]
def lenOf : Value → Nat
  | .string s => s.size
  | _ => 0
/-- what holds while lines are read -/
def ParsI (t : ByteArray) (w : World) (a r : Value) (wr : World) : Prop := ∃ (i : Nat) (rs : ByteArray) (p : Plan) (last : ByteArray), a = .int .i64 i ∧ r = .string rs ∧ i + rs.size ≤ t.size ∧ Below w.heap.size w wr ∧ w.heap.size + 2 ≤ wr.heap.size ∧ wr.heap[w.heap.size]? = some zeroC ∧
  LinesAt wr (w.heap.size + 1) p last ∧ OwnP w.heap.size wr p ∧ Inv 65536 p last.data.toList i ∧ runL emptyP [] 0 (linesL t.data.toList) = runL (absP p) last.data.toList i (linesL rs.data.toList)
theorem pin_empty (w : World) (B : Nat) : PIn w B emptyP := ⟨Sl.nil, (fun q h => by cases h), Nat.le_refl _, by decide, Sl.nil, (fun q h => by cases h), Nat.le_refl _, by decide, Sl.nil, Nat.le_refl _, by decide⟩
theorem ParsR.bad {t : ByteArray} {w w' : World} {k : Int} {n : Nat} (hb : Below w.heap.size w w') (h : parE t.data.toList = k ∧ parN t.data.toList = n ∧ parP t.data.toList = emptyP) : ParsR t w (.returned (.tuple #[.agg #[.slice none 0 0, .slice none 0 0, .slice none 0 0], .int .i64 n, .int .i64 k])) w' :=
  ⟨hb, emptyP, by rw [h.1, h.2.1]; rfl, by rw [h.2.2]; rfl, own_empty _ _, pin_empty _ _⟩
set_option maxHeartbeats 4000000 in
set_option maxRecDepth 100000 in
theorem Parse_any (t : ByteArray) (w : World) (ht : t.size ≤ 65536) (hE : Env w.heap.size w) : Calls Tryz.prog 16 #[.string t] w (ParsR t w) := by
  have HE := Lib.hid hE
  have htl : t.data.toList.length ≤ 65536 := by rw [← Lib.size_eq]; exact ht
  have Htl := Lib.hid htl
  clear hE htl
  go_enter Tryz.func16, Tryz.ntmps16
  go_wp2
  go_step3
  go_wp2
  go_step3
  go_wp2
  go_loopw [6, 7] (fun a r wr => ParsI t w a r wr) (fun _ r _ => lenOf r)
  case atStart =>
    refine ⟨0, t, emptyP, ByteArray.empty, rfl, rfl, by omega, ?_, by simp, ?_, ?_, own_empty _ _, inv_empty _, rfl⟩
    · exact ((Below.refl w.heap.size w).alloc (Nat.le_refl _) _).alloc (by simp) _
    · rw [Below.heap_alloc _ _ _ (by simp)]
      exact heap_alloc_new _ _
    · show (World.heap _)[w.heap.size + 1]? = _
      have h := heap_alloc_new (w.alloc (.cells #[.slice none 0 0, .slice none 0 0, .slice none 0 0] 26)) (.cells #[.slice none 0 0, .slice none 0 0, .slice none 0 0, .string ByteArray.empty] 96)
      have hz : (w.alloc (.cells #[.slice none 0 0, .slice none 0 0, .slice none 0 0] 26)).heap.size = w.heap.size + 1 := by simp
      rw [hz] at h
      exact h
  case round =>
    obtain ⟨i, rs, p, last, rfl, rfl, hi, hb, hsz, hres, hL, hO, hI, hrun⟩ := hrel
    have hLw : w.heap.size + 1 < wr.heap.size := (Array.getElem?_eq_some_iff.1 hL).1
    have HL := Lib.hid hL
    have HO := Lib.hid hO
    have HI := Lib.hid hI
    have Hrun := Lib.hid hrun
    have Hres := Lib.hid hres
    have HEr := Lib.hid (HE.out.on hb (Nat.le_refl w.heap.size))
    have hrl : rs.size ≤ 65536 := by omega
    have hil : i ≤ 65536 := by omega
    have Hcut := Lib.hid (cut_lib rs w.heap.size wr (by omega) HEr.out)
    clear hL hO hI hrun hres
    by_cases hrs : rs.size = 0
    · have Hn := Lib.hid (show rs.data.toList = [] from List.length_eq_zero_iff.1 (by rw [← Lib.size_eq]; exact hrs))
      have Hcut2 := Lib.hid (show Calls Tryz.prog 52 #[.string rs, .string ⟨#[10]⟩] wr fun e w' => e = .returned (.tuple #[.string ⟨#[]⟩, .string ⟨#[]⟩, .bool false]) ∧ Below wr.heap.size wr w' from by
        have h := Hcut.out
        rw [Hn.out, cut_end] at h
        exact h)
      go_wp2_with (go_at_call 52; fail)
      refine Hcut2.out.mono ?_
      rintro r w2 ⟨rfl, hb2⟩
      have hs2 := hb2.size
      have HL2 := Lib.hid (show LinesAt w2 (w.heap.size + 1) p last from (hb2.block _ hLw).trans HL.out)
      have HO2 := Lib.hid (HO.out.below (hb2.mono (by omega)))
      have Hres2 := Lib.hid ((hb2.block _ (by omega)).trans Hres.out)
      have Hb2 := Lib.hid (hb.trans (hb2.mono (by omega)))
      obtain ⟨l0, l1, l2, l3⟩ := HL2.out.cells
      have HP2 := Lib.hid (HO2.out.pin HI.out (by decide) (by omega))
      have HC := Lib.hid (Check_any p w2.heap.size w2 HP2.out (Nat.le_refl _))
      have HEnd := Lib.hid (par_end (t := t.data.toList) (p := absP p) (i := i) (by rw [Hrun.out, Hn.out]; rfl) Htl.out)
      rw [planErr_abs] at HEnd
      obtain ⟨pe, hpe⟩ : ∃ x, x = planErr p := ⟨_, rfl⟩
      rw [← hpe] at HEnd HC
      have Hpe := Lib.hid hpe
      clear hb2 l3 hpe
      go_wp2_with (go_at_call 10; fail)
      refine HC.out.mono ?_
      rintro r w3 ⟨rfl, hb3⟩
      have hs3 := hb3.size
      have hres3 := (hb3.block _ (by omega)).trans Hres2.out
      have HL3 := Lib.hid (show LinesAt w3 (w.heap.size + 1) p last from (hb3.block _ (by omega)).trans HL2.out)
      have HO3 := Lib.hid (HO2.out.below (hb3.mono (by omega)))
      have Hb3 := Lib.hid (Hb2.out.trans (hb3.mono (by omega)))
      have Hres3 := Lib.hid hres3
      have e0 : w3.cell? ⟨w.heap.size, 0, none⟩ = some (.slice none 0 0) := by simp only [World.cell?, hres3]; rfl
      have e1 : w3.cell? ⟨w.heap.size, 1, none⟩ = some (.slice none 0 0) := by simp only [World.cell?, hres3]; rfl
      have e2 : w3.cell? ⟨w.heap.size, 2, none⟩ = some (.slice none 0 0) := by simp only [World.cell?, hres3]; rfl
      have f0 : w3.frozen? ⟨w.heap.size, 0, none⟩ = false := by simp [World.frozen?, hres3, zeroC]
      have f1 : w3.frozen? ⟨w.heap.size, 1, none⟩ = false := by simp [World.frozen?, hres3, zeroC]
      have f2 : w3.frozen? ⟨w.heap.size, 2, none⟩ = false := by simp [World.frozen?, hres3, zeroC]
      obtain ⟨k0, k1, k2, k3⟩ := HL3.out.cells
      clear hb3 hres3 l0 l1 l2 k3
      cases hp0 : (pe == 0)
      · have Hp0 := Lib.hid (show pe ≠ 0 from fun h => by rw [h] at hp0; cases hp0)
        go_wp2
        rw [Exit.noGoto_ret]
        have Hr0 := Lib.hid (show ((((w3.setCell ⟨w.heap.size, 0, none⟩ (.slice none 0 0)).setCell ⟨w.heap.size, 1, none⟩ (.slice none 0 0)).setCell ⟨w.heap.size, 2, none⟩ (.slice none 0 0)) : World).heap[w.heap.size]? = some zeroC from res_set Hres3.out _ _ _)
        obtain ⟨g0, g1, g2⟩ := res_cells Hr0.out
        refine bodyPost_ret (v := .tuple #[.agg #[.slice none 0 0, .slice none 0 0, .slice none 0 0], .int .i64 0, .int .i64 pe]) (by simp [results, Tryz.results16, go_sem, g0, g1, g2]) rfl ?_
        exact ParsR.bad (n := 0) (((Hb3.out.setCell (p := ⟨w.heap.size, 0, none⟩) (Nat.le_refl _) _).setCell (p := ⟨w.heap.size, 1, none⟩) (Nat.le_refl _) _).setCell (p := ⟨w.heap.size, 2, none⟩) (Nat.le_refl _) _) ⟨HEnd.out.1, HEnd.out.2.1, by rw [HEnd.out.2.2, if_neg Hp0.out]⟩
      · have Hp0 := Lib.hid (eq_of_beq hp0)
        go_wp2
        rw [Exit.noGoto_ret]
        obtain ⟨Hr0, g0, g1, g2⟩ := res_plan (w := w3) (b := w.heap.size) Hres3.out p
        have HR0 := Lib.hid Hr0
        clear Hr0
        refine bodyPost_ret (v := .tuple #[planV p, .int .i64 0, .int .i64 0]) (by simp [results, Tryz.results16, go_sem, g0, g1, g2]; rfl) rfl ?_
        have hO4 := ((HO3.out.setK (lb := w.heap.size) (j := 0) Hres3.out plan_ne (.slice p.qA p.qs.length p.qc)).setK (lb := w.heap.size) (j := 1) HR0.out.1 plan_ne (.slice p.mA p.ms.length p.mc)).setK (lb := w.heap.size) (j := 2) HR0.out.2 plan_ne (.slice p.aA p.al.length p.ac)
        refine ⟨((Hb3.out.setCell (p := ⟨w.heap.size, 0, none⟩) (Nat.le_refl _) _).setCell (p := ⟨w.heap.size, 1, none⟩) (Nat.le_refl _) _).setCell (p := ⟨w.heap.size, 2, none⟩) (Nat.le_refl _) _, p, ?_, ?_, hO4, hO4.pin HI.out (by decide) (by omega)⟩
        · rw [HEnd.out.1, HEnd.out.2.1, Hp0.out]; rfl
        · rw [HEnd.out.2.2, if_pos Hp0.out]
    · have Hn := Lib.hid (show rs.data.toList ≠ [] from fun h => hrs (by rw [Lib.size_eq, h]; rfl))
      obtain ⟨a, ha⟩ : ∃ x, x = bst (Go.Lib.cut rs.data.toList [10]).1 := ⟨_, rfl⟩
      obtain ⟨b, hb'⟩ : ∃ x, x = bst (Go.Lib.cut rs.data.toList [10]).2.1 := ⟨_, rfl⟩
      obtain ⟨m, hm⟩ : ∃ x, x = (Go.Lib.cut rs.data.toList [10]).2.2 := ⟨_, rfl⟩
      have Hcs := Lib.hid (cut_step Hn.out)
      have Hal := Lib.hid (show a.data.toList = (Go.Lib.cut rs.data.toList [10]).1 by rw [ha]; simp [bst])
      have Hbl := Lib.hid (show b.data.toList = (Go.Lib.cut rs.data.toList [10]).2.1 by rw [hb']; simp [bst])
      have Hm := Lib.hid hm
      rw [← ha, ← hb', ← hm] at Hcut
      have has : a.size ≤ 100000 := by
        have h := Hcs.out.2.2.2
        rw [← Hal.out, ← Lib.size_eq, ← Lib.size_eq] at h
        omega
      have hbs : b.size < rs.size := by
        have h := Hcs.out.2.1
        rw [← Hbl.out, ← Lib.size_eq, ← Lib.size_eq] at h
        exact h
      have hab : ¬ ((a.toList == []) = true ∧ m = false) := fun h => Hcs.out.2.2.1 ⟨by rw [← Hal.out, ← Lib.toList_data]; exact eq_of_beq h.1, by rw [← Hm.out]; exact h.2⟩
      clear ha hb' hm
      cases hae : (a.toList == [])
      · go_wp2_with (go_at_call 52; fail)
        refine Hcut.out.mono ?_
        rintro r w2 ⟨rfl, hb2⟩
        have hs2 := hb2.size
        have HL2 := Lib.hid (show LinesAt w2 (w.heap.size + 1) p last from (hb2.block _ hLw).trans HL.out)
        have HO2 := Lib.hid (HO.out.below (hb2.mono (by omega)))
        have Hres2 := Lib.hid ((hb2.block _ (by omega)).trans Hres.out)
        have Hb2 := Lib.hid (hb.trans (hb2.mono (by omega)))
        have HRd := Lib.hid (read_any p last a (w.heap.size + 1) w.heap.size w2 HL2.out HO2.out (by omega) has (Nat.le_trans HI.out.q (by omega)) (fun q hq => Nat.le_trans (HI.out.g q hq) (by omega)) (Nat.le_trans HI.out.m (by omega)) (Nat.le_trans HI.out.a (by omega)) (by rw [Lib.toList_data]; exact HI.out.l) (HE.out.on Hb2.out (Nat.le_refl _)))
        clear hb2
        go_wp2_with (go_at_call 53; fail)
        refine HRd.out.mono ?_
        rintro r w3 ⟨hb3, hk3, ws, hws, hend⟩
        have hres3 : w3.heap[w.heap.size]? = some zeroC := hk3 _ _ (by omega) (by omega) Hres2.out (fun cs e h1 h2 => by cases h1; exact plan_ne _ h2 rfl)
        have Hb3 := Lib.hid (Hb2.out.trans hb3)
        have hws0 : ws ≠ [] := fun h => parts_ne 32 a.data.toList (by rw [← hws, h]; first | done | rfl)
        have hlin : linesL rs.data.toList = a.data.toList :: linesL b.data.toList := by rw [Hcs.out.1, Hal.out, Hbl.out]
        rcases hend with ⟨k, rfl, hbad⟩ | ⟨p', rfl, hok, hL3, hO3⟩
        · have Hbad := Lib.hid hbad
          have Hfin := Lib.hid (par_bad (t := t.data.toList) (n := i + 1) Hrun.out (by rw [hlin]; exact (runL_bad hws hbad).1) hbad.1 (by rw [hlin]; exact (runL_bad (p := p) (last := last) (i := i) (r := linesL b.data.toList) hws hbad).2) Htl.out)
          have hk0 : (k == 0) = false := beq_false_of_ne hbad.1
          have e0 : w3.cell? ⟨w.heap.size, 0, none⟩ = some (.slice none 0 0) := by simp only [World.cell?, hres3]; rfl
          have e1 : w3.cell? ⟨w.heap.size, 1, none⟩ = some (.slice none 0 0) := by simp only [World.cell?, hres3]; rfl
          have e2 : w3.cell? ⟨w.heap.size, 2, none⟩ = some (.slice none 0 0) := by simp only [World.cell?, hres3]; rfl
          have f0 : w3.frozen? ⟨w.heap.size, 0, none⟩ = false := by simp [World.frozen?, hres3, zeroC]
          have f1 : w3.frozen? ⟨w.heap.size, 1, none⟩ = false := by simp [World.frozen?, hres3, zeroC]
          have f2 : w3.frozen? ⟨w.heap.size, 2, none⟩ = false := by simp [World.frozen?, hres3, zeroC]
          have Hres3 := Lib.hid hres3
          clear hbad hws hws0 hlin hk3 hb3 hres3
          go_wp2
          rw [Exit.noGoto_ret]
          have Hr0 := Lib.hid (show ((((w3.setCell ⟨w.heap.size, 0, none⟩ (.slice none 0 0)).setCell ⟨w.heap.size, 1, none⟩ (.slice none 0 0)).setCell ⟨w.heap.size, 2, none⟩ (.slice none 0 0)) : World).heap[w.heap.size]? = some zeroC from res_set Hres3.out _ _ _)
          obtain ⟨g0, g1, g2⟩ := res_cells Hr0.out
          refine bodyPost_ret (v := .tuple #[.agg #[.slice none 0 0, .slice none 0 0, .slice none 0 0], .int .i64 (i + 1 : Nat), .int .i64 k]) (by simp [results, Tryz.results16, go_sem, g0, g1, g2]) rfl ?_
          exact ParsR.bad (n := i + 1) (((Hb3.out.setCell (p := ⟨w.heap.size, 0, none⟩) (Nat.le_refl _) _).setCell (p := ⟨w.heap.size, 1, none⟩) (Nat.le_refl _) _).setCell (p := ⟨w.heap.size, 2, none⟩) (Nat.le_refl _) _) Hfin.out
        · have HI3 := Lib.hid (show Inv 65536 p' (ws.headD default).data.toList (i + 1) from by
            have h := stepW_inv (w := wordsL ws) (inv_abs.2 HI.out) (fun x hx => by rw [hws] at hx; have h1 := parts_mem_len hx; rw [← Lib.size_eq] at h1; have h2 := Hcs.out.2.2.2; rw [← Hal.out, ← Lib.size_eq, ← Lib.size_eq] at h2; omega) (by rw [show stepW (absP p) last.data.toList (wordsL ws) = (0, absP p') from hok])
            rw [show stepW (absP p) last.data.toList (wordsL ws) = (0, absP p') from hok] at h
            have h2 := inv_abs.1 h
            cases ws with
            | nil => exact absurd rfl hws0
            | cons x y => exact h2)
          have Hrun3 := Lib.hid (show runL emptyP [] 0 (linesL t.data.toList) = runL (absP p') (ws.headD default).data.toList (i + 1) (linesL b.data.toList) by rw [Hrun.out, hlin]; exact runL_ok hws hok hws0)
          have HL3 := Lib.hid hL3
          have HO3 := Lib.hid hO3
          have Hres3 := Lib.hid hres3
          have hs3 := hb3.size
          clear hws hws0 hlin hk3 hb3 hres3 hok hL3 hO3
          go_wp2
          go_roundw
          case rel => exact ⟨i + 1, b, p', ws.headD default, by go_num, rfl, by omega, Hb3.out, by omega, Hres3.out, HL3.out, HO3.out, HI3.out, Hrun3.out⟩
          case measure => simp [lenOf]; omega
      · cases m
        · exact absurd ⟨hae, rfl⟩ hab
        go_wp2_with (go_at_call 52; fail)
        refine Hcut.out.mono ?_
        rintro r w2 ⟨rfl, hb2⟩
        have hs2 := hb2.size
        have HL2 := Lib.hid (show LinesAt w2 (w.heap.size + 1) p last from (hb2.block _ hLw).trans HL.out)
        have HO2 := Lib.hid (HO.out.below (hb2.mono (by omega)))
        have Hres2 := Lib.hid ((hb2.block _ (by omega)).trans Hres.out)
        have Hb2 := Lib.hid (hb.trans (hb2.mono (by omega)))
        have HRd := Lib.hid (read_any p last a (w.heap.size + 1) w.heap.size w2 HL2.out HO2.out (by omega) has (Nat.le_trans HI.out.q (by omega)) (fun q hq => Nat.le_trans (HI.out.g q hq) (by omega)) (Nat.le_trans HI.out.m (by omega)) (Nat.le_trans HI.out.a (by omega)) (by rw [Lib.toList_data]; exact HI.out.l) (HE.out.on Hb2.out (Nat.le_refl _)))
        clear hb2
        go_wp2_with (go_at_call 53; fail)
        refine HRd.out.mono ?_
        rintro r w3 ⟨hb3, hk3, ws, hws, hend⟩
        have hres3 : w3.heap[w.heap.size]? = some zeroC := hk3 _ _ (by omega) (by omega) Hres2.out (fun cs e h1 h2 => by cases h1; exact plan_ne _ h2 rfl)
        have Hb3 := Lib.hid (Hb2.out.trans hb3)
        have hws0 : ws ≠ [] := fun h => parts_ne 32 a.data.toList (by rw [← hws, h]; first | done | rfl)
        have hlin : linesL rs.data.toList = a.data.toList :: linesL b.data.toList := by rw [Hcs.out.1, Hal.out, Hbl.out]
        rcases hend with ⟨k, rfl, hbad⟩ | ⟨p', rfl, hok, hL3, hO3⟩
        · have Hbad := Lib.hid hbad
          have Hfin := Lib.hid (par_bad (t := t.data.toList) (n := i + 1) Hrun.out (by rw [hlin]; exact (runL_bad hws hbad).1) hbad.1 (by rw [hlin]; exact (runL_bad (p := p) (last := last) (i := i) (r := linesL b.data.toList) hws hbad).2) Htl.out)
          have hk0 : (k == 0) = false := beq_false_of_ne hbad.1
          have e0 : w3.cell? ⟨w.heap.size, 0, none⟩ = some (.slice none 0 0) := by simp only [World.cell?, hres3]; rfl
          have e1 : w3.cell? ⟨w.heap.size, 1, none⟩ = some (.slice none 0 0) := by simp only [World.cell?, hres3]; rfl
          have e2 : w3.cell? ⟨w.heap.size, 2, none⟩ = some (.slice none 0 0) := by simp only [World.cell?, hres3]; rfl
          have f0 : w3.frozen? ⟨w.heap.size, 0, none⟩ = false := by simp [World.frozen?, hres3, zeroC]
          have f1 : w3.frozen? ⟨w.heap.size, 1, none⟩ = false := by simp [World.frozen?, hres3, zeroC]
          have f2 : w3.frozen? ⟨w.heap.size, 2, none⟩ = false := by simp [World.frozen?, hres3, zeroC]
          have Hres3 := Lib.hid hres3
          clear hbad hws hws0 hlin hk3 hb3 hres3
          go_wp2
          rw [Exit.noGoto_ret]
          have Hr0 := Lib.hid (show ((((w3.setCell ⟨w.heap.size, 0, none⟩ (.slice none 0 0)).setCell ⟨w.heap.size, 1, none⟩ (.slice none 0 0)).setCell ⟨w.heap.size, 2, none⟩ (.slice none 0 0)) : World).heap[w.heap.size]? = some zeroC from res_set Hres3.out _ _ _)
          obtain ⟨g0, g1, g2⟩ := res_cells Hr0.out
          refine bodyPost_ret (v := .tuple #[.agg #[.slice none 0 0, .slice none 0 0, .slice none 0 0], .int .i64 (i + 1 : Nat), .int .i64 k]) (by simp [results, Tryz.results16, go_sem, g0, g1, g2]) rfl ?_
          exact ParsR.bad (n := i + 1) (((Hb3.out.setCell (p := ⟨w.heap.size, 0, none⟩) (Nat.le_refl _) _).setCell (p := ⟨w.heap.size, 1, none⟩) (Nat.le_refl _) _).setCell (p := ⟨w.heap.size, 2, none⟩) (Nat.le_refl _) _) Hfin.out
        · have HI3 := Lib.hid (show Inv 65536 p' (ws.headD default).data.toList (i + 1) from by
            have h := stepW_inv (w := wordsL ws) (inv_abs.2 HI.out) (fun x hx => by rw [hws] at hx; have h1 := parts_mem_len hx; rw [← Lib.size_eq] at h1; have h2 := Hcs.out.2.2.2; rw [← Hal.out, ← Lib.size_eq, ← Lib.size_eq] at h2; omega) (by rw [show stepW (absP p) last.data.toList (wordsL ws) = (0, absP p') from hok])
            rw [show stepW (absP p) last.data.toList (wordsL ws) = (0, absP p') from hok] at h
            have h2 := inv_abs.1 h
            cases ws with
            | nil => exact absurd rfl hws0
            | cons x y => exact h2)
          have Hrun3 := Lib.hid (show runL emptyP [] 0 (linesL t.data.toList) = runL (absP p') (ws.headD default).data.toList (i + 1) (linesL b.data.toList) by rw [Hrun.out, hlin]; exact runL_ok hws hok hws0)
          have HL3 := Lib.hid hL3
          have HO3 := Lib.hid hO3
          have Hres3 := Lib.hid hres3
          have hs3 := hb3.size
          clear hws hws0 hlin hk3 hb3 hres3 hok hL3 hO3
          go_wp2
          go_roundw
          case rel => exact ⟨i + 1, b, p', ws.headD default, by go_num, rfl, by omega, Hb3.out, by omega, Hres3.out, HL3.out, HO3.out, HI3.out, Hrun3.out⟩
          case measure => simp [lenOf]; omega
end Go.Proofs.YtcgnpndfhhcplaaGreatDoor
