/-
  WorksAir's law returns true for every input that can be read. Conditions: how the table and the list lie in memory; the names' sizes are ints.
-/
import Derived.Test.YtjpgnfekbojcaaaGreatWRAir4
import Derived.Test.YtjpgnfekbojcaaaGreatWDig3
set_option maxHeartbeats 8000000
set_option maxRecDepth 100000
namespace Go.Proofs.YtjpgnfekbojcaaaGreat
open Go.RowKit W7 W8
attribute [local go_sem] Oper.semAt_some
theorem LawAir_any (t : Table) (l : List Dive) (who : ByteArray) (p m ready : Int) (A : Option Addr) (n c B : Nat) (w : World) (ht : TIn w B t) (hn : n = l.length) (hA : Sl w B 5 encDive A l) (hz : A = none -> n = 0 /\ c = 0) (hB : B <= w.heap.size) (hnc : n <= c) (hc : c <= 9223372036854775807) (hw : ∀ d ∈ l, d.who.size <= maxLen) (hwho : who.size <= maxLen) :
  Calls Tryz.prog 10 #[tabV t, .slice A n c, .string who, .int .i64 p, .int .i64 m, .int .i64 ready] w fun e w' => e = .returned (.bool true) /\ Below w.heap.size w w' := by
 obtain ⟨W0, HW0, hs0, HB0, HX00, HU0⟩ := boxes1 w (.cells #[.slice t.A t.rows.length t.c, .int .i64 t.rest, .int .i64 t.day] 74)
 have HT := hI (show ∀ X : World, Below W0.heap.size W0 X -> TIn X B t /\ Sl X B 5 encDive A l from fun X hX => ⟨ht.below ((HB0.out.mono hB).trans (hX.mono (by omega))), hA.below ((HB0.out.mono hB).trans (hX.mono (by omega)))⟩)
 have HM := hI (many_any t l A n c B W0 hn (HT.out W0 (Below.refl _ _)).2 (by omega) hnc hc)
 have Hn := hI hn
 have Hz := hI hz
 have Hw := hI hw
 have Hwho := hI hwho
 have HDg := hI digs_any
 have q0 := W7.bc (j := 0) (HX00.out W0 (Below.refl _ _)) rfl
 have q1 := W7.bc (j := 1) (HX00.out W0 (Below.refl _ _)) rfl
 have q2 := W7.bc (j := 2) (HX00.out W0 (Below.refl _ _)) rfl
 clear ht hn hA hz hw
 unfold tabV at HM
 unfold tabV
 go_enter Tryz.func10, Tryz.ntmps10
 go_upto_region 1 with fail
 rw [<- HW0.out]
 go_wp2_with (go_at_call 41; fail)
 refine HM.out.mono ?_
 rintro e w1 ⟨b, rfl, hbb, hb1⟩
 have hs1 := hb1.size
 have Hb1 := hI hb1
 clear hb1 q0 q1 q2 HM
 cases b
 rotate_left
 ·clear hbb
  go_wp2_with (go_at_call 16; refine (HDg.out _).mono ?_; rintro e w2 ⟨rfl, hb2⟩; have Hb2 := hI (Hb1.out.trans (hb2.mono hs1)); clear hb2)
  go_ret
  exact ⟨rfl, HU0.out _ Hb2.out⟩
 obtain ⟨htl, hnl⟩ := hbb rfl
 cases h100 : decide ((who.size : Int) > 100)
 rotate_left
 ·go_wp2_with (go_at_call 16; refine (HDg.out _).mono ?_; rintro e w2 ⟨rfl, hb2⟩; have Hb2 := hI (Hb1.out.trans (hb2.mono hs1)); clear hb2)
  go_ret
  exact ⟨rfl, HU0.out _ Hb2.out⟩
 have HV1 := hI (WayOut_any t p m B w1 (HT.out w1 Hb1.out).1 (by omega) (by omega))
 unfold tabV at HV1
 obtain ⟨wv, hwv⟩ : ∃ x, wayV t p m = x := ⟨_, rfl⟩
 obtain ⟨wz, hwz⟩ : ∃ x, wayErr t p m = x := ⟨_, rfl⟩
 rw [hwv, hwz] at HV1
 have q0 := W7.bc (j := 0) (HX00.out w1 Hb1.out) rfl
 have q1 := W7.bc (j := 1) (HX00.out w1 Hb1.out) rfl
 have q2 := W7.bc (j := 2) (HX00.out w1 Hb1.out) rfl
 go_upto_region 4 with (go_at_call 42; refine HV1.out.mono ?_; rintro e w2 ⟨rfl, hb2⟩; have hs2 := hb2.size; have Hb2 := hI (Hb1.out.trans (hb2.mono hs1)); clear hb2)
 clear q0 q1 q2 HV1
 have HV2 := hI (refWayOut_any t p m B w2 (HT.out w2 Hb2.out).1 (by omega) (by omega))
 unfold tabV at HV2
 rw [hwv, hwz] at HV2
 have q0 := W7.bc (j := 0) (HX00.out w2 Hb2.out) rfl
 have q1 := W7.bc (j := 1) (HX00.out w2 Hb2.out) rfl
 have q2 := W7.bc (j := 2) (HX00.out w2 Hb2.out) rfl
 go_upto_region 5 with (go_at_call 43; refine HV2.out.mono ?_; rintro e w3 ⟨rfl, hb3⟩; have hs3 := hb3.size; have Hb3 := hI (Hb2.out.trans (hb3.mono (by omega))); clear hb3)
 clear q0 q1 q2 HV2 hwv hwz
 obtain ⟨te, hte⟩ : ∃ x, tblErr t = x := ⟨_, rfl⟩
 have HC1 := hI (fun e : Later w3 => CheckTable_any t B e.w (HT.out e.w (Hb3.out.trans (e.b.mono (by omega)))).1 (by have := e.b.size; omega))
 have HC2 := hI (fun e : Later w3 => refCheckTable_any t B e.w (HT.out e.w (Hb3.out.trans (e.b.mono (by omega)))).1 (by have := e.b.size; omega))
 unfold tabV at HC1 HC2
 rw [hte] at HC1 HC2
 clear hte
 have hd3 := HX00.out w3 Hb3.out
 have y0 := later_cell (bc (j := 0) hd3 rfl) (by omega)
 have y1 := later_cell (bc (j := 1) hd3 rfl) (by omega)
 have y2 := later_cell (bc (j := 2) hd3 rfl) (by omega)
 clear hd3
 have e1 : (te != te) = false := by simp
 have e2 : (wv != wv) = false := by simp
 have e3 : (wz != wz) = false := by simp
 refine wp_region_later (by kernel_rfl) (by kernel_rfl) ?_
 repeat (any_goals (first | go_big_quiet_step ((first | (go_at_call 44; exact later_call _ (HC1.out _)) | (go_at_call 45; exact later_call _ (HC2.out _)))) | quiet_step ((first | (go_at_call 44; exact later_call _ (HC1.out _)) | (go_at_call 45; exact later_call _ (HC2.out _))))))
 refine wpQuiet_nil ?_
 rintro w' ⟨e4, rfl⟩
 clear y0 y1 y2 HC1 HC2
 have Hb4 := hI (Hb3.out.trans (e4.b.mono (by omega)))
 have hs4 := e4.b.size
 generalize e4.w = w4 at Hb4 hs4
 have HF1 := hI (Faults_any t l A n c B w4 (HT.out w4 Hb4.out).1 (by omega) Hn.out (HT.out w4 Hb4.out).2 (by omega) hnc hc Hw.out)
 unfold tabV at HF1
 have q0 := W7.bc (j := 0) (HX00.out w4 Hb4.out) rfl
 have q1 := W7.bc (j := 1) (HX00.out w4 Hb4.out) rfl
 have q2 := W7.bc (j := 2) (HX00.out w4 Hb4.out) rfl
 go_upto_region 8 with (go_at_call 46; refine HF1.out.mono ?_; rintro e w5 ⟨fv, rfl, hof, hb5⟩; have hs5 := hb5.size; have Hof := hI hof; have Hb5 := hI (Hb4.out.trans (hb5.mono (by omega))); clear hb5 hof)
 clear q0 q1 q2 HF1
 have HF2 := hI (refFaults_any t l A n c B w5 (HT.out w5 Hb5.out).1 (by omega) Hn.out (HT.out w5 Hb5.out).2 (by omega) Hw.out)
 unfold tabV at HF2
 have q0 := W7.bc (j := 0) (HX00.out w5 Hb5.out) rfl
 have q1 := W7.bc (j := 1) (HX00.out w5 Hb5.out) rfl
 have q2 := W7.bc (j := 2) (HX00.out w5 Hb5.out) rfl
 go_upto_region 9 with (go_at_call 47; refine HF2.out.mono ?_; rintro e w6 ⟨gv, rfl, hog, hb6⟩; have hs6 := hb6.size; have Hog := hI hog; have Hof6 := hI (own_below Hof.out hb6); have Hb6 := hI (Hb5.out.trans (hb6.mono (by omega))); clear hb6 hog)
 clear q0 q1 q2 HF2
 obtain ⟨fe, hfe⟩ : ∃ x, faultsErr t l = x := ⟨_, rfl⟩
 rw [hfe]
 have HfL := hI (show (faultsV t l).length <= 128 by
  unfold faultsV
  by_cases h : faultsErr t l = 0
  ·rw [if_pos h, List.length_map, List.length_range]; exact (faults_zero h).2.1
  ·rw [if_neg h]; simp)
 obtain ⟨fl, hfl⟩ : ∃ x, faultsV t l = x := ⟨_, rfl⟩
 rw [hfl] at HfL Hof6 Hog
 obtain ⟨FA, fc, rfl, hfc1, hfc2⟩ := own_cap' Hof6.out
 obtain ⟨GA, gc, rfl, hgc1, hgc2⟩ := own_cap' Hog.out
 have HE9 := hI (lawFaults_any fl FA GA fl.length fc gc w6.heap.size w6 rfl (sl_own2 (k := 1) (fun _ => rfl) (base := w4.heap.size) (e := 90) (c := fc) (by rw [flat_u8]; exact Hof6.out)) (sl_own2 (k := 1) (fun _ => rfl) (base := w5.heap.size) (e := 90) (c := gc) (by rw [flat_u8]; exact Hog.out)) (Nat.le_refl _) (by have := HfL.out; omega))
 obtain ⟨fn, hfn⟩ : ∃ x, fl.length = x := ⟨_, rfl⟩
 rw [hfn] at HE9 hfc1 hgc1
 rw [hfn]
 clear Hof Hof6 Hog HfL hfn hfl hfe
 have e5 : (fe != fe) = false := by simp
 go_upto_region 11 with (go_at_call 48; refine HE9.out.mono ?_; rintro e w7 ⟨rfl, hb7⟩; have hs7 := hb7.size; have Hb7 := hI (Hb6.out.trans (hb7.mono (by omega))); clear hb7)
 clear HE9
 have HN1 := hI (Next_any t l who p m ready A n c B w7 (HT.out w7 Hb7.out).1 (by omega) Hn.out (HT.out w7 Hb7.out).2 Hz.out (by omega) hnc hc Hw.out hwho)
 unfold tabV at HN1
 obtain ⟨dv, hdv⟩ : ∃ x, (nextR t l who p m ready).2 = x := ⟨_, rfl⟩
 obtain ⟨ev, hev⟩ : ∃ x, (nextR t l who p m ready).1 = x := ⟨_, rfl⟩
 rw [hdv, hev] at HN1
 unfold diveV at HN1
 have q0 := W7.bc (j := 0) (HX00.out w7 Hb7.out) rfl
 have q1 := W7.bc (j := 1) (HX00.out w7 Hb7.out) rfl
 have q2 := W7.bc (j := 2) (HX00.out w7 Hb7.out) rfl
 go_upto_region 12 with (go_at_call 49; refine HN1.out.mono ?_; rintro e w8 ⟨rfl, hb8⟩; have hs8 := hb8.size; have Hb8 := hI (Hb7.out.trans (hb8.mono (by omega))); clear hb8)
 clear q0 q1 q2 HN1
 obtain ⟨W8, hW8⟩ : ∃ W8, W8 = w8.alloc (.cells #[.string dv.who, .int .i64 dv.pr, .int .i64 dv.tin, .int .i64 dv.leave, .int .i64 dv.out] 84) := ⟨_, rfl⟩
 have hs9 : w8.heap.size + 1 <= W8.heap.size := by rw [hW8]; simp
 have Hg8 := hI (show W8.heap[w8.heap.size]? = some (.cells #[.string dv.who, .int .i64 dv.pr, .int .i64 dv.tin, .int .i64 dv.leave, .int .i64 dv.out] 84 (0, 0)) by rw [hW8]; exact heap_alloc_new _ _)
 have Hb9 := hI (show Below W0.heap.size W0 W8 by rw [hW8]; exact Hb8.out.alloc (by omega) _)
 rw [<- hW8]
 clear hW8
 have HN2 := hI (refNext_any t l who p m ready A n c B W8 (HT.out W8 Hb9.out).1 (by omega) Hn.out (HT.out W8 Hb9.out).2 Hz.out (by omega) hnc hc Hw.out hwho)
 unfold tabV at HN2
 rw [hdv, hev] at HN2
 unfold diveV at HN2
 clear hdv hev
 have q0 := W7.bc (j := 0) (HX00.out W8 Hb9.out) rfl
 have q1 := W7.bc (j := 1) (HX00.out W8 Hb9.out) rfl
 have q2 := W7.bc (j := 2) (HX00.out W8 Hb9.out) rfl
 go_upto_region 13 with (go_at_call 50; refine HN2.out.mono ?_; rintro e wA ⟨rfl, hbA⟩; have hsA := hbA.size; have HgA := hI ((hbA.block _ (blk_lt Hg8.out)).trans Hg8.out); have HbA := hI (Hb9.out.trans (hbA.mono (by omega))); clear hbA)
 clear q0 q1 q2 HN2
 obtain ⟨WA, hWA⟩ : ∃ WA, WA = wA.alloc (.cells #[.string dv.who, .int .i64 dv.pr, .int .i64 dv.tin, .int .i64 dv.leave, .int .i64 dv.out] 84) := ⟨_, rfl⟩
 have hg1 : WA.heap[w8.heap.size]? = some (.cells #[.string dv.who, .int .i64 dv.pr, .int .i64 dv.tin, .int .i64 dv.leave, .int .i64 dv.out] 84 (0, 0)) := by rw [hWA]; exact (Below.heap_alloc _ _ _ (blk_lt HgA.out)).trans HgA.out
 have hg2 : WA.heap[wA.heap.size]? = some (.cells #[.string dv.who, .int .i64 dv.pr, .int .i64 dv.tin, .int .i64 dv.leave, .int .i64 dv.out] 84 (0, 0)) := by rw [hWA]; exact heap_alloc_new _ _
 have HbB := hI (show Below W0.heap.size W0 WA by rw [hWA]; exact HbA.out.alloc (by omega) _)
 rw [<- hWA]
 clear hWA
 have k0 := W7.bc (j := 0) hg1 rfl
 have k1 := W7.bc (j := 1) hg1 rfl
 have k2 := W7.bc (j := 2) hg1 rfl
 have k3 := W7.bc (j := 3) hg1 rfl
 have k4 := W7.bc (j := 4) hg1 rfl
 have j0 := W7.bc (j := 0) hg2 rfl
 have j1 := W7.bc (j := 1) hg2 rfl
 have j2 := W7.bc (j := 2) hg2 rfl
 have j3 := W7.bc (j := 3) hg2 rfl
 have j4 := W7.bc (j := 4) hg2 rfl
 have hsB := HbB.out.size
 clear hg1 hg2
 trace_state
 go_wp2_with (go_at_call 16; refine (HDg.out _).mono ?_; rintro e wC ⟨rfl, hbC⟩; have HbC := hI (HbB.out.trans (hbC.mono hsB)); clear hbC)
 go_ret
 exact ⟨rfl, HU0.out _ HbC.out⟩
end Go.Proofs.YtjpgnfekbojcaaaGreat
