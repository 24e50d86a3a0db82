/- WorksChecks's law returns true for every input that can be read. -/
import Derived.Test.YtjpgnfekbojcaaaGreatWHeavy
import Derived.Test.YtjpgnfekbojcaaaGreatWRChk
import Derived.Test.YtjpgnfekbojcaaaGreatWDig3
set_option maxHeartbeats 8000000
set_option maxRecDepth 100000
namespace Go.Proofs.YtjpgnfekbojcaaaGreat
open Go.RowKit W7 W8
attribute [local go_sem] Oper.semAt_some
theorem ordL_len {j : JobP} : (ordL j).length <= 1000 := by
 unfold ordL
 split
 ·have := ordGo_len (j := j) j.tasks.length (List.replicate j.tasks.length false) []
  rename_i h
  have h2 := (good_of h).nt; unfold ordV; simp at this; omega
 ·simp
theorem LawChecks_any (j : Job) (l : List Int) (A : Option Addr) (n c B : Nat) (w : World) (hj : JIn w B j) (hn : n = l.length) (hA : Sl w B 1 encInt1 A l) (hB : B <= w.heap.size) (hnc : n <= c) (hc : c <= 9223372036854775807)
  (hr : ∀ i, -9223372036854775808 <= l.getD i 0 /\ l.getD i 0 <= 9223372036854775807) :
  Calls Tryz.prog 9 #[jobV j,.slice A n c] w fun e w' => e = .returned (.bool true) /\ Bl w w' := by
 obtain ⟨m,hm⟩ : ∃ m,j.tasks.length = m := ⟨_,rfl⟩
 obtain ⟨r,hr9⟩ : ∃ r,j.res.length = r := ⟨_,rfl⟩
 have hjv : jobV j = .agg #[.slice j.TA m j.tc,.slice j.RA r j.rc] := by unfold jobV; rw [hm,hr9]
 obtain ⟨W0,HW0,hs0,HB0,HX00,HU0⟩ := boxes1 w (.cells #[.slice j.TA m j.tc,.slice j.RA r j.rc] 25); have HJ := hI (show ∀ X : World,Bl W0 X -> JIn X B j /\ Sl X B 1 encInt1 A l from fun X hX => ⟨hj.below ((HU0.o X hX).mono hB),hA.below ((HU0.o X hX).mono hB)⟩); have HM := hI (heavy_any j 8 B W0 (HJ.o W0 (Below.refl _ _)).1 (by omega)); have Hn := hI hn; have HDg := hI digs_any; have Hjv := hI hjv; have Hm := hI hm; have Hr := hI hr9; have Hrg := hI hr; have q0 := W7.bc (j := 0) (HX00.o W0 (Below.refl _ _)) rfl; have q1 := W7.bc (j := 1) (HX00.o W0 (Below.refl _ _)) rfl; rw [hjv,hm,hr9] at HM; rw [hjv]; clear hj hn hA hjv hm hr9 hr; go_enter Tryz.func9,Tryz.ntmps9; go_upto_region 1 with fail; rw [<- HW0.o]; go_wp2_with (go_at_call 15; fail); refine HM.o.mono ?_; rintro e w1 ⟨⟨b,rfl,hbb⟩,hb1⟩; have hs1 := hb1.size; have Hb1 := hI hb1; clear hb1 q0 q1 HM; cases b; rotate_left
 ·clear hbb; go_wp2_with (go_at_call 16; refine (HDg.o _).mono ?_; rintro e w2 ⟨rfl,hb2⟩; have Hb2 := hI (Hb1.o.trans (hb2.mono hs1)); clear hb2); go_ret; exact ⟨rfl,HU0.o _ Hb2.o⟩
 have Hbb := hI (hbb rfl); clear hbb; cases h100 : decide ((n : Int) > 100); rotate_left
 ·go_wp2_with (go_at_call 16; refine (HDg.o _).mono ?_; rintro e w2 ⟨rfl,hb2⟩; have Hb2 := hI (Hb1.o.trans (hb2.mono hs1)); clear hb2); go_ret; exact ⟨rfl,HU0.o _ Hb2.o⟩
 have hn100 : n <= 100 := by have := of_decide_eq_false h100; omega
 have HS := hI (show Slim j from ⟨by have := Hbb.o.1; have := Hm.o; omega,by have := Hbb.o.2.1; have := Hr.o; omega⟩); have HSt := hI (show ∀ X : World,Bl W0 X -> StIn X B A n c l from fun X hX => ⟨Hn.o,by omega,hnc,hc,(HJ.o X hX).2⟩); have HV1 := hI (Order_any j B w1 (HJ.o w1 Hb1.o).1 (by omega) HS.o); have HLn := hI (ordL_len (j := j.p)); obtain ⟨OL,hOL⟩ : ∃ x,ordL j.p = x := ⟨_,rfl⟩
 obtain ⟨E,hE⟩ : ∃ x,jobErr j.p = x := ⟨_,rfl⟩
 rw [hOL] at HLn; have HVe := hI hOL; have HEe := hI hE; rw [Hjv.o] at HV1; clear hOL hE; have q0 := W7.bc (j := 0) (HX00.o w1 Hb1.o) rfl; have q1 := W7.bc (j := 1) (HX00.o w1 Hb1.o) rfl; go_upto_region 4 with (go_at_call 35; refine HV1.o.mono ?_; rintro e w2 ⟨⟨av,rfl,hoa⟩,hb2⟩; have hs2 := hb2.size; rw [HVe.o] at hoa; have Hoa := hI hoa; have Hb2 := hI (Hb1.o.trans (hb2.mono hs1)); clear hb2 hoa; go_loud (rw [HEe.o]))
 clear q0 q1 HV1; have HV2 := hI (refOrder_any j B w2 (HJ.o w2 Hb2.o).1 (by omega)); rw [Hjv.o] at HV2; have q0 := W7.bc (j := 0) (HX00.o w2 Hb2.o) rfl; have q1 := W7.bc (j := 1) (HX00.o w2 Hb2.o) rfl; go_upto_region 5 with (go_at_call 36; refine HV2.o.mono ?_; rintro e w3 ⟨⟨bv,rfl,hob⟩,hb3⟩; have hs3 := hb3.size; rw [HVe.o] at hob; have Hob := hI hob; have Hoa3 := hI (own_below Hoa.o hb3); have Hb3 := hI (Hb2.o.trans (hb3.mono (by omega))); clear hb3 hob; go_loud (rw [HEe.o]))
 clear q0 q1 HV2; obtain ⟨FA,fc,rfl,hfc1,hfc2⟩ := own_cap' Hoa3.o; obtain ⟨GA,gc,rfl,hgc1,hgc2⟩ := own_cap' Hob.o; have HE9 := hI (fun e : Later w3 => lawInts_any OL FA GA OL.length fc gc e.w.heap.size e.w rfl (sl_own2 (k := 1) (fun _ => rfl) (base := w1.heap.size) (e := 3) (c := fc) (by rw [flat_int]; exact own_below Hoa3.o e.b)) (sl_own2 (k := 1) (fun _ => rfl) (base := w2.heap.size) (e := 3) (c := gc) (by rw [flat_int]; exact own_below Hob.o e.b)) (Nat.le_refl _) (by have := HLn.o; omega)); obtain ⟨fn,hfn⟩ : ∃ x,OL.length = x := ⟨_,rfl⟩
 rw [hfn] at HE9 hfc1 hgc1; rw [hfn]; clear Hoa HLn hfn; have HC1 := hI (fun e : Later w3 => Check_any j B e.w (HJ.o e.w (Hb3.o.trans (e.b.mono (by omega)))).1 (by have := e.b.size; omega) HS.o); have HC2 := hI (fun e : Later w3 => refCheck_any j B e.w (HJ.o e.w (Hb3.o.trans (e.b.mono (by omega)))).1 (by have := e.b.size; omega)); rw [Hjv.o,HEe.o] at HC1 HC2; have hd3 := HX00.o w3 Hb3.o; have y0 := later_cell (bc (j := 0) hd3 rfl) (by omega); have y1 := later_cell (bc (j := 1) hd3 rfl) (by omega); have e5 : (E != E) = false := by simp
 clear hd3; refine wp_region_later (by kernel_rfl) (by kernel_rfl) ?_
 repeat (any_goals (first | go_big_quiet_step ((first | (go_at_call 37; exact later_call _ (HC1.o _)) | (go_at_call 38; exact later_call _ (HC2.o _)) | (go_at_call 19; exact later_call _ (HE9.o _)))) | quiet_step ((first | (go_at_call 37; exact later_call _ (HC1.o _)) | (go_at_call 38; exact later_call _ (HC2.o _)) | (go_at_call 19; exact later_call _ (HE9.o _))))))
 refine wpQuiet_nil ?_; rintro w' ⟨e4,rfl⟩; clear y0 y1 HC1 HC2 HE9 Hoa3 Hob; have Hb4 := hI (Hb3.o.trans (e4.b.mono (by omega))); have hs4 := e4.b.size; generalize e4.w = w4 at Hb4 hs4; have HK1 := hI (Keeps_any j l A n c B w4 (HJ.o w4 Hb4.o).1 (by omega) HS.o (HSt.o w4 Hb4.o)); obtain ⟨kv,hkv⟩ : ∃ x,kpV j.p l = x := ⟨_,rfl⟩
 obtain ⟨ke,hke⟩ : ∃ x,kpErr j.p l = x := ⟨_,rfl⟩
 have Hkv := hI hkv; have Hke := hI hke; rw [hkv,hke,Hjv.o] at HK1; clear hkv hke; have q0 := W7.bc (j := 0) (HX00.o w4 Hb4.o) rfl; have q1 := W7.bc (j := 1) (HX00.o w4 Hb4.o) rfl; go_upto_region 8 with (go_at_call 21; refine HK1.o.mono ?_; rintro e w5 ⟨rfl,hb5⟩; have hs5 := hb5.size; have Hb5 := hI (Hb4.o.trans (hb5.mono (by omega))); clear hb5)
 clear q0 q1 HK1; have HK2 := hI (refKeeps_any j l A n c B w5 (HJ.o w5 Hb5.o).1 (by omega) (HSt.o w5 Hb5.o) Hrg.o); rw [Hkv.o,Hke.o,Hjv.o] at HK2; have q0 := W7.bc (j := 0) (HX00.o w5 Hb5.o) rfl; have q1 := W7.bc (j := 1) (HX00.o w5 Hb5.o) rfl; have e6 : (kv != kv) = false := by simp
 have e7 : (ke != ke) = false := by simp
 go_upto_region 11 with (go_at_call 20; refine HK2.o.mono ?_; rintro e w6 ⟨rfl,hb6⟩; have hs6 := hb6.size; have Hb6 := hI (Hb5.o.trans (hb6.mono (by omega))); clear hb6)
 clear q0 q1 HK2; have HL1 := hI (Length_any j l A n c B w6 (HJ.o w6 Hb6.o).1 (by omega) HS.o (HSt.o w6 Hb6.o)); obtain ⟨lv,hlv⟩ : ∃ x,lnV j.p l = x := ⟨_,rfl⟩
 obtain ⟨le,hle⟩ : ∃ x,lnErr j.p l = x := ⟨_,rfl⟩
 have Hlv := hI hlv; have Hle := hI hle; rw [hlv,hle,Hjv.o] at HL1; clear hlv hle; have q0 := W7.bc (j := 0) (HX00.o w6 Hb6.o) rfl; have q1 := W7.bc (j := 1) (HX00.o w6 Hb6.o) rfl; go_upto_region 12 with (go_at_call 39; refine HL1.o.mono ?_; rintro e w7 ⟨rfl,hb7⟩; have hs7 := hb7.size; have Hb7 := hI (Hb6.o.trans (hb7.mono (by omega))); clear hb7)
 clear q0 q1 HL1; have HL2 := hI (refLength_any j l A n c B w7 (HJ.o w7 Hb7.o).1 (by omega) (HSt.o w7 Hb7.o) Hrg.o); rw [Hlv.o,Hle.o,Hjv.o] at HL2; have q0 := W7.bc (j := 0) (HX00.o w7 Hb7.o) rfl; have q1 := W7.bc (j := 1) (HX00.o w7 Hb7.o) rfl; have e8 : (lv == lv) = true := by simp
 have e9 : (le == le) = true := by simp
 go_upto_region 13 with (go_at_call 40; refine HL2.o.mono ?_; rintro e w8 ⟨rfl,hb8⟩; have hs8 := hb8.size; have Hb8 := hI (Hb7.o.trans (hb8.mono (by omega))); clear hb8)
 clear q0 q1 HL2; go_wp2_with (go_at_call 16; refine (HDg.o _).mono ?_; rintro e wC ⟨rfl,hbC⟩; have HbC := hI (Hb8.o.trans (hbC.mono (by omega))); clear hbC); go_ret; exact ⟨rfl,HU0.o _ HbC.o⟩
end Go.Proofs.YtjpgnfekbojcaaaGreat
