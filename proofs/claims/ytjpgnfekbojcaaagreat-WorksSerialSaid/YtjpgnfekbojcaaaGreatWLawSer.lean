/- WorksSerial's law returns true for every input that can be read. -/
import Derived.Test.YtjpgnfekbojcaaaGreatWHeavy
import Derived.Test.YtjpgnfekbojcaaaGreatWRJobA
import Derived.Test.YtjpgnfekbojcaaaGreatWDig3
set_option maxHeartbeats 8000000
set_option maxRecDepth 100000
namespace Go.Proofs.YtjpgnfekbojcaaaGreat
open Go.RowKit W7 W8
attribute [local go_sem] Oper.semAt_some
theorem serV_len {j : JobP} {order : List Int} : (serV j order).length <= 64 := by
 by_cases h : serErr j order = 0
 ·have hj : jobErr j = 0 := by
   by_cases h1 : jobErr j = 0
   ·exact h1
   ·rw [serErr_job h1] at h; exact absurd h h1
  have := (good_of hj).nt; rw [serV_ok h,(serialGo_st j 0 order order.length (bd0 j)).1]; unfold bd0; rw [List.length_replicate]; exact this
 ·rw [serV_bad h]; simp
theorem LawSerial_any (j : Job) (l : List Int) (A : Option Addr) (n c B : Nat) (w : World) (hj : JIn w B j) (hn : n = l.length) (hA : Sl w B 1 encInt1 A l) (hB : B <= w.heap.size) (hnc : n <= c) (hc : c <= 9223372036854775807) :
  Calls Tryz.prog 3 #[jobV j,.slice A n c] w fun e w' => e = .returned (.bool true) /\ Bl w w' := by
 obtain ⟨m,hm⟩ : ∃ m,j.tasks.length = m := ⟨_,rfl⟩
 obtain ⟨r,hr⟩ : ∃ r,j.res.length = r := ⟨_,rfl⟩
 have hjv : jobV j = .agg #[.slice j.TA m j.tc,.slice j.RA r j.rc] := by unfold jobV; rw [hm,hr]
 obtain ⟨W0,HW0,hs0,HB0,HX00,HU0⟩ := boxes1 w (.cells #[.slice j.TA m j.tc,.slice j.RA r j.rc] 25); have HJ := hI (show ∀ X : World,Bl W0 X -> JIn X B j /\ Sl X B 1 encInt1 A l from fun X hX => ⟨hj.below ((HU0.o X hX).mono hB),hA.below ((HU0.o X hX).mono hB)⟩); have HM := hI (heavy_any j 8 B W0 (HJ.o W0 (Below.refl _ _)).1 (by omega)); have Hn := hI hn; have HDg := hI digs_any; have Hjv := hI hjv; have Hm := hI hm; have Hr := hI hr; have q0 := W7.bc (j := 0) (HX00.o W0 (Below.refl _ _)) rfl; have q1 := W7.bc (j := 1) (HX00.o W0 (Below.refl _ _)) rfl; rw [hjv,hm,hr] at HM; rw [hjv]; clear hj hn hA hjv hm hr; go_enter Tryz.func3,Tryz.ntmps3; go_upto_region 1 with fail; rw [<- HW0.o]; go_wp2_with (go_at_call 15; fail); refine HM.o.mono ?_; rintro e w1 ⟨⟨b,rfl,hbb⟩,hb1⟩; have hs1 := hb1.size; have Hb1 := hI hb1; clear hb1 q0 q1 HM; cases b; rotate_left
 ·clear hbb; go_wp2_with (go_at_call 16; refine (HDg.o _).mono ?_; rintro e w2 ⟨rfl,hb2⟩; have Hb2 := hI (Hb1.o.trans (hb2.mono hs1)); clear hb2); go_ret; exact ⟨rfl,HU0.o _ Hb2.o⟩
 have Hbb := hI (hbb rfl); clear hbb; cases h100 : decide ((n : Int) > 100); rotate_left
 ·go_wp2_with (go_at_call 16; refine (HDg.o _).mono ?_; rintro e w2 ⟨rfl,hb2⟩; have Hb2 := hI (Hb1.o.trans (hb2.mono hs1)); clear hb2); go_ret; exact ⟨rfl,HU0.o _ Hb2.o⟩
 have hn100 : n <= 100 := by have := of_decide_eq_false h100; omega
 have HS := hI (show Slim j from ⟨by have := Hbb.o.1; have := Hm.o; omega,by have := Hbb.o.2.1; have := Hr.o; omega⟩); have HSt := hI (show ∀ X : World,Bl W0 X -> StIn X B A n c l from fun X hX => ⟨Hn.o,by omega,hnc,hc,(HJ.o X hX).2⟩); have HV1 := hI (Serial_any j l A n c B w1 (HJ.o w1 Hb1.o).1 (by omega) HS.o (HSt.o w1 Hb1.o)); have HLn := hI (serV_len (j := j.p) (order := l)); obtain ⟨V,hV⟩ : ∃ x,serV j.p l = x := ⟨_,rfl⟩
 obtain ⟨E,hE⟩ : ∃ x,serErr j.p l = x := ⟨_,rfl⟩
 rw [hV] at HLn; have HVe := hI hV; have HEe := hI hE; rw [Hjv.o] at HV1; clear hV hE; have q0 := W7.bc (j := 0) (HX00.o w1 Hb1.o) rfl; have q1 := W7.bc (j := 1) (HX00.o w1 Hb1.o) rfl; go_upto_region 4 with (go_at_call 17; refine HV1.o.mono ?_; rintro e w2 ⟨⟨av,rfl,hoa⟩,hb2⟩; have hs2 := hb2.size; rw [HVe.o] at hoa; have Hoa := hI hoa; have Hb2 := hI (Hb1.o.trans (hb2.mono hs1)); clear hb2 hoa; go_loud (rw [HEe.o]))
 clear q0 q1 HV1; have HV2 := hI (refSerial_any j l A n c B w2 (HJ.o w2 Hb2.o).1 (by omega) (HSt.o w2 Hb2.o)); rw [Hjv.o] at HV2; have q0 := W7.bc (j := 0) (HX00.o w2 Hb2.o) rfl; have q1 := W7.bc (j := 1) (HX00.o w2 Hb2.o) rfl; go_upto_region 5 with (go_at_call 18; refine HV2.o.mono ?_; rintro e w3 ⟨⟨bv,rfl,hob⟩,hb3⟩; have hs3 := hb3.size; rw [HVe.o] at hob; have Hob := hI hob; have Hoa3 := hI (own_below Hoa.o hb3); have Hb3 := hI (Hb2.o.trans (hb3.mono (by omega))); clear hb3 hob; go_loud (rw [HEe.o]))
 clear q0 q1 HV2; obtain ⟨FA,fc,rfl,hfc1,hfc2⟩ := own_cap' Hoa3.o; obtain ⟨GA,gc,rfl,hgc1,hgc2⟩ := own_cap' Hob.o; have HE9 := hI (lawInts_any V FA GA V.length fc gc w3.heap.size w3 rfl (sl_own2 (k := 1) (fun _ => rfl) (base := w1.heap.size) (e := 3) (c := fc) (by rw [flat_int]; exact Hoa3.o)) (sl_own2 (k := 1) (fun _ => rfl) (base := w2.heap.size) (e := 3) (c := gc) (by rw [flat_int]; exact Hob.o)) (Nat.le_refl _) (by have := HLn.o; omega)); obtain ⟨fn,hfn⟩ : ∃ x,V.length = x := ⟨_,rfl⟩
 rw [hfn] at HE9 hfc1 hgc1; rw [hfn]; clear Hoa Hoa3 Hob HLn hfn; have e5 : (E == E) = true := by simp
 go_wp2_with (first | (go_at_call 19; refine HE9.o.mono ?_; rintro e w7 ⟨rfl,hb7⟩; have hs7 := hb7.size; have Hb7 := hI (Hb3.o.trans (hb7.mono (by omega))); clear hb7) | (go_at_call 16; refine (HDg.o _).mono ?_; rintro e wC ⟨rfl,hbC⟩; have HbC := hI (Hb7.o.trans (hbC.mono (by have := Hb7.o.size; omega))); clear hbC)); go_ret; exact ⟨rfl,HU0.o _ HbC.o⟩
end Go.Proofs.YtjpgnfekbojcaaaGreat
