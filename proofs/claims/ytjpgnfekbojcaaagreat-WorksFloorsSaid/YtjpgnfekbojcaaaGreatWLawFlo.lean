/- WorksFloors's law returns true for every input that can be read. -/
import Derived.Test.YtjpgnfekbojcaaaGreatWHeavy
import Derived.Test.YtjpgnfekbojcaaaGreatWRFlo3
import Derived.Test.YtjpgnfekbojcaaaGreatWRPrv
import Derived.Test.YtjpgnfekbojcaaaGreatWDig3
set_option maxHeartbeats 8000000
set_option maxRecDepth 100000
namespace Go.Proofs.YtjpgnfekbojcaaaGreat
open Go.RowKit W7 W8
attribute [local go_sem] Oper.semAt_some
theorem flo_len {j : JobP} : (floorV j).chain.length <= 1000 := by
 by_cases h : jobErr j = 0
 ·by_cases h2 : j.tasks.length = 0
  ·rw [floorV_no h h2]; simp
  ·rw [floorV_ok h h2]; rcases fl_shape (j := j) j.res.length with h3 | h3
   ·rw [h3]; have h4 := chainGo_len (j := j) (j.tasks.length + 1) (-1) (longV j); have h5 := (good_of h).nt
    show (chainV j (longV j)).length <= 1000
    unfold chainV; omega
   ·rw [h3.2]; simp
 ·rw [floorV_err h]; simp
theorem LawFloors_any (j : Job) (fm fr : Int) (l : List Int) (A : Option Addr) (n c B : Nat) (w : World) (hj : JIn w B j) (hn : n = l.length) (hA : Sl w B 1 encInt1 A l) (hB : B <= w.heap.size) (hnc : n <= c) (hc : c <= 9223372036854775807) (hfm : fm <= 9223372036854775807) :
  Calls Tryz.prog 12 #[jobV j,.agg #[.int .i64 fm,.slice A n c,.int .i64 fr]] w fun e w' => e = .returned (.bool true) /\ Bl w w' := by
 obtain ⟨m,hm⟩ : ∃ m,j.tasks.length = m := ⟨_,rfl⟩
 obtain ⟨r,hr⟩ : ∃ r,j.res.length = r := ⟨_,rfl⟩
 have hjv : jobV j = .agg #[.slice j.TA m j.tc,.slice j.RA r j.rc] := by unfold jobV; rw [hm,hr]
 obtain ⟨W0,HW0,hs0,HB0,HX00,HX01,HU0⟩ := boxes2 w (.cells #[.slice j.TA m j.tc,.slice j.RA r j.rc] 25) (.cells #[.int .i64 fm,.slice A n c,.int .i64 fr] 92); have HJ := hI (show ∀ X : World,Bl W0 X -> JIn X B j /\ Sl X B 1 encInt1 A l from fun X hX => ⟨hj.below ((HU0.o X hX).mono hB),hA.below ((HU0.o X hX).mono hB)⟩); have HM := hI (heavy_any j 8 B W0 (HJ.o W0 (Below.refl _ _)).1 (by omega)); have Hn := hI hn; have HDg := hI digs_any; have Hjv := hI hjv; have Hm := hI hm; have Hr := hI hr; have q0 := W7.bc (j := 0) (HX00.o W0 (Below.refl _ _)) rfl; have q1 := W7.bc (j := 1) (HX00.o W0 (Below.refl _ _)) rfl; rw [hjv,hm,hr] at HM; rw [hjv]; clear hj hn hA hjv hm hr; go_enter Tryz.func12,Tryz.ntmps12; go_upto_region 1 with fail; rw [<- HW0.o]; go_wp2_with (go_at_call 15; fail); refine HM.o.mono ?_; rintro e w1 ⟨⟨b,rfl,hbb⟩,hb1⟩; have hs1 := hb1.size; have Hb1 := hI hb1; clear hb1 q0 q1 HM; have g0 := W7.bc (j := 0) (HX01.o w1 Hb1.o) rfl
 have g1 := W7.bc (j := 1) (HX01.o w1 Hb1.o) rfl; have g2 := W7.bc (j := 2) (HX01.o w1 Hb1.o) rfl; cases b; rotate_left
 ·clear hbb; go_wp2_with (go_at_call 16; refine (HDg.o _).mono ?_; rintro e w2 ⟨rfl,hb2⟩; have Hb2 := hI (Hb1.o.trans (hb2.mono hs1)); clear hb2); go_ret; exact ⟨rfl,HU0.o _ Hb2.o⟩
 have Hbb := hI (hbb rfl); clear hbb; cases h100 : decide ((n : Int) > 100); rotate_left
 ·go_wp2_with (go_at_call 16; refine (HDg.o _).mono ?_; rintro e w2 ⟨rfl,hb2⟩; have Hb2 := hI (Hb1.o.trans (hb2.mono hs1)); clear hb2); go_ret; exact ⟨rfl,HU0.o _ Hb2.o⟩
 have hn100 : n <= 100 := by have := of_decide_eq_false h100; omega
 have HS := hI (show Slim j from ⟨by have := Hbb.o.1; have := Hm.o; omega,by have := Hbb.o.2.1; have := Hr.o; omega⟩); have HSt := hI (show ∀ X : World,Bl W0 X -> StIn X B A n c l from fun X hX => ⟨Hn.o,by omega,hnc,hc,(HJ.o X hX).2⟩); have HV1 := hI (Least_any j B w1 (HJ.o w1 Hb1.o).1 (by omega) HS.o); have HLn := hI (flo_len (j := j.p)); obtain ⟨F,hF⟩ : ∃ x,floorV j.p = x := ⟨_,rfl⟩
 obtain ⟨E,hE⟩ : ∃ x,jobErr j.p = x := ⟨_,rfl⟩
 rw [hF] at HLn; have HFe := hI hF; have HEe := hI hE; rw [Hjv.o] at HV1; clear hF hE; obtain ⟨Fm,FC,Fr⟩ := F; dsimp only at HLn; have q0 := W7.bc (j := 0) (HX00.o w1 Hb1.o) rfl; have q1 := W7.bc (j := 1) (HX00.o w1 Hb1.o) rfl; go_upto_region 3 with fail; clear g0 g1 g2; go_wp2_with (go_at_call 51; fail); refine HV1.o.mono ?_; rintro e w2 ⟨⟨av,rfl,hoa⟩,hb2⟩; have hs2 := hb2.size; rw [HFe.o] at hoa ⊢; dsimp only at hoa; unfold flC; rw [HEe.o]; have Hoa := hI hoa; have Hb2 := hI (Hb1.o.trans (hb2.mono hs1)); clear hb2 hoa q0 q1 HV1; obtain ⟨FA,fc,rfl,hfc1,hfc2⟩ := own_cap' Hoa.o; obtain ⟨fn,hfn⟩ : ∃ x,FC.length = x := ⟨_,rfl⟩
 have Hoa2 := Hoa; rw [hfn] at HLn hfc1 Hoa2; rw [hfn]; have Hfn := hI hfn; clear Hoa hfn; obtain ⟨W3,hW3⟩ : ∃ W3,W3 = w2.alloc (.cells #[.int .i64 Fm,.slice FA fn fc,.int .i64 Fr] 92) := ⟨_,rfl⟩
 have hs3 : W3.heap.size = w2.heap.size + 1 := by rw [hW3]; simp
 have HG3 := hI (show W3.heap[w2.heap.size]? = some (.cells #[.int .i64 Fm,.slice FA fn fc,.int .i64 Fr] 92 (0,0)) by rw [hW3]; exact heap_alloc_new _ _); have HB3 := hI (show Bl W0 W3 by rw [hW3]; exact Hb2.o.alloc (by omega) _); have Hoa3 := hI (show W3.ownsRow w1.heap.size 3 1 (.slice FA fn fc) fn (FC.map (Value.int .i64)) by rw [hW3]; exact Hoa2.o.alloc _); go_upto_region 4 with fail; rw [<- hW3]; clear hW3 Hoa2; have HV2 := hI (refLeast_any j B W3 (HJ.o W3 HB3.o).1 (by omega)); rw [Hjv.o] at HV2; have q0 := W7.bc (j := 0) (HX00.o W3 HB3.o) rfl; have q1 := W7.bc (j := 1) (HX00.o W3 HB3.o) rfl; go_wp2_with (go_at_call 52; fail); refine HV2.o.mono ?_; rintro e w4 ⟨⟨bv,rfl,hob⟩,hb4⟩; have hs4 := hb4.size; rw [HFe.o] at hob ⊢; dsimp only at hob; unfold flC; rw [HEe.o]; have Hob := hI hob; have Hb4 := hI (HB3.o.trans (hb4.mono (by omega))); have HG4 := hI ((hb4.block _ (by omega)).trans HG3.o); have Hoa4 := hI (own_below Hoa3.o hb4); clear hb4 hob q0 q1 HV2 Hoa3 HG3
 obtain ⟨GA,gc,rfl,hgc1,hgc2⟩ := own_cap' Hob.o; have Hob2 := Hob; rw [Hfn.o] at hgc1 Hob2; rw [Hfn.o]; clear Hob; obtain ⟨W5,hW5⟩ : ∃ W5,W5 = w4.alloc (.cells #[.int .i64 Fm,.slice GA fn gc,.int .i64 Fr] 92) := ⟨_,rfl⟩
 have hs5 : W5.heap.size = w4.heap.size + 1 := by rw [hW5]; simp
 have HG5 := hI (show W5.heap[w4.heap.size]? = some (.cells #[.int .i64 Fm,.slice GA fn gc,.int .i64 Fr] 92 (0,0)) by rw [hW5]; exact heap_alloc_new _ _); have HG6 := hI (show W5.heap[w2.heap.size]? = some (.cells #[.int .i64 Fm,.slice FA fn fc,.int .i64 Fr] 92 (0,0)) by rw [hW5]; exact (Below.heap_alloc _ _ _ (blk_lt HG4.o)).trans HG4.o); have HB5 := hI (show Bl W0 W5 by rw [hW5]; exact Hb4.o.alloc (by omega) _); have Hoa5 := hI (show W5.ownsRow w1.heap.size 3 1 (.slice FA fn fc) fn (FC.map (Value.int .i64)) by rw [hW5]; exact Hoa4.o.alloc _); have Hob5 := hI (show W5.ownsRow W3.heap.size 3 1 (.slice GA fn gc) fn (FC.map (Value.int .i64)) by rw [hW5]; exact Hob2.o.alloc _); go_upto_region 5 with fail; rw [<- hW5]; clear hW5 Hob2 Hoa4
 have HE9 := hI (lawInts_any FC FA GA fn fc gc W5.heap.size W5 Hfn.o.symm (sl_own2 (k := 1) (fun _ => rfl) (base := w1.heap.size) (e := 3) (c := fc) (by rw [flat_int,Hfn.o]; exact Hoa5.o)) (sl_own2 (k := 1) (fun _ => rfl) (base := W3.heap.size) (e := 3) (c := gc) (by rw [flat_int,Hfn.o]; exact Hob5.o)) (Nat.le_refl _) (by have := HLn.o; omega)); have e1 : (E != E) = false := by simp
 have e2 : (Fm != Fm) = false := by simp
 have e3 : (Fr != Fr) = false := by simp
 have h6 := HG6.o; have h5 := HG5.o; have k0 := W7.bc (j := 0) h6 rfl; have k1 := W7.bc (j := 1) h6 rfl; have k2 := W7.bc (j := 2) h6 rfl; have o0 := W7.bc (j := 0) h5 rfl; have o1 := W7.bc (j := 1) h5 rfl; have o2 := W7.bc (j := 2) h5 rfl; clear h5 h6; go_upto_region 7 with (go_at_call 19; refine HE9.o.mono ?_; rintro e w7 ⟨rfl,hb7⟩; have hs7 := hb7.size; have Hb7 := hI (HB5.o.trans (hb7.mono (by omega))); clear hb7)
 clear HE9 k0 k1 k2 o0 o1 o2; have HP1 := hI (Proves_any j fm fr l A n c B w7 (HJ.o w7 Hb7.o).1 (by omega) HS.o (HSt.o w7 Hb7.o) hfm); obtain ⟨pv,hpv⟩ : ∃ x,prvV j.p fm l fr = x := ⟨_,rfl⟩
 have Hpv := hI hpv; rw [hpv,HEe.o,Hjv.o] at HP1; clear hpv; have q0 := W7.bc (j := 0) (HX00.o w7 Hb7.o) rfl; have q1 := W7.bc (j := 1) (HX00.o w7 Hb7.o) rfl; have g0 := W7.bc (j := 0) (HX01.o w7 Hb7.o) rfl; have g1 := W7.bc (j := 1) (HX01.o w7 Hb7.o) rfl; have g2 := W7.bc (j := 2) (HX01.o w7 Hb7.o) rfl; go_upto_region 8 with (go_at_call 53; refine HP1.o.mono ?_; rintro e w8 ⟨rfl,hb8⟩; have hs8 := hb8.size; have Hb8 := hI (Hb7.o.trans (hb8.mono (by omega))); clear hb8)
 clear q0 q1 g0 g1 g2 HP1; have HP2 := hI (refProves_any j fm fr l A n c B w8 (HJ.o w8 Hb8.o).1 (by omega) (HSt.o w8 Hb8.o) hfm); rw [Hpv.o,HEe.o,Hjv.o] at HP2; have q0 := W7.bc (j := 0) (HX00.o w8 Hb8.o) rfl; have q1 := W7.bc (j := 1) (HX00.o w8 Hb8.o) rfl; have g0 := W7.bc (j := 0) (HX01.o w8 Hb8.o) rfl; have g1 := W7.bc (j := 1) (HX01.o w8 Hb8.o) rfl; have g2 := W7.bc (j := 2) (HX01.o w8 Hb8.o) rfl; have e4 : (E == E) = true := by simp
 have e5 : (pv == pv) = true := by simp
 go_upto_region 9 with (go_at_call 54; refine HP2.o.mono ?_; rintro e w9 ⟨rfl,hb9⟩; have hs9 := hb9.size; have Hb9 := hI (Hb8.o.trans (hb9.mono (by omega))); clear hb9)
 clear q0 q1 g0 g1 g2 HP2; go_wp2_with (go_at_call 16; refine (HDg.o _).mono ?_; rintro e wC ⟨rfl,hbC⟩; have HbC := hI (Hb9.o.trans (hbC.mono (by omega))); clear hbC); go_ret; exact ⟨rfl,HU0.o _ HbC.o⟩
end Go.Proofs.YtjpgnfekbojcaaaGreat
