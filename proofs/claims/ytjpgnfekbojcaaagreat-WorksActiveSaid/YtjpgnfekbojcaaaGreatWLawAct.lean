/- WorksActive's law returns true for every input that can be read. -/
import Derived.Test.YtjpgnfekbojcaaaGreatWHeavy
import Derived.Test.YtjpgnfekbojcaaaGreatWRKeep
import Derived.Test.YtjpgnfekbojcaaaGreatWDig3
set_option maxHeartbeats 16000000
set_option maxRecDepth 100000
namespace Go.Proofs.YtjpgnfekbojcaaaGreat
open Go.RowKit W7 W8
attribute [local go_sem] Oper.semAt_some
theorem owns_setI {X : World} {base n g cap : Nat} {Vs : List Int} (hn : Vs.length = n) (h : X.ownsRow base 3 1 (.slice (some ⟨g,0,none⟩) n cap) n (Vs.map (Value.int .i64))) {ix : Nat} (hix : ix < n) :
  base <= g /\ g < X.heap.size /\ X.cell? ⟨g,ix,none⟩ = some (.int .i64 (Vs.getD ix 0)) /\ X.frozen? ⟨g,ix,none⟩ = false /\ n <= cap /\ cap <= 9223372036854775807 ∧
   ∀ x,Sl (X.setCell ⟨g,ix,none⟩ (.int .i64 x)) (X.setCell ⟨g,ix,none⟩ (.int .i64 x)).heap.size 1 encInt1 (some ⟨g,0,none⟩) (Vs.set ix x) := by
 rcases h.2 with ⟨h1,_⟩ | ⟨g',cap',cur,he,hb,hg,h1,h2,h3,h4⟩
 ·cases h1
 simp only [Value.slice.injEq,Option.some.injEq,Addr.mk.injEq,and_true,true_and] at he; obtain ⟨rfl,rfl⟩ := he; rw [Nat.mul_one] at h4
 have hcur : ∀ i,i < n -> cur[i]? = some (.int .i64 (Vs.getD i 0)) := fun i hi => by
  have h5 : (cur.toList.take n)[i]? = (Vs.map (Value.int .i64))[i]? := by rw [h4]
  rw [List.getElem?_take_of_lt hi,List.getElem?_map,List.getElem?_eq_getElem (l := Vs) (by omega)] at h5; rw [List.getD_eq_getElem?_getD,List.getElem?_eq_getElem (by omega)]
  simpa using h5
 have hsz : ix < cur.size := by
  have h5 := hcur ix hix; exact (Array.getElem?_eq_some_iff.1 h5).1
 refine ⟨hb,blk_lt hg,bc hg (hcur ix hix),W7.bf (j := ix) hg,h1,by unfold maxLen at h2; omega,fun x h0 => ?_⟩; refine ⟨g,0,rfl,blk_lt (blk_set hg _),fun i hi k v hv => ?_⟩
 have hk : k = 0 := by
  have h5 := (List.getElem?_eq_some_iff.1 hv).1; simp [encInt1] at h5; exact h5
 subst hk; simp only [encInt1,List.getElem?_cons_zero,Option.some.injEq] at hv; subst hv; rw [Nat.mul_one,Nat.zero_add,Nat.add_zero]; refine bc (blk_set hg _) ?_; have hin : i < n := by simpa [hn] using hi
 rw [Array.getElem?_setIfInBounds,List.getElem_set]
 by_cases e : ix = i
 ·subst e; simp [hsz]
 ·rw [if_neg e,if_neg e,hcur i hin,List.getD_eq_getElem?_getD,List.getElem?_eq_getElem (by omega)]
  rfl
theorem LawActive_any (j : Job) (l : List Int) (which by' : Int) (A : Option Addr) (n c B : Nat) (w : World) (hj : JIn w B j) (hn : n = l.length) (hA : Sl w B 1 encInt1 A l) (hB : B <= w.heap.size) (hnc : n <= c) (hc : c <= 9223372036854775807) :
  Calls Tryz.prog 4 #[jobV j,.slice A n c,.int .i64 which,.int .i64 by'] w fun e w' => e = .returned (.bool true) /\ Bl w w' := by
 obtain ⟨m,hm⟩ : ∃ m,j.tasks.length = m := ⟨_,rfl⟩
 obtain ⟨r,hr⟩ : ∃ r,j.res.length = r := ⟨_,rfl⟩
 have hjv : jobV j = .agg #[.slice j.TA m j.tc,.slice j.RA r j.rc] := by unfold jobV; rw [hm,hr]
 obtain ⟨W0,HW0,hs0,HB0,HX00,HU0⟩ := boxes1 w (.cells #[.slice j.TA m j.tc,.slice j.RA r j.rc] 25); have HJ := hI (show ∀ X : World,Bl W0 X -> JIn X B j /\ Sl X B 1 encInt1 A l from fun X hX => ⟨hj.below ((HU0.o X hX).mono hB),hA.below ((HU0.o X hX).mono hB)⟩); have HM := hI (heavy_any j 8 B W0 (HJ.o W0 (Below.refl _ _)).1 (by omega)); have Hn := hI hn; have HDg := hI digs_any; have Hjv := hI hjv; have Hm := hI hm; have Hr := hI hr; have q0 := W7.bc (j := 0) (HX00.o W0 (Below.refl _ _)) rfl; have q1 := W7.bc (j := 1) (HX00.o W0 (Below.refl _ _)) rfl; rw [hjv,hm,hr] at HM; rw [hjv]; clear hj hn hA hjv hm hr; go_enter Tryz.func4,Tryz.ntmps4; go_upto_region 1 with fail; rw [<- HW0.o]; go_wp2_with (go_at_call 15; fail); refine HM.o.mono ?_; rintro e w1 ⟨⟨b,rfl,hbb⟩,hb1⟩; have hs1 := hb1.size; have Hb1 := hI hb1; clear hb1 q0 q1 HM; cases b; rotate_left
 ·clear hbb; go_wp2_with (go_at_call 16; refine (HDg.o _).mono ?_; rintro e w2 ⟨rfl,hb2⟩; have Hb2 := hI (Hb1.o.trans (hb2.mono hs1)); clear hb2); go_ret; exact ⟨rfl,HU0.o _ Hb2.o⟩
 have Hbb := hI (hbb rfl); clear hbb; cases h100 : decide ((n : Int) > 100); rotate_left
 ·go_wp2_with (go_at_call 16; refine (HDg.o _).mono ?_; rintro e w2 ⟨rfl,hb2⟩; have Hb2 := hI (Hb1.o.trans (hb2.mono hs1)); clear hb2); go_ret; exact ⟨rfl,HU0.o _ Hb2.o⟩
 have hn100 : n <= 100 := by have := of_decide_eq_false h100; omega
 have HS := hI (show Slim j from ⟨by have := Hbb.o.1; have := Hm.o; omega,by have := Hbb.o.2.1; have := Hr.o; omega⟩); have HV1 := hI (Serial_any j l A n c B w1 (HJ.o w1 Hb1.o).1 (by omega) HS.o ⟨Hn.o,by omega,hnc,hc,(HJ.o w1 Hb1.o).2⟩); have HBad := hI (fun h => serV_bad (j := j.p) (order := l) h); have HGood := hI (fun h => serial_keeps (j := j.p) (order := l) h)
 have HJ0 := hI (fun (h : serErr j.p l = 0) => show jobErr j.p = 0 by
  by_cases h1 : jobErr j.p = 0
  ·exact h1
  ·rw [serErr_job h1] at h; exact absurd h h1)
 obtain ⟨Vs,hV⟩ : ∃ x,serV j.p l = x := ⟨_,rfl⟩
 obtain ⟨E,hE⟩ : ∃ x,serErr j.p l = x := ⟨_,rfl⟩
 rw [hV] at HBad HGood; rw [hE] at HBad HGood HJ0; have HVe := hI hV; have HEe := hI hE; rw [Hjv.o] at HV1; clear hV hE; have q0 := W7.bc (j := 0) (HX00.o w1 Hb1.o) rfl; have q1 := W7.bc (j := 1) (HX00.o w1 Hb1.o) rfl; go_upto_region 4 with (go_at_call 17; refine HV1.o.mono ?_; rintro e w2 ⟨⟨av,rfl,hoa⟩,hb2⟩; have hs2 := hb2.size; rw [HVe.o] at hoa; have Hoa := hI hoa; have Hb2 := hI (Hb1.o.trans (hb2.mono hs1)); clear hb2 hoa; go_loud (rw [HEe.o]))
 clear q0 q1 HV1; obtain ⟨FA,fc,rfl,hfc1,hfc2⟩ := own_cap' Hoa.o; obtain ⟨fn,hfn⟩ : ∃ x,Vs.length = x := ⟨_,rfl⟩
 rw [hfn] at hfc1; have Hoa2 := Hoa; rw [hfn] at Hoa2; rw [hfn]; have Hfn := hI hfn; clear Hoa hfn; cases hE0 : (E == 0)
 ·have hE0' : (E != 0) = true := by simp [bne,hE0]
  have hz : fn = 0 := by rw [<- Hfn.o,HBad.o (fun h => by rw [h] at hE0; cases hE0)]; rfl
  subst hz; go_wp2_with (go_at_call 16; refine (HDg.o _).mono ?_; rintro e w3 ⟨rfl,hb3⟩; have Hb3 := hI (Hb2.o.trans (hb3.mono (by omega))); clear hb3); go_ret; exact ⟨rfl,HU0.o _ Hb3.o⟩
 have hE0' : (E != 0) = false := by simp [bne,hE0]
 have He := hI (show E = 0 from eq_of_beq hE0); have HK0 := hI (HGood.o He.o); have Hj0 := hI (HJ0.o He.o); have HG := hI (good_of Hj0.o); have hfn64 : fn <= 64 := by have h1 := HK0.o.1; have h2 := HG.o.nt; have h3 := Hfn.o; omega
 have HVb := hI (show ∀ i,0 <= Vs.getD i 0 /\ Vs.getD i 0 <= 100000 from keep_times HK0.o.1 (fun i hi => (fitsR_iff.1 (List.all_eq_true.1 ((keepsR_iff HG.o (no_self Hj0.o)).2 HK0.o.2.1) i (List.mem_range.2 hi))).1)); have HSl2 := hI (fun (X : World) (hX : X.ownsRow w1.heap.size 3 1 (.slice FA fn fc) fn (Vs.map (Value.int .i64))) => show Sl X X.heap.size 1 encInt1 FA Vs from sl_own2 (k := 1) (fun _ => rfl) (base := w1.heap.size) (e := 3) (c := fc) (by rw [flat_int,Hfn.o]; exact hX)); have HKe := hI (show kpErr j.p Vs = 0 by unfold kpErr; rw [Hj0.o,HK0.o.1]; simp); have HKv := hI (show kpV j.p Vs = true by unfold kpV; rw [HKe.o,(keepsV_iff HG.o).2 HK0.o.2.1]; rfl); have HKp := hI (refKeeps_any j Vs FA fn fc w2.heap.size w2 ((HJ.o w2 Hb2.o).1.mono (by omega)) (Nat.le_refl _) ⟨Hfn.o.symm,by omega,hfc1,hfc2,HSl2.o w2 Hoa2.o⟩ (fun i => by have := HVb.o i; omega)); rw [HKv.o,HKe.o,Hjv.o] at HKp; have q0 := W7.bc (j := 0) (HX00.o w2 Hb2.o) rfl
 have q1 := W7.bc (j := 1) (HX00.o w2 Hb2.o) rfl; go_upto_region 7 with (go_at_call 20; refine HKp.o.mono ?_; rintro e w3 ⟨rfl,hb3⟩; have hs3 := hb3.size; have Hoa3 := hI (own_below Hoa2.o hb3); have Hb3 := hI (Hb2.o.trans (hb3.mono (by omega))); clear hb3)
 clear q0 q1 HKp Hoa2
 by_cases hf0 : fn = 0
 ·subst hf0; go_wp2_with (go_at_call 16; refine (HDg.o _).mono ?_; rintro e w4 ⟨rfl,hb4⟩; have Hb4 := hI (Hb3.o.trans (hb4.mono (by omega))); clear hb4); go_ret; exact ⟨rfl,HU0.o _ Hb4.o⟩
 have hfpos : 0 < fn := by omega
 obtain ⟨sg,sc2,hse,_⟩ := owns_cells Hoa3.o hfpos; simp only [Value.slice.injEq,true_and] at hse; obtain ⟨rfl,rfl⟩ := hse
 obtain ⟨ix,hix,hixl⟩ : ∃ kn : Nat,(wrap64 (which.tmod fn + fn)).tmod fn = (kn : Int) /\ kn < fn := by
  have hp : (0 : Int) < fn := by omega
  have h1 := Int.tmod_lt_of_pos which hp; have h2 : -(fn : Int) < which.tmod fn := Int.lt_tmod_of_pos which hp; have h3 : wrap64 (which.tmod fn + fn) = which.tmod fn + fn := IntWalk.wrap64_in _ (by omega); have h4 : 0 <= (which.tmod fn + fn).tmod fn := Int.tmod_nonneg _ (by omega); have h5 := Int.tmod_lt_of_pos (which.tmod fn + fn) hp; rw [h3]; exact ⟨((which.tmod fn + fn).tmod fn).toNat,by omega,by omega⟩
 obtain ⟨hsg1,hsg2,s0,_,_,_,_⟩ := owns_setI Hfn.o Hoa3.o hixl; have HsA := hI (fun (X : World) (hX : Bl w3 X) => (hX.cell (p := ⟨sg,ix,none⟩) hsg2).trans s0); have hsb := HVb.o ix; have HAct := hI (fun x h1 h2 => HK0.o.2.2 ix (by have h3 := HK0.o.1; have h4 := Hfn.o; omega) x h1 h2); obtain ⟨sv,hsv⟩ : ∃ z,Vs.getD ix 0 = z := ⟨_,rfl⟩
 rw [hsv] at s0 HsA hsb HAct; clear hsv; have hne0 : ¬ ((fn : Int) = 0) := by omega
 go_upto_region 12 with fail
 try simp only [hix]
 have Hix := hI hix; clear hix; cases hp : decide (sv > 0)
 ·go_wp2_with (go_at_call 16; refine (HDg.o _).mono ?_; rintro e w4 ⟨rfl,hb4⟩; have Hb4 := hI (Hb3.o.trans (hb4.mono (by omega))); clear hb4); go_ret; exact ⟨rfl,HU0.o _ Hb4.o⟩
 have hsv0 := of_decide_eq_true hp; obtain ⟨w3',hw3⟩ : ∃ X,X = w3.alloc (.cells #[] 3) := ⟨_,rfl⟩
 have HO := hI (World.ownsRow_lit (base := w3.heap.size) (e := 3) (size := 1) w3 #[] 0 (Nat.le_refl _) (by unfold maxLen; omega) rfl); have HSrc := hI (src_I (w := w3.alloc (.cells #[] 3)) (ad := ⟨sg,0,none⟩) ((HSl2.o w3 Hoa3.o).below ((Below.refl _ _).alloc (Nat.le_refl _) _)) Hfn.o.symm)
 have Hone : Hid (∀ u ∈ Vs.flatMap encInt1,u.oneCell' = true) := by
  intro u hu; obtain ⟨x,_,hx⟩ := List.mem_flatMap.1 hu; simp only [encInt1,List.mem_cons,List.not_mem_nil,or_false] at hx; rcases hx with rfl; rfl
 clear hw3; go_upto_region 14 with (at_builtin; refine wpList_appendL rfl _ _ 26 rfl w3.heap.size 3 _ 1 8 elemI _ _ _ rfl HO.o _ _ _ _ rfl HSrc.o Hone.o (by omega) (by simp) ?_; intro v4 w4 hown4 hb4 hsz4 hg4 hblk4; have Ho4 := hI hown4; have Hb34 := hI (show Bl w3 w4 from ((Below.refl _ _).alloc (Nat.le_refl _) _).trans hb4); have hs4 := Hb34.o.size; clear hown4 hb4 hsz4 hg4 hblk4)
 have Ho5 := hI (show w4.ownsRow w3.heap.size 3 1 v4 fn (Vs.map (Value.int .i64)) by have h := Ho4.o; rw [flat_int] at h; simpa using h); clear Ho4 HO HSrc Hone; obtain ⟨g,tc,rfl,_⟩ := owns_cells Ho5.o hfpos; obtain ⟨hg1,hg2,c4,f4,htc1,htc2,hsl4⟩ := owns_setI Hfn.o Ho5.o hixl; have Hsl4 := hI hsl4; have HSt4 := hI (fun (X : World) (hX : Bl w4 X) (x : Int) => show Sl (X.setCell ⟨g,ix,none⟩ (.int .i64 x)) (X.setCell ⟨g,ix,none⟩ (.int .i64 x)).heap.size 1 encInt1 (some ⟨g,0,none⟩) (Vs.set ix x) from (owns_setI Hfn.o (own_below Ho5.o hX) hixl).2.2.2.2.2.2 x); have HgC := hI (fun (X : World) (hX : Bl w4 X) => show g < X.heap.size /\ X.cell? ⟨g,ix,none⟩ = some (.int .i64 (Vs.getD ix 0)) /\ X.frozen? ⟨g,ix,none⟩ = false from ⟨(owns_setI Hfn.o (own_below Ho5.o hX) hixl).2.1,(owns_setI Hfn.o (own_below Ho5.o hX) hixl).2.2.1,(owns_setI Hfn.o (own_below Ho5.o hX) hixl).2.2.2.1⟩); have HsC := HsA
 obtain ⟨xv,hxv,hx0,hx1,hr1,hr2⟩ : ∃ xv : Int,(by'.tmod sv + sv).tmod sv = xv /\ 0 <= xv /\ xv < sv /\ -sv < by'.tmod sv /\ by'.tmod sv < sv := by
  have hp9 : (0 : Int) < sv := by omega
  exact ⟨_,rfl,Int.tmod_nonneg _ (by have : -sv < by'.tmod sv := Int.lt_tmod_of_pos by' hp9; omega),Int.tmod_lt_of_pos _ hp9,Int.lt_tmod_of_pos by' hp9,Int.tmod_lt_of_pos by' hp9⟩
 have Hxv := hI hxv; have hsvn : ¬ (sv = 0) := by omega
 clear hxv hsl4 c4 f4 s0; skip
 obtain ⟨C,hC⟩ : ∃ C : (Nat -> Bool) -> (Nat -> Value) -> World -> Prop,C = fun L V w' => ∃ (e : Later w3),w' = e.w /\ (L 19 = false -> Hid (Bl w4 e.w)) /\ (L 0 = true -> V 0 = .slice (some ⟨g,0,none⟩) fn tc) /\ (L 1 = true -> V 1 = .int .i64 (ix : Int)) /\ (L 2 = true -> V 2 = .int .i64 by') /\ (L 3 = true -> V 3 = .slice (some ⟨sg,0,none⟩) fn fc) /\ (L 4 = true -> V 4 = .int .i64 (ix : Int)) /\ (L 5 = true -> V 5 = .pointer (some ⟨sg,ix,none⟩)) /\ (L 6 = true -> V 6 = .int .i64 sv) /\ (L 7 = true -> V 7 = .int .i64 (by'.tmod sv)) /\ (L 8 = true -> V 8 = .slice (some ⟨sg,0,none⟩) fn fc) /\ (L 9 = true -> V 9 = .int .i64 (ix : Int)) /\ (L 10 = true -> V 10 = .pointer (some ⟨sg,ix,none⟩)) /\ (L 11 = true -> V 11 = .int .i64 sv) /\ (L 12 = true -> V 12 = .int .i64 (by'.tmod sv + sv)) /\ (L 13 = true -> V 13 = .slice (some ⟨sg,0,none⟩) fn fc) /\ (L 14 = true -> V 14 = .int .i64 (ix : Int)) /\ (L 15 = true -> V 15 = .pointer (some ⟨sg,ix,none⟩)) /\ (L 16 = true -> V 16 = .int .i64 sv) /\ (L 17 = true -> V 17 = .int .i64 xv) /\ (L 18 = true -> V 18 = .pointer (some ⟨g,ix,none⟩)) /\ (L 19 = true -> Hid (∃ X : World,Bl w4 X /\ e.w = X.setCell ⟨g,ix,none⟩ (.int .i64 xv))) := ⟨_,rfl⟩
 have HC := hI hC; clear hC; refine wp_region_opsA [71,72,73,74,75,76,77,78,79,80,81,82,83,84,85,86,87,88,89] C (by kernel_rfl) (by kernel_rfl) (by decide) (by kernel_rfl) (by kernel_rfl) ?_ ?_ ?_
 ·rw [HC.o]; exact ⟨⟨w4.drew,(Hb34.o).drew⟩,rfl,fun _ => hI ((Below.refl _ _).drew),nff,nff,nff,nff,nff,nff,nff,nff,nff,nff,nff,nff,nff,nff,nff,nff,nff,nff,nff,nff⟩
 ·rintro L V w' ii o AA hii ho hLi haf hInv hAA hFF; rw [HC.o] at hInv; obtain ⟨e,rfl,p0,h0,h1,h2,h3,h4,h5,h6,h7,h8,h9,h10,h11,h12,h13,h14,h15,h16,h17,h18,h19⟩ := hInv; rcases ii with _ | _ | _ | _ | _ | _ | _ | _ | _ | _ | _ | _ | _ | _ | _ | _ | _ | _ | _ | _ | ii; case succ.succ.succ.succ.succ.succ.succ.succ.succ.succ.succ.succ.succ.succ.succ.succ.succ.succ.succ.succ => (simp at hii; try omega)
  all_goals (simp only [List.getElem?_cons_zero,List.getElem?_cons_succ,Option.some.injEq] at ho; subst ho)
  all_goals clear hii
  ·have f14 : AA.tmps[14]?.getD undef = .slice (some ⟨g,0,none⟩) fn tc := hFF.out 14 (by decide); go_wp2; rw [HC.o]; exact ⟨_,rfl,e,rfl,p0,fun _ => rfl,h1,h2,h3,h4,h5,h6,h7,h8,h9,h10,h11,h12,h13,h14,h15,h16,h17,h18,h19⟩
  ·have f13 : AA.tmps[13]?.getD undef = .int .i64 (ix : Int) := hFF.out 13 (by decide); go_wp2; rw [HC.o]; exact ⟨_,rfl,e,rfl,p0,h0,fun _ => rfl,h2,h3,h4,h5,h6,h7,h8,h9,h10,h11,h12,h13,h14,h15,h16,h17,h18,h19⟩
  ·have f3 : AA.tmps[3]?.getD undef = .int .i64 by' := hFF.out 3 (by decide)
   go_wp2; rw [HC.o]; exact ⟨_,rfl,e,rfl,p0,h0,h1,fun _ => rfl,h3,h4,h5,h6,h7,h8,h9,h10,h11,h12,h13,h14,h15,h16,h17,h18,h19⟩
  ·have f9 : AA.tmps[9]?.getD undef = .slice (some ⟨sg,0,none⟩) fn fc := hFF.out 9 (by decide); go_wp2; rw [HC.o]; exact ⟨_,rfl,e,rfl,p0,h0,h1,h2,fun _ => rfl,h4,h5,h6,h7,h8,h9,h10,h11,h12,h13,h14,h15,h16,h17,h18,h19⟩
  ·have f13 : AA.tmps[13]?.getD undef = .int .i64 (ix : Int) := hFF.out 13 (by decide); go_wp2; rw [HC.o]; exact ⟨_,rfl,e,rfl,p0,h0,h1,h2,h3,fun _ => rfl,h5,h6,h7,h8,h9,h10,h11,h12,h13,h14,h15,h16,h17,h18,h19⟩
  ·have a3 := (hAA.out 3 74 rfl).trans (h3 (haf ⟨3,.data⟩ (by simp) rfl)); have a4 := (hAA.out 4 75 rfl).trans (h4 (haf ⟨4,.data⟩ (by simp) rfl)); go_wp2; rw [HC.o]; exact ⟨_,rfl,e,rfl,p0,h0,h1,h2,h3,h4,fun _ => rfl,h6,h7,h8,h9,h10,h11,h12,h13,h14,h15,h16,h17,h18,h19⟩
  ·have a5 := (hAA.out 5 76 rfl).trans (h5 (haf ⟨5,.data⟩ (by simp) rfl)); have s9 := HsC.o e.w e.b; go_wp2; rw [HC.o]; exact ⟨_,rfl,e,rfl,p0,h0,h1,h2,h3,h4,h5,fun _ => rfl,h7,h8,h9,h10,h11,h12,h13,h14,h15,h16,h17,h18,h19⟩
  ·have a2 := (hAA.out 2 73 rfl).trans (h2 (haf ⟨2,.data⟩ (by simp) rfl)); have a6 := (hAA.out 6 77 rfl).trans (h6 (haf ⟨6,.data⟩ (by simp) rfl)); go_wp2; rw [HC.o]; exact ⟨_,rfl,e,rfl,p0,h0,h1,h2,h3,h4,h5,h6,fun _ => rfl,h8,h9,h10,h11,h12,h13,h14,h15,h16,h17,h18,h19⟩
  ·have f9 : AA.tmps[9]?.getD undef = .slice (some ⟨sg,0,none⟩) fn fc := hFF.out 9 (by decide); go_wp2; rw [HC.o]; exact ⟨_,rfl,e,rfl,p0,h0,h1,h2,h3,h4,h5,h6,h7,fun _ => rfl,h9,h10,h11,h12,h13,h14,h15,h16,h17,h18,h19⟩
  ·have f13 : AA.tmps[13]?.getD undef = .int .i64 (ix : Int) := hFF.out 13 (by decide); go_wp2; rw [HC.o]; exact ⟨_,rfl,e,rfl,p0,h0,h1,h2,h3,h4,h5,h6,h7,h8,fun _ => rfl,h10,h11,h12,h13,h14,h15,h16,h17,h18,h19⟩
  ·have a8 := (hAA.out 8 79 rfl).trans (h8 (haf ⟨8,.data⟩ (by simp) rfl)); have a9 := (hAA.out 9 80 rfl).trans (h9 (haf ⟨9,.data⟩ (by simp) rfl)); go_wp2; rw [HC.o]; exact ⟨_,rfl,e,rfl,p0,h0,h1,h2,h3,h4,h5,h6,h7,h8,h9,fun _ => rfl,h11,h12,h13,h14,h15,h16,h17,h18,h19⟩
  ·have a10 := (hAA.out 10 81 rfl).trans (h10 (haf ⟨10,.data⟩ (by simp) rfl)); have s9 := HsC.o e.w e.b; go_wp2; rw [HC.o]; exact ⟨_,rfl,e,rfl,p0,h0,h1,h2,h3,h4,h5,h6,h7,h8,h9,h10,fun _ => rfl,h12,h13,h14,h15,h16,h17,h18,h19⟩
  ·have a7 := (hAA.out 7 78 rfl).trans (h7 (haf ⟨7,.data⟩ (by simp) rfl)); have a11 := (hAA.out 11 82 rfl).trans (h11 (haf ⟨11,.data⟩ (by simp) rfl)); go_wp2; rw [HC.o]; exact ⟨_,rfl,e,rfl,p0,h0,h1,h2,h3,h4,h5,h6,h7,h8,h9,h10,h11,fun _ => rfl,h13,h14,h15,h16,h17,h18,h19⟩
  ·have f9 : AA.tmps[9]?.getD undef = .slice (some ⟨sg,0,none⟩) fn fc := hFF.out 9 (by decide); go_wp2; rw [HC.o]; exact ⟨_,rfl,e,rfl,p0,h0,h1,h2,h3,h4,h5,h6,h7,h8,h9,h10,h11,h12,fun _ => rfl,h14,h15,h16,h17,h18,h19⟩
  ·have f13 : AA.tmps[13]?.getD undef = .int .i64 (ix : Int) := hFF.out 13 (by decide); go_wp2; rw [HC.o]; exact ⟨_,rfl,e,rfl,p0,h0,h1,h2,h3,h4,h5,h6,h7,h8,h9,h10,h11,h12,h13,fun _ => rfl,h15,h16,h17,h18,h19⟩
  ·have a13 := (hAA.out 13 84 rfl).trans (h13 (haf ⟨13,.data⟩ (by simp) rfl)); have a14 := (hAA.out 14 85 rfl).trans (h14 (haf ⟨14,.data⟩ (by simp) rfl)); go_wp2; rw [HC.o]; exact ⟨_,rfl,e,rfl,p0,h0,h1,h2,h3,h4,h5,h6,h7,h8,h9,h10,h11,h12,h13,h14,fun _ => rfl,h16,h17,h18,h19⟩
  ·have a15 := (hAA.out 15 86 rfl).trans (h15 (haf ⟨15,.data⟩ (by simp) rfl)); have s9 := HsC.o e.w e.b; go_wp2; rw [HC.o]; exact ⟨_,rfl,e,rfl,p0,h0,h1,h2,h3,h4,h5,h6,h7,h8,h9,h10,h11,h12,h13,h14,h15,fun _ => rfl,h17,h18,h19⟩
  ·have a12 := (hAA.out 12 83 rfl).trans (h12 (haf ⟨12,.data⟩ (by simp) rfl)); have a16 := (hAA.out 16 87 rfl).trans (h16 (haf ⟨16,.data⟩ (by simp) rfl)); have hxv := Hxv.o; go_wp2
   try rw [hxv]
   rw [HC.o]; exact ⟨_,rfl,e,rfl,p0,h0,h1,h2,h3,h4,h5,h6,h7,h8,h9,h10,h11,h12,h13,h14,h15,h16,fun _ => rfl,h18,h19⟩
  ·have a0 := (hAA.out 0 71 rfl).trans (h0 (haf ⟨0,.data⟩ (by simp) rfl)); have a1 := (hAA.out 1 72 rfl).trans (h1 (haf ⟨1,.data⟩ (by simp) rfl)); go_wp2; rw [HC.o]; exact ⟨_,rfl,e,rfl,p0,h0,h1,h2,h3,h4,h5,h6,h7,h8,h9,h10,h11,h12,h13,h14,h15,h16,h17,fun _ => rfl,h19⟩
  ·have a17 := (hAA.out 17 88 rfl).trans (h17 (haf ⟨17,.data⟩ (by simp) rfl)); have a18 := (hAA.out 18 89 rfl).trans (h18 (haf ⟨18,.data⟩ (by simp) rfl)); have hb9 := Hid.o (p0 hLi); obtain ⟨hg9,hc9,hf9⟩ := HgC.o e.w hb9; have Hb9 := hI hb9; clear hb9; go_wp2; rw [HC.o]; exact ⟨rfl,undef,⟨_,e.b.setCell (p := ⟨g,ix,none⟩) (by simp; omega) _⟩,rfl,fun y => absurd y (by simp),h0,h1,h2,h3,h4,h5,h6,h7,h8,h9,h10,h11,h12,h13,h14,h15,h16,h17,h18,fun _ => hI ⟨_,Hb9.o,rfl⟩⟩
 rintro L V w' hL hInv; rw [HC.o] at hInv; obtain ⟨e,rfl,p0,h0,h1,h2,h3,h4,h5,h6,h7,h8,h9,h10,h11,h12,h13,h14,h15,h16,h17,h18,h19⟩ := hInv; have k0 := h0 (hL 0 (by simp)); have k1 := h1 (hL 1 (by simp)); have k2 := h2 (hL 2 (by simp)); have k3 := h3 (hL 3 (by simp)); have k4 := h4 (hL 4 (by simp)); have k5 := h5 (hL 5 (by simp)); have k6 := h6 (hL 6 (by simp)); have k7 := h7 (hL 7 (by simp)); have k8 := h8 (hL 8 (by simp)); have k9 := h9 (hL 9 (by simp)); have k10 := h10 (hL 10 (by simp)); have k11 := h11 (hL 11 (by simp)); have k12 := h12 (hL 12 (by simp)); have k13 := h13 (hL 13 (by simp)); have k14 := h14 (hL 14 (by simp)); have k15 := h15 (hL 15 (by simp)); have k16 := h16 (hL 16 (by simp)); have k17 := h17 (hL 17 (by simp)); have k18 := h18 (hL 18 (by simp)); have k19 := h19 (hL 19 (by simp)); clear h0 h1 h2 h3 h4 h5 h6 h7 h8 h9 h10 h11 h12 h13 h14 h15 h16 h17 h18 h19 hL HC
 have HF5 := hI ((k19 : Hid (∃ X : World,Bl w4 X /\ e.w = X.setCell ⟨g,ix,none⟩ (.int .i64 xv))).out); have Hb5 := hI (Hb3.o.trans (e.b.mono (by omega))); have hs5 := e.b.size; clear k0 k1 k2 k3 k4 k5 k6 k7 k8 k9 k10 k11 k12 k13 k14 k15 k16 k17 k18 k19 p0; generalize e.w = w5 at HF5 Hb5 hs5; simp only [putAll]; go_frame
 have HSl5 := hI (show Sl w5 w5.heap.size 1 encInt1 (some ⟨g,0,none⟩) (Vs.set ix xv) from by
  obtain ⟨X,hX,hXe⟩ := HF5.o; rw [hXe]; exact HSt4.o X hX xv)
 have HKe2 := hI (show kpErr j.p (Vs.set ix xv) = 0 by unfold kpErr; rw [Hj0.o,List.length_set,HK0.o.1]; simp); have HKv2 := hI (show kpV j.p (Vs.set ix xv) = false by unfold kpV; rw [HAct.o xv hx0 hx1,Bool.and_false]); have HKp2 := hI (Keeps_any j (Vs.set ix xv) (some ⟨g,0,none⟩) fn tc w5.heap.size w5 ((HJ.o w5 Hb5.o).1.mono (by omega)) (Nat.le_refl _) HS.o ⟨by rw [List.length_set,Hfn.o],by omega,htc1,htc2,HSl5.o⟩); rw [HKv2.o,HKe2.o,Hjv.o] at HKp2; have q0 := W7.bc (j := 0) (HX00.o w5 Hb5.o) rfl; have q1 := W7.bc (j := 1) (HX00.o w5 Hb5.o) rfl; go_upto_region 16 with (go_at_call 21; refine HKp2.o.mono ?_; rintro e w6 ⟨rfl,hb6⟩; have Hb6 := hI (Hb5.o.trans (hb6.mono (by omega))); have hs6 := hb6.size; clear hb6)
 clear q0 q1 HKp2; go_wp2_with (go_at_call 16; refine (HDg.o _).mono ?_; rintro e w7 ⟨rfl,hb7⟩; have Hb7 := hI (Hb6.o.trans (hb7.mono (by omega))); clear hb7); go_ret; exact ⟨rfl,HU0.o _ Hb7.o⟩
end Go.Proofs.YtjpgnfekbojcaaaGreat
