/- The specification's Best,and WorksBest's law returns true for every input that can be read. -/
import Derived.Test.YtjpgnfekbojcaaaGreatWBst1
import Derived.Test.YtjpgnfekbojcaaaGreatWHeavy
import Derived.Test.YtjpgnfekbojcaaaGreatWDig3
set_option maxHeartbeats 16000000
set_option maxRecDepth 100000
namespace Go.Proofs.YtjpgnfekbojcaaaGreat
open Go.RowKit W7 W8
attribute [local go_sem] Oper.semAt_some
structure RBestR (j:Job) (w:World) (e:Ending) (w':World):Prop where
 ex:∃A c,e= .returned (.tuple #[.slice A (bestSt j.p).length c,.int .i64 (bestN j.p),.int .i64 (bestErr j.p)])/\Sl w' w'.heap.size 1 encInt1 A (bestSt j.p)/\(bestSt j.p).length<=c/\c<=9223372036854775807/\(bestSt j.p).length<=64
 bel:Bl w w'
theorem RBestR.bad {j:Job} {w w':World} {k:Int} (h:bestErr j.p=k) (h0:k≠0) (hb:Bl w w'):RBestR j w (.returned (.tuple #[.slice none 0 0,.int .i64 0,.int .i64 k])) w':=by
 have h1:bestN j.p=0:=by unfold bestN;rw[if_neg (by rw[h];exact h0)]
 have h2:bestSt j.p=[]:=by unfold bestSt;rw[if_neg (by rw[h];exact h0)]
 exact⟨⟨none,0,by rw[h,h1,h2];rfl,by rw[h2];intro h9;exact absurd h9 (by decide),by rw[h2];exact Nat.le_refl _,by decide,by rw[h2];decide⟩,hb⟩
theorem refBest_any (j:Job) (B:Nat) (w:World) (hj:JIn w B j) (hB:B<=w.heap.size):Calls Tryz.prog 56 #[jobV j] w (RBestR j w):=by
 obtain⟨n,hn⟩:∃n,j.tasks.length=n:=⟨_,rfl⟩
 obtain⟨TA,hTA⟩:∃x,j.TA=x:=⟨_,rfl⟩
 have hjv:jobV j= .agg #[.slice TA n j.tc,.slice j.RA j.res.length j.rc]:=by unfold jobV;rw[hn,hTA]
 obtain⟨W0,HW0,hs0,HB0,HX00,HU0⟩:=boxes1 w (.cells #[.slice TA n j.tc,.slice j.RA j.res.length j.rc] 25);have HJ:=hI (show ∀X:World,Bl W0 X->JIn X B j from fun X hX=>hj.below ((HU0.o X hX).mono hB));have HC:=hI (refCheck_any j B W0 (HJ.o W0 (Below.refl _ _)) (by omega));have hlc:=hj.tl;have hc2:=hj.tc;rw[hn] at hlc;have Hn:=hI hn;have Hjv:=hI hjv;rw[hjv] at HC ⊢;obtain⟨je,hje⟩:∃x,jobErr j.p=x:=⟨_,rfl⟩
 rw[hje] at HC;have Hje:=hI hje;have q0:=W7.bc (j:=0) (HX00.o W0 (Below.refl _ _)) rfl;have q1:=W7.bc (j:=1) (HX00.o W0 (Below.refl _ _)) rfl;clear hj hn hjv hje hTA;go_enter Tryz.func56,Tryz.ntmps56;go_upto_region 1 with fail;rw[<- HW0.o];go_upto_region 2 with(go_at_call 38;refine HC.o.mono ?_;rintro e w1 ⟨rfl,hb1⟩;have hs1:=hb1.size;have Hb1:=hI hb1;clear hb1)
 clear q0 q1 HC;have q0:=W7.bc (j:=0) (HX00.o w1 Hb1.o) rfl;have q1:=W7.bc (j:=1) (HX00.o w1 Hb1.o) rfl;cases h0:(je==0)
 ·have h0':(je != 0)=true:=by simp[bne,h0]
  have hne:je≠0:=fun h=>by rw[h] at h0;cases h0
  have HR:=hI (RBestR.bad (j:=j) (k:=je) (by rw[bestErr_job (by rw[Hje.o];exact hne),Hje.o]) hne (HU0.o _ Hb1.o));clear hne;go_wp2;refine bodyPost_ret (v:= .tuple #[.slice none 0 0,.int .i64 0,.int .i64 je]) (by simp[results,Tryz.results56,go_sem]) rfl ?_;exact HR.o
 have hj00:jobErr j.p=0:=by rw[Hje.o];exact eq_of_beq h0
 have Hj0:=hI hj00;have h64:n<=64:=by have:=(good_of hj00).nt;rw[j.nt,Hn.o] at this;exact this
 have h0':(je != 0)=false:=by simp[bne,h0]
 clear hj00
 by_cases h7:7<n
 ·have hd:decide ((n:Int)>7)=true:=decide_eq_true (by omega);have HR:=hI (RBestR.bad (j:=j) (k:=3) (bestErr_many Hj0.o (by rw[j.nt,Hn.o];exact h7)) (by decide) (HU0.o _ Hb1.o));go_wp2;refine bodyPost_ret (v:= .tuple #[.slice none 0 0,.int .i64 0,.int .i64 3]) (by simp[results,Tryz.results56,go_sem]) rfl ?_;exact HR.o
 have hd:decide ((n:Int)>7)=false:=decide_eq_false (by omega);have HT:=hI (refTries_any j B Hj0.o n [] ⟨by rw[j.nt,Hn.o];simp,fun x hx=>(by cases hx),List.nodup_nil⟩ none none 0 [] 0 none 0 0 w1 (HJ.o w1 Hb1.o) (by omega) ⟨rfl,by decide,Nat.le_refl _,by decide,fun h9=>absurd h9 (by decide)⟩ ⟨Nat.le_refl _,by decide,by decide,⟨0,World.ownsRow_nil _ _ _ _⟩,fun p hp=>(by cases hp)⟩);obtain⟨GV,hGV⟩:∃x,bestGo j.p n [] none=x:=⟨_,rfl⟩
 rw[hGV,Hjv.o,show fdV none none 0 [] 0= .agg #[.bool false,.slice none 0 0,.int .i64 0] from rfl] at HT;have HGV:=hI (show bestGo j.p j.p.tasks.length [] none=GV by rw[j.nt,Hn.o,hGV]);clear hGV;go_upto_region 7 with(go_at_call 128;refine HT.o.mono ?_;rintro e w4 ⟨⟨A,c,l,m,rfl,hfd⟩,hb4⟩;have hs4:=hb4.size;have Hfd:=hI hfd;have Hb4:=hI (Hb1.o.trans (hb4.mono hs1));clear hfd hb4;obtain⟨ln,hln⟩:∃x,l.length=x:=⟨_,rfl⟩;have Hln:=hI hln;unfold fdV;rw[hln];clear hln)
 clear q0 q1 HT;obtain⟨w5,hw5⟩:∃w5,w5=w4.alloc (.cells #[.bool GV.isSome,.slice A ln c,.int .i64 m] 175):=⟨_,rfl⟩
 have hx5:w5.heap[w4.heap.size]? =some (.cells #[.bool GV.isSome,.slice A ln c,.int .i64 m] 175 (0,0)):=by rw[hw5];exact heap_alloc_new _ _
 have HF5:=hI (show FdIn w5 GV A c l m by rw[hw5];exact Hfd.o.below ((Below.refl _ _).alloc (Nat.le_refl _) _))
 have HB5:=hI (show Bl w w5 by
  have h9:=HU0.o _ Hb4.o;rw[hw5];exact h9.alloc h9.size _)
 have hs5:w5.heap.size=w4.heap.size+1:=by rw[hw5];simp
 have hlt5:w4.heap.size<w5.heap.size:=by omega
 clear hs5;rw[<- hw5];clear hw5;cases GV with
 | none=>
  have HR:=hI (RBestR.bad (j:=j) (k:=9) (bestErr_none Hj0.o (by rw[j.nt,Hn.o];exact h7) HGV.o) (by decide) HB5.o);have u0:=W7.bc (j:=0) hx5 rfl;have u1:=W7.bc (j:=1) hx5 rfl;have u2:=W7.bc (j:=2) hx5 rfl;clear hx5;go_wp2;refine bodyPost_ret (v:= .tuple #[.slice none 0 0,.int .i64 0,.int .i64 9]) (by simp[results,Tryz.results56,go_sem]) rfl ?_;exact HR.o
 | some p=>
  have hp:p=(l,m):=HF5.o.ok p rfl;subst hp
  have HR:=hI (show ∀X:World,Bl w5 X->RBestR j w (.returned (.tuple #[.slice A ln c,.int .i64 m,.int .i64 0])) X from fun X hX=>by
   obtain⟨e1,e2,e3⟩:=bestErr_some Hj0.o (by rw[j.nt,Hn.o];exact h7) HGV.o;have h9:=HF5.o.below hX;refine⟨⟨A,c,by rw[e1,e2,e3,Hln.o],by rw[e2];exact h9.sl,by rw[e2];exact h9.le,h9.cap,by rw[e2];exact h9.small⟩,HB5.o.trans (hX.mono HB5.o.size)⟩)
  have u0:=W7.bc (j:=0) hx5 rfl;have u1:=W7.bc (j:=1) hx5 rfl;have u2:=W7.bc (j:=2) hx5 rfl;go_upto_region 9 with fail;have z0:=later_cell u0 hlt5;have z1:=later_cell u1 hlt5;have z2:=later_cell u2 hlt5;clear u0 u1 u2 hx5;refine wp_region_later (by kernel_rfl) (by kernel_rfl) ?_
  repeat (any_goals (first | go_big_quiet_step ((fail)) | quiet_step ((fail))))
  refine wpQuiet_nil ?_;rintro w' ⟨e,rfl⟩;have HR2:=hI (HR.o e.w e.b);go_wp2;refine bodyPost_ret (v:= .tuple #[.slice A ln c,.int .i64 m,.int .i64 0]) (by simp[results,Tryz.results56,go_sem]) rfl ?_;exact HR2.o
theorem LawBest_any (j:Job) (B:Nat) (w:World) (hj:JIn w B j) (hB:B<=w.heap.size) :
  Calls Tryz.prog 13 #[jobV j] w fun e w'=>e= .returned (.bool true)/\Bl w w':=by
 obtain⟨m,hm⟩:∃m,j.tasks.length=m:=⟨_,rfl⟩
 obtain⟨r,hr⟩:∃r,j.res.length=r:=⟨_,rfl⟩
 have hjv:jobV j= .agg #[.slice j.TA m j.tc,.slice j.RA r j.rc]:=by unfold jobV;rw[hm,hr]
 obtain⟨W0,HW0,hs0,HB0,HX00,HU0⟩:=boxes1 w (.cells #[.slice j.TA m j.tc,.slice j.RA r j.rc] 25);have HJ:=hI (show ∀X:World,Bl W0 X->JIn X B j from fun X hX=>hj.below ((HU0.o X hX).mono hB));have HM:=hI (heavy_any j 5 B W0 (HJ.o W0 (Below.refl _ _)) (by omega));have HDg:=hI digs_any;have Hjv:=hI hjv;have Hm:=hI hm;have Hr:=hI hr;have q0:=W7.bc (j:=0) (HX00.o W0 (Below.refl _ _)) rfl;have q1:=W7.bc (j:=1) (HX00.o W0 (Below.refl _ _)) rfl;rw[hjv,hm,hr] at HM;rw[hjv];clear hj hjv hm hr;go_enter Tryz.func13,Tryz.ntmps13;go_upto_region 1 with fail;rw[<- HW0.o];go_wp2_with (go_at_call 15;fail);refine HM.o.mono ?_;rintro e w1 ⟨⟨b,rfl,hbb⟩,hb1⟩;have hs1:=hb1.size;have Hb1:=hI hb1;clear hb1 q0 q1 HM;cases b;rotate_left
 ·clear hbb;go_wp2_with (go_at_call 16;refine(HDg.o _).mono ?_;rintro e w2 ⟨rfl,hb2⟩;have Hb2:=hI (Hb1.o.trans (hb2.mono hs1));clear hb2);go_ret;exact⟨rfl,HU0.o _ Hb2.o⟩
 have Hbb:=hI (hbb rfl);clear hbb;have HS:=hI (show Slim j from⟨by have:=Hbb.o.1;have:=Hm.o;omega,by have:=Hbb.o.2.1;have:=Hr.o;omega⟩);have HV1:=hI (Best_any j B w1 (HJ.o w1 Hb1.o) (by omega) HS.o);obtain⟨V,hV⟩:∃x,bestSt j.p=x:=⟨_,rfl⟩
 obtain⟨E,hE⟩:∃x,bestErr j.p=x:=⟨_,rfl⟩
 obtain⟨M,hM⟩:∃x,bestN j.p=x:=⟨_,rfl⟩
 have HVe:=hI hV;have HEe:=hI hE;have HMe:=hI hM;rw[Hjv.o] at HV1;clear hV hE hM;have q0:=W7.bc (j:=0) (HX00.o w1 Hb1.o) rfl;have q1:=W7.bc (j:=1) (HX00.o w1 Hb1.o) rfl;go_upto_region 4 with(go_at_call 55;refine HV1.o.mono ?_;rintro e w2 ⟨⟨av,rfl,hoa⟩,hb2⟩;have hs2:=hb2.size;rw[HVe.o] at hoa;have Hoa:=hI hoa;have Hb2:=hI (Hb1.o.trans (hb2.mono hs1));clear hb2 hoa;go_loud (rw[HEe.o,HMe.o]))
 clear q0 q1 HV1;have HV2:=hI (refBest_any j B w2 (HJ.o w2 Hb2.o) (by omega));rw[Hjv.o] at HV2;have q0:=W7.bc (j:=0) (HX00.o w2 Hb2.o) rfl;have q1:=W7.bc (j:=1) (HX00.o w2 Hb2.o) rfl;go_upto_region 5 with(go_at_call 56;refine HV2.o.mono ?_;rintro e w3 ⟨⟨GA,gc,rfl,hsb,hgc1,hgc2,hgl⟩,hb3⟩;have hs3:=hb3.size;rw[HVe.o] at hsb hgc1 hgl;have Hsb:=hI hsb;have Hoa3:=hI (own_below Hoa.o hb3);have Hb3:=hI (Hb2.o.trans (hb3.mono (by omega)));clear hb3 hsb;go_loud (rw[HEe.o,HMe.o,HVe.o]))
 clear q0 q1 HV2;obtain⟨FA,fc,rfl,hfc1,hfc2⟩:=own_cap' Hoa3.o;have HE9:=hI (lawInts_any V FA GA V.length fc gc w3.heap.size w3 rfl (sl_own2 (k:=1) (fun _=>rfl) (base:=w1.heap.size) (e:=3) (c:=fc) (by rw[flat_int];exact Hoa3.o)) Hsb.o (Nat.le_refl _) (by omega));obtain⟨fn,hfn⟩:∃x,V.length=x:=⟨_,rfl⟩
 rw[hfn] at HE9 hfc1 hgc1;rw[hfn];clear Hoa Hoa3 Hsb hfn hgl;have e5:(E==E)=true:=by simp
 have e6:(M==M)=true:=by simp
 go_wp2_with (first | (go_at_call 19;refine HE9.o.mono ?_;rintro e w7 ⟨rfl,hb7⟩;have hs7:=hb7.size;have Hb7:=hI (Hb3.o.trans (hb7.mono (by omega)));clear hb7) | (go_at_call 16;refine(HDg.o _).mono ?_;rintro e wC ⟨rfl,hbC⟩;have HbC:=hI (Hb7.o.trans (hbC.mono (by have:=Hb7.o.size;omega)));clear hbC));go_ret;exact⟨rfl,HU0.o _ HbC.o⟩
end Go.Proofs.YtjpgnfekbojcaaaGreat
