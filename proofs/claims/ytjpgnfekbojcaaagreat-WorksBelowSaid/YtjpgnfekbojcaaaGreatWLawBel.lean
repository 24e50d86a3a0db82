/- WorksBelow's law returns true for every input that can be read. -/
import Derived.Test.YtjpgnfekbojcaaaGreatWBel1
import Derived.Test.YtjpgnfekbojcaaaGreatWDig3
set_option maxHeartbeats 16000000
set_option maxRecDepth 100000
namespace Go.Proofs.YtjpgnfekbojcaaaGreat
open Go.RowKit W7 W8
attribute [local go_sem] Oper.semAt_some
theorem flo_len {j:JobP}:(floorV j).chain.length<=1000:=by
 by_cases h:jobErr j=0
 ·by_cases h2:j.tasks.length=0
  ·rw[floorV_no h h2];simp
  ·rw[floorV_ok h h2];rcases fl_shape (j:=j) j.res.length with h3 | h3
   ·rw[h3];have h4:=chainGo_len (j:=j) (j.tasks.length+1) (-1) (longV j);have h5:=(good_of h).nt
    show(chainV j (longV j)).length<=1000
    unfold chainV;omega
   ·rw[h3.2];simp
 ·rw[floorV_err h];simp
theorem lnErr_zero {j:JobP} {st:List Int} (h:lnErr j st=0):keepsV j st=true/\lnV j st=lenOf j st:=by
 refine⟨?_,by unfold lnV;rw[if_pos h]⟩;unfold lnErr at h
 by_cases h1:kpErr j st=0
 ·rw[if_neg (by simpa using h1)] at h;cases h2:keepsV j st
  ·rw[h2] at h;cases h
  ·rfl
 ·rw[if_pos h1] at h;exact absurd h h1
theorem lnErr_of {j:JobP} {st:List Int} (h1:kpErr j st=0) (h2:keepsV j st=true):lnErr j st=0/\lnV j st=lenOf j st:=by
 have h:lnErr j st=0:=by unfold lnErr;rw[if_neg (by simpa using h1),if_pos h2]
 exact⟨h,(lnErr_zero h).2⟩
theorem LawBelow_any (j:Job) (st od l:List Int) (fm fr:Int) (SA OA A:Option Addr) (n c m9 oc k9 kc B:Nat) (w:World) (hj:JIn w B j) (hn:n=st.length) (hA:Sl w B 1 encInt1 SA st) (hnc:n<=c) (hc:c<=9223372036854775807) (hm9:m9=od.length) (hO:Sl w B 1 encInt1 OA od) (hmc:m9<=oc) (hoc:oc<=9223372036854775807)
  (hk9:k9=l.length) (hL:Sl w B 1 encInt1 A l) (hkc:k9<=kc) (hkc2:kc<=9223372036854775807) (hB:B<=w.heap.size) (hfm:fm<=9223372036854775807) :
  Calls Tryz.prog 14 #[jobV j,.slice SA n c,.slice OA m9 oc,.agg #[.int .i64 fm,.slice A k9 kc,.int .i64 fr]] w fun e w'=>e= .returned (.bool true)/\Bl w w':=by
 obtain⟨m,hm⟩:∃m,j.tasks.length=m:=⟨_,rfl⟩
 obtain⟨r,hr⟩:∃r,j.res.length=r:=⟨_,rfl⟩
 have hjv:jobV j= .agg #[.slice j.TA m j.tc,.slice j.RA r j.rc]:=by unfold jobV;rw[hm,hr]
 obtain⟨W0,HW0,hs0,HB0,HX00,HX01,HU0⟩:=boxes2 w (.cells #[.slice j.TA m j.tc,.slice j.RA r j.rc] 25) (.cells #[.int .i64 fm,.slice A k9 kc,.int .i64 fr] 92);have HJ:=hI (show ∀X:World,Bl W0 X->JIn X B j/\Sl X B 1 encInt1 SA st/\Sl X B 1 encInt1 OA od/\Sl X B 1 encInt1 A l from fun X hX=>⟨hj.below ((HU0.o X hX).mono hB),hA.below ((HU0.o X hX).mono hB),hO.below ((HU0.o X hX).mono hB),hL.below ((HU0.o X hX).mono hB)⟩);have HM:=hI (heavy_any j 5 B W0 (HJ.o W0 (Below.refl _ _)).1 (by omega));have Hn:=hI hn;have Hm9:=hI hm9;have Hk9:=hI hk9;have HDg:=hI digs_any;have Hjv:=hI hjv;have Hm:=hI hm;have Hr:=hI hr;have q0:=W7.bc (j:=0) (HX00.o W0 (Below.refl _ _)) rfl;have q1:=W7.bc (j:=1) (HX00.o W0 (Below.refl _ _)) rfl;rw[hjv,hm,hr] at HM;rw[hjv];clear hj hn hA hO hL hm9 hk9 hjv hm hr;go_enter Tryz.func14,Tryz.ntmps14;go_upto_region 1 with fail;rw[<- HW0.o];go_wp2_with (go_at_call 15;fail);refine HM.o.mono ?_
 rintro e w1 ⟨⟨b,rfl,hbb⟩,hb1⟩;have hs1:=hb1.size;have Hb1:=hI hb1;clear hb1 q0 q1 HM;have g0:=W7.bc (j:=0) (HX01.o w1 Hb1.o) rfl;have g1:=W7.bc (j:=1) (HX01.o w1 Hb1.o) rfl;have g2:=W7.bc (j:=2) (HX01.o w1 Hb1.o) rfl;cases b;rotate_left
 ·clear hbb;go_wp2_with (go_at_call 16;refine(HDg.o _).mono ?_;rintro e w2 ⟨rfl,hb2⟩;have Hb2:=hI (Hb1.o.trans (hb2.mono hs1));clear hb2);go_ret;exact⟨rfl,HU0.o _ Hb2.o⟩
 have Hbb:=hI (hbb rfl);clear hbb;cases h100:decide ((n:Int)>100);rotate_left
 ·go_wp2_with (go_at_call 16;refine(HDg.o _).mono ?_;rintro e w2 ⟨rfl,hb2⟩;have Hb2:=hI (Hb1.o.trans (hb2.mono hs1));clear hb2);go_ret;exact⟨rfl,HU0.o _ Hb2.o⟩
 cases h101:decide ((m9:Int)>100);rotate_left
 ·go_wp2_with (go_at_call 16;refine(HDg.o _).mono ?_;rintro e w2 ⟨rfl,hb2⟩;have Hb2:=hI (Hb1.o.trans (hb2.mono hs1));clear hb2);go_ret;exact⟨rfl,HU0.o _ Hb2.o⟩
 cases h102:decide ((k9:Int)>100);rotate_left
 ·go_wp2_with (go_at_call 16;refine(HDg.o _).mono ?_;rintro e w2 ⟨rfl,hb2⟩;have Hb2:=hI (Hb1.o.trans (hb2.mono hs1));clear hb2);go_ret;exact⟨rfl,HU0.o _ Hb2.o⟩
 have hn100:n<=100:=by have:=of_decide_eq_false h100;omega
 have hm100:m9<=100:=by have:=of_decide_eq_false h101;omega
 have hk100:k9<=100:=by have:=of_decide_eq_false h102;omega
 have HS:=hI (show Slim j from⟨by have:=Hbb.o.1;have:=Hm.o;omega,by have:=Hbb.o.2.1;have:=Hr.o;omega⟩);have HSs:=hI (show ∀X:World,Bl W0 X->StIn X B SA n c st from fun X hX=>⟨Hn.o,by omega,hnc,hc,(HJ.o X hX).2.1⟩);have HSo:=hI (show ∀X:World,Bl W0 X->StIn X B OA m9 oc od from fun X hX=>⟨Hm9.o,by omega,hmc,hoc,(HJ.o X hX).2.2.1⟩);have HSf:=hI (show ∀X:World,Bl W0 X->StIn X B A k9 kc l from fun X hX=>⟨Hk9.o,by omega,hkc,hkc2,(HJ.o X hX).2.2.2⟩);have HV1:=hI (Least_any j B w1 (HJ.o w1 Hb1.o).1 (by omega) HS.o);have HLn:=hI (flo_len (j:=j.p));obtain⟨F,hF⟩:∃x,floorV j.p=x:=⟨_,rfl⟩
 obtain⟨E,hE⟩:∃x,jobErr j.p=x:=⟨_,rfl⟩
 rw[hF] at HLn;have HFe:=hI hF;have HEe:=hI hE;rw[Hjv.o] at HV1;clear hF hE;obtain⟨Fm,FC,Fr⟩:=F;dsimp only at HLn;have q0:=W7.bc (j:=0) (HX00.o w1 Hb1.o) rfl;have q1:=W7.bc (j:=1) (HX00.o w1 Hb1.o) rfl;go_upto_region 3 with fail;clear g0 g1 g2;go_wp2_with (go_at_call 51;fail);refine HV1.o.mono ?_;rintro e w2 ⟨⟨av,rfl,hoa⟩,hb2⟩;have hs2:=hb2.size;rw[HFe.o] at hoa ⊢;dsimp only at hoa;unfold flC;rw[HEe.o];have Hoa:=hI hoa;have Hb2:=hI (Hb1.o.trans (hb2.mono hs1));clear hb2 hoa q0 q1 HV1;obtain⟨FA,fc,rfl,hfc1,hfc2⟩:=own_cap' Hoa.o;obtain⟨fn,hfn⟩:∃x,FC.length=x:=⟨_,rfl⟩
 have Hoa2:=Hoa;rw[hfn] at HLn hfc1 Hoa2;rw[hfn];have Hfn:=hI hfn;clear Hoa hfn;obtain⟨W3,hW3⟩:∃W3,W3=w2.alloc (.cells #[.int .i64 Fm,.slice FA fn fc,.int .i64 Fr] 92):=⟨_,rfl⟩
 have hs3:W3.heap.size=w2.heap.size+1:=by rw[hW3];simp
 have HG3:=hI (show W3.heap[w2.heap.size]? =some (.cells #[.int .i64 Fm,.slice FA fn fc,.int .i64 Fr] 92 (0,0)) by rw[hW3];exact heap_alloc_new _ _);have HB3:=hI (show Bl W0 W3 by rw[hW3];exact Hb2.o.alloc (by omega) _);have Hoa3:=hI (show W3.ownsRow w1.heap.size 3 1 (.slice FA fn fc) fn (FC.map (Value.int .i64)) by rw[hW3];exact Hoa2.o.alloc _);go_upto_region 4 with fail;rw[<- hW3];clear hW3 Hoa2;cases hE0:(E==0)
 ·have hE0':(E != 0)=true:=by simp[bne,hE0]
  have hz:=floorV_err (j:=j.p) (fun h=>by rw[HEe.o] at h;rw[h] at hE0;cases hE0);rw[HFe.o] at hz
  injection hz with z1 z2 z3
  have hfz:fn=0:=by rw[<- Hfn.o,z2];rfl
  subst z1 hfz;clear z2 z3;have h5:=HG3.o;have k0:=W7.bc (j:=0) h5 rfl;have k1:=W7.bc (j:=1) h5 rfl;have k2:=W7.bc (j:=2) h5 rfl;clear h5;go_wp2_with (go_at_call 16;refine(HDg.o _).mono ?_;rintro e w4 ⟨rfl,hb4⟩;have Hb4:=hI (HB3.o.trans (hb4.mono (by omega)));clear hb4);go_ret;exact⟨rfl,HU0.o _ Hb4.o⟩
 have hE0':(E != 0)=false:=by simp[bne,hE0]
 obtain rfl:=eq_of_beq hE0;have HG:=hI (good_of HEe.o)
 have HPr:=hI (show prvV j.p Fm FC Fr=true by
  have h:=floor_proved HEe.o;rw[HFe.o] at h;unfold prvV;rw[HEe.o,h]
  rfl)
 have HTop:=hI (show ∀r c,provesB j.p fm c r=true->Fm<fm->100000<fm/\100000<Fm from fun r c h1 h2=>by
  have h:=floor_top HEe.o h1;rw[HFe.o] at h;exact h h2)
 have HLow:=hI (show ∀s,keepsV j.p s=true->Fm<=lenOf j.p s from fun s hs=>by
  have h:=floor_proved HEe.o;rw[HFe.o] at h;exact proves_low HG.o h ((keepsV_iff HG.o).1 hs))
 have HFb:=hI (show 0<=Fm/\Fm<=100001 by have h:=floor_nn HEe.o;rw[HFe.o] at h;exact h);have HSl3:=hI (show Sl W3 W3.heap.size 1 encInt1 FA FC from sl_own2 (k:=1) (fun _=>rfl) (base:=w1.heap.size) (e:=3) (c:=fc) (by rw[flat_int,Hfn.o];exact Hoa3.o));have HP1:=hI (Proves_any j Fm Fr FC FA fn fc W3.heap.size W3 ((HJ.o W3 HB3.o).1.mono (by omega)) (Nat.le_refl _) HS.o ⟨Hfn.o.symm,HLn.o,hfc1,hfc2,HSl3.o⟩ (by have:=HFb.o;omega));rw[HPr.o,HEe.o,Hjv.o] at HP1;have h5:=HG3.o;have k0:=W7.bc (j:=0) h5 rfl;have k1:=W7.bc (j:=1) h5 rfl;have k2:=W7.bc (j:=2) h5 rfl;clear h5;have q0:=W7.bc (j:=0) (HX00.o W3 HB3.o) rfl;have q1:=W7.bc (j:=1) (HX00.o W3 HB3.o) rfl;go_upto_region 7 with(go_at_call 53;go_loud (refine HP1.o.mono ?_);rintro e w4 ⟨rfl,hb4⟩;have hs4:=hb4.size;have Hb4:=hI (HB3.o.trans (hb4.mono (by omega)));have HG4:=hI ((hb4.block _ (by omega)).trans HG3.o);clear hb4)
 clear q0 q1 k0 k1 k2 HP1;have HP2:=hI (Proves_any j fm fr l A k9 kc B w4 (HJ.o w4 Hb4.o).1 (by omega) HS.o (HSf.o w4 Hb4.o) hfm);obtain⟨pv,hpv⟩:∃x,prvV j.p fm l fr=x:=⟨_,rfl⟩
 have Hpv:=hI hpv;rw[hpv,HEe.o,Hjv.o] at HP2;clear hpv;have q0:=W7.bc (j:=0) (HX00.o w4 Hb4.o) rfl;have q1:=W7.bc (j:=1) (HX00.o w4 Hb4.o) rfl;have g0:=W7.bc (j:=0) (HX01.o w4 Hb4.o) rfl;have g1:=W7.bc (j:=1) (HX01.o w4 Hb4.o) rfl;have g2:=W7.bc (j:=2) (HX01.o w4 Hb4.o) rfl;go_upto_region 8 with(go_at_call 53;go_loud (refine HP2.o.mono ?_);rintro e w5 ⟨rfl,hb5⟩;have hs5:=hb5.size;have Hb5:=hI (Hb4.o.trans (hb5.mono (by omega)));have HG5:=hI ((hb5.block _ (by omega)).trans HG4.o);clear hb5)
 clear q0 q1 g0 g1 g2 HP2;have h5:=HG5.o;have k0:=W7.bc (j:=0) h5 rfl;clear h5;have g0:=W7.bc (j:=0) (HX01.o w5 Hb5.o) rfl
 by_cases htop:pv=true/\Fm<fm
 ·obtain⟨hp1,hp2⟩:=htop;subst hp1;have hpb:=Hpv.o;unfold prvV at hpb;rw[Bool.and_eq_true] at hpb;obtain⟨t1,t2⟩:=HTop.o _ _ hpb.2 hp2;have d1:decide (fm>Fm)=true:=decide_eq_true hp2;have d2:decide (fm>100000)=true:=decide_eq_true t1;have d3:decide (Fm>100000)=true:=decide_eq_true t2;clear hpb t1 t2 hp2;go_wp2_with (go_at_call 16;refine(HDg.o _).mono ?_;rintro e wC ⟨rfl,hbC⟩;have HbC:=hI (Hb5.o.trans (hbC.mono (by omega)));clear hbC);go_ret;exact⟨rfl,HU0.o _ HbC.o⟩
 go_upto_region 11 with fail
 go_cut [93] (fun v93 wx=>v93= .bool false/\wx=w5)
 case first=>
  cases pv
  ·go_wp2;go_meet;exact⟨rfl,rfl⟩
  ·have hd:decide (fm>Fm)=false:=decide_eq_false (fun h2=>htop ⟨rfl,h2⟩);go_wp2;go_meet;exact⟨rfl,rfl⟩
 case' rest=>skip
 obtain⟨rfl,hwc5⟩:=hcut;have hwc5':=hwc5.symm;subst hwc5';have HL1:=hI (Length_any j st SA n c B w5 (HJ.o w5 Hb5.o).1 (by omega) HS.o (HSs.o w5 Hb5.o));obtain⟨ln,hln⟩:∃x,lnV j.p st=x:=⟨_,rfl⟩
 obtain⟨le,hle⟩:∃x,lnErr j.p st=x:=⟨_,rfl⟩
 rw[hln,hle,Hjv.o] at HL1
 have HLk:=hI (show le=0->keepsV j.p st=true/\ln=lenOf j.p st from fun h=>by
  rw[<- hle] at h;have:=lnErr_zero h;rw[hln] at this;exact this)
 have HLz:=hI (show le≠0->ln=0 from fun h=>by rw[<- hln];unfold lnV;rw[if_neg (by rw[hle];exact h)]);clear hln hle;have q0:=W7.bc (j:=0) (HX00.o w5 Hb5.o) rfl;have q1:=W7.bc (j:=1) (HX00.o w5 Hb5.o) rfl
 have HSer:=hI (show serErr j.p od=0->(serV j.p od).length=m/\lnV j.p (serV j.p od)=lenOf j.p (serV j.p od)/\lnErr j.p (serV j.p od)=0/\Fm<=lenOf j.p (serV j.p od)/\bestErr j.p≠9/\(bestErr j.p=0->bestN j.p<=lenOf j.p (serV j.p od)) from fun h=>by
  have h1:=serial_keeps h;have h2:=(keepsV_iff HG.o).2 h1.2.1;have h3:kpErr j.p (serV j.p od)=0:=by unfold kpErr;rw[HEe.o,h1.1];simp
  obtain⟨h4,h5⟩:=lnErr_of h3 h2;exact⟨by rw[h1.1,j.nt,Hm.o],h5,h4,HLow.o _ h2,best_some h,fun hb=>(best_goes hb).ser od h⟩)
 have hnt64:m<=64:=by have:=HG.o.nt;rw[j.nt,Hm.o] at this;exact this
 have HBs:=hI (fun h=>best_goes (j:=j.p) h);have HBz:=hI (show bestErr j.p≠0->bestN j.p=0 from fun h=>by unfold bestN;rw[if_neg h]);obtain⟨be,hbe⟩:∃x,bestErr j.p=x:=⟨_,rfl⟩
 obtain⟨bn,hbn⟩:∃x,bestN j.p=x:=⟨_,rfl⟩
 obtain⟨Bs,hBs⟩:∃x,bestSt j.p=x:=⟨_,rfl⟩
 have Hbe:=hI hbe;have Hbn:=hI hbn;have HBe:=hI hBs;rw[hbe,hbn] at HSer;clear hbe hbn hBs;go_upto_region 14 with(go_at_call 39;go_loud (refine HL1.o.mono ?_);rintro e w6 ⟨rfl,hb6⟩;have hs6:=hb6.size;have Hb6:=hI (Hb5.o.trans (hb6.mono (by omega)));clear hb6)
 clear q0 q1 HL1
 go_cut [116] (fun v116 wx=>v116= .bool false/\wx=w6)
 case first=>
  cases hl0:(le==0)
  ·go_wp2;go_meet;exact⟨rfl,rfl⟩
  ·have Hlk:=hI (HLk.o (eq_of_beq hl0));have hd1:decide (ln<Fm)=false:=decide_eq_false (by have h1:=HLow.o st Hlk.o.1;have h2:=Hlk.o.2;omega);go_wp2;go_meet;exact⟨rfl,rfl⟩
 case' rest=>skip
 obtain⟨rfl,hwc6⟩:=hcut;have hwc6':=hwc6.symm;subst hwc6';have HB1:=hI (Best_any j B w6 (HJ.o w6 Hb6.o).1 (by omega) HS.o);rw[Hjv.o] at HB1;have q0:=W7.bc (j:=0) (HX00.o w6 Hb6.o) rfl;have q1:=W7.bc (j:=1) (HX00.o w6 Hb6.o) rfl
 go_upto_if 124 with(go_at_call 55;go_loud (refine HB1.o.mono ?_);rintro e w7 ⟨⟨bv,rfl,hob⟩,hb7⟩;have hs7:=hb7.size;rw[HBe.o] at hob;have Hob:=hI hob;have Hb7:=hI (Hb6.o.trans (hb7.mono (by omega)));clear hb7 hob;go_loud (rw[Hbe.o,Hbn.o]))
 clear q0 q1 HB1;obtain⟨BA,bc,rfl,hbc1,hbc2⟩:=own_cap' Hob.o;obtain⟨bl,hbl⟩:∃x,Bs.length=x:=⟨_,rfl⟩
 have Hbl:=hI hbl;have HoB:=Hob;rw[hbl] at HoB hbc1;rw[hbl];clear hbl Hob
 go_cut [18] (fun v18 wx=>v18= .int .i64 bn/\Hid (Bl W0 wx))
 case first=>
  cases hb0:(be==0)
  ·go_wp2;go_meet;exact⟨rfl,Hb7⟩
  have hbe0:=eq_of_beq hb0;have HBg:=hI (HBs.o (Hbe.o.trans hbe0));have HBl:=hI (lnErr_of HBg.o.kp HBg.o.ks);have HBm:=hI (HLow.o _ HBg.o.ks);have HBi:=hI HBg.o.low;rw[HBg.o.len,HBe.o,Hbn.o] at HBl;rw[HBg.o.len,Hbn.o] at HBm;rw[Hbn.o] at HBi;have HBk:=hI (show Bs.length=m by have h1:=HBg.o.kp;unfold kpErr at h1;rw[HEe.o,HBe.o] at h1;simp at h1;rw[h1,j.nt,Hm.o]);have hbl64:bl<=64:=by have h1:=HBk.o;have h2:=Hbl.o;omega
  clear HBs hbe0;have HSl7:=hI (show Sl w7 w7.heap.size 1 encInt1 BA Bs from sl_own2 (k:=1) (fun _=>rfl) (e:=3) (c:=bc) (by rw[flat_int,Hbl.o];exact HoB.o));have HL2:=hI (Length_any j Bs BA bl bc w7.heap.size w7 ((HJ.o w7 Hb7.o).1.mono (by omega)) (Nat.le_refl _) HS.o ⟨Hbl.o.symm,by omega,hbc1,hbc2,HSl7.o⟩);rw[HBl.o.1,HBl.o.2,Hjv.o] at HL2;have e1:(bn != bn)=false:=by simp
  have e2:decide (bn<Fm)=false:=decide_eq_false (by have:=HBm.o;omega)
  have HLz2:=hI (show 0<ln->decide (ln<bn)=false from fun h=>by
   have h0:le=0:=Classical.byContradiction fun h1=>by have:=HLz.o h1;omega
   have h1:=HLk.o h0;exact decide_eq_false (by have h2:=HBi.o st h1.1;have h3:=h1.2;omega))
  have q0:=W7.bc (j:=0) (HX00.o w7 Hb7.o) rfl;have q1:=W7.bc (j:=1) (HX00.o w7 Hb7.o) rfl;go_upto_region 19 with(go_at_call 39;go_loud (refine HL2.o.mono ?_);rintro e w8 ⟨rfl,hb8⟩;have hs8:=hb8.size;have Hb8:=hI (Hb7.o.trans (hb8.mono (by omega)));clear hb8)
  clear q0 q1 HL2;cases e3:decide (ln>0)
  ·go_wp2;go_meet;exact⟨rfl,Hb8⟩
  ·have e4:=HLz2.o (of_decide_eq_true e3);go_wp2;go_meet;exact⟨rfl,Hb8⟩
 case' rest=>skip
 obtain⟨rfl,Hb8⟩:=hcut;have hs8:=Hb8.o.size;have HS1:=hI (Serial_any j od OA m9 oc B wc (HJ.o wc Hb8.o).1 (by omega) HS.o (HSo.o wc Hb8.o));rw[Hjv.o] at HS1;have q0:=W7.bc (j:=0) (HX00.o wc Hb8.o) rfl;have q1:=W7.bc (j:=1) (HX00.o wc Hb8.o) rfl;obtain⟨Ts,hTs⟩:∃x,serV j.p od=x:=⟨_,rfl⟩
 obtain⟨se,hse⟩:∃x,serErr j.p od=x:=⟨_,rfl⟩
 have HTs:=hI hTs;have Hse:=hI hse;clear hTs hse;go_upto_region 22 with(go_at_call 17;go_loud (refine HS1.o.mono ?_);rintro e wS ⟨⟨tv,rfl,hot⟩,hbS⟩;have hsS:=hbS.size;rw[HTs.o] at hot;have Hot:=hI hot;have HbS:=hI (Hb8.o.trans (hbS.mono (by omega)));clear hbS hot;go_loud (rw[Hse.o]))
 clear q0 q1 HS1;obtain⟨TAv,tc9,rfl,htc1,htc2⟩:=own_cap' Hot.o;cases hs0:(se==0)
 ·go_wp2_with (go_at_call 16;refine(HDg.o _).mono ?_;rintro e wC ⟨rfl,hbC⟩;have HbC:=hI (HbS.o.trans (hbC.mono (by omega)));clear hbC);go_ret;exact⟨rfl,HU0.o _ HbC.o⟩
 obtain rfl:=eq_of_beq hs0;have HSg:=hI (HSer.o Hse.o);rw[HTs.o] at HSg;obtain⟨tn,htn⟩:∃x,Ts.length=x:=⟨_,rfl⟩
 have Htn:=hI htn;have HoT:=Hot;rw[htn] at HoT htc1;rw[htn];have htn64:tn<=64:=by have h1:=HSg.o.1;omega
 clear Hot htn;have HSl9:=hI (show Sl wS wS.heap.size 1 encInt1 TAv Ts from sl_own2 (k:=1) (fun _=>rfl) (e:=3) (c:=tc9) (by rw[flat_int,Htn.o];exact HoT.o));have HL3:=hI (Length_any j Ts TAv tn tc9 wS.heap.size wS ((HJ.o wS HbS.o).1.mono (by omega)) (Nat.le_refl _) HS.o ⟨Htn.o.symm,by omega,htc1,htc2,HSl9.o⟩);rw[HSg.o.2.1,HSg.o.2.2.1,Hjv.o] at HL3;obtain⟨kv,hkv⟩:∃x,lenOf j.p Ts=x:=⟨_,rfl⟩
 rw[hkv] at HL3 HSg;have hkl:decide (kv<Fm)=false:=decide_eq_false (by have:=HSg.o.2.2.2.1;omega);have hk9:(be==9)=false:=beq_eq_false_iff_ne.2 HSg.o.2.2.2.2.1;have HKb:=hI HSg.o.2.2.2.2.2;clear hkv;have q0:=W7.bc (j:=0) (HX00.o wS HbS.o) rfl;have q1:=W7.bc (j:=1) (HX00.o wS HbS.o) rfl;go_upto_region 24 with(go_at_call 39;go_loud (refine HL3.o.mono ?_);rintro e wL ⟨rfl,hbL⟩;have hsL:=hbL.size;have HbL:=hI (HbS.o.trans (hbL.mono (by omega)));clear hbL)
 clear q0 q1 HL3;cases hb0:(be==0)
 ·go_wp2_with (go_at_call 16;refine(HDg.o _).mono ?_;rintro e wC ⟨rfl,hbC⟩;have HbC:=hI (HbL.o.trans (hbC.mono (by omega)));clear hbC);go_ret;exact⟨rfl,HU0.o _ HbC.o⟩
 ·have hkb:decide (kv<bn)=false:=decide_eq_false (by have:=HKb.o (eq_of_beq hb0);omega);go_wp2_with (go_at_call 16;refine(HDg.o _).mono ?_;rintro e wC ⟨rfl,hbC⟩;have HbC:=hI (HbL.o.trans (hbC.mono (by omega)));clear hbC);go_ret;exact⟨rfl,HU0.o _ HbC.o⟩
end Go.Proofs.YtjpgnfekbojcaaaGreat
