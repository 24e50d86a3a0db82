/- Stays: the next stay of a worker. -/
import Derived.Test.YtjpgnfekbojcaaaGreatWAir7
import Derived.WalkMore
import Derived.BigRegion
import Derived.Deep.Light
set_option maxHeartbeats 8000000
set_option maxRecDepth 100000
namespace Go.Proofs.YtjpgnfekbojcaaaGreat
open Go.RowKit W7 W8
attribute [local go_sem] Oper.semAt_some
def nextDv (who:ByteArray) (p m out at':Int):Dive:=⟨who,p,at',at'+m,at'+m+out⟩
def nextGo (t:Table) (l:List Dive) (who:ByteArray) (p m out:Int):Nat->Int->Option Int
 | 0,_=>none
 | f+1,at'=>if at'+m+out<=100000 then(if faultN t (aheadOf l l.length who) (nextDv who p m out at')=0 then some at' else nextGo t l who p m out f (at'+1)) else none
def nextFrom (l:List Dive) (ready:Int):Int:=if 0<l.length then max ready (l.getD (l.length-1) default).tin else ready
def noDive:Dive:=⟨⟨#[]⟩,0,0,0,0⟩
def nextR (t:Table) (l:List Dive) (who:ByteArray) (p m ready:Int):Int×Dive:=
 if faultsErr t l≠0 then(faultsErr t l,noDive) else if (faultsV t l).all noFault then
  (if nameB who then
   (if isTm p&&isTm m&&isTm ready&& !(m==0) then
    (match cntRow t p m with
     | none=>(7,noDive)
     | some r=>match nextGo t l who p m r.out 100001 (nextFrom l ready) with
      | none=>(9,noDive)
      | some a=>(0,nextDv who p m r.out a)) else(1,noDive)) else(5,noDive)) else(8,noDive)
def diveV (d:Dive):Value:= .agg #[.string d.who,.int .i64 d.pr,.int .i64 d.tin,.int .i64 d.leave,.int .i64 d.out]
def set5w (w:World) (b:Nat) (x0 x1 x2 x3 x4:Value):World:=((((w.setCell ⟨b,0,none⟩ x0).setCell ⟨b,1,none⟩ x1).setCell ⟨b,2,none⟩ x2).setCell ⟨b,3,none⟩ x3).setCell ⟨b,4,none⟩ x4
theorem faults_zero {t:Table} {l:List Dive} (h:faultsErr t l=0):tblErr t=0/\l.length<=128/\divesErr l=0:=by
 unfold faultsErr at h
 by_cases h1:tblErr t=0
 ·rw[if_neg (by simpa using h1)] at h
  by_cases h2:128<l.length
  ·rw[if_pos h2] at h;cases h
  ·rw[if_neg h2] at h;exact⟨h1,by omega,h⟩
 ·rw[if_pos h1] at h;exact absurd h h1
theorem flat_u8:∀xs:List Int,xs.flatMap encU8=xs.map (Value.int .u8)
 | []=>rfl
 | x::l=>by show encU8 x++l.flatMap encU8=_;rw[flat_u8 l];rfl
theorem set5_blk {w:World} {b T:Nat} {u0 u1 u2 u3 u4:Value} (h:w.heap[b]? =some (.cells #[u0,u1,u2,u3,u4] T (0,0))) (x0 x1 x2 x3 x4:Value) :
  (set5w w b x0 x1 x2 x3 x4).heap[b]? =some (.cells #[x0,x1,x2,x3,x4] T (0,0)):=by
 unfold set5w;have:=blk_set (j:=4) (blk_set (j:=3) (blk_set (j:=2) (blk_set (j:=1) (blk_set (j:=0) h x0) x1) x2) x3) x4
 simpa using this
theorem set5_cells {w:World} {b T:Nat} {u0 u1 u2 u3 u4:Value} (h:w.heap[b]? =some (.cells #[u0,u1,u2,u3,u4] T (0,0))) (x0 x1 x2 x3 x4:Value) :
  (set5w w b x0 x1 x2 x3 x4).cell? ⟨b,0,none⟩=some x0/\(set5w w b x0 x1 x2 x3 x4).cell? ⟨b,1,none⟩=some x1/\(set5w w b x0 x1 x2 x3 x4).cell? ⟨b,2,none⟩=some x2/\(set5w w b x0 x1 x2 x3 x4).cell? ⟨b,3,none⟩=some x3/\(set5w w b x0 x1 x2 x3 x4).cell? ⟨b,4,none⟩=some x4:=by
 have h1:=set5_blk h x0 x1 x2 x3 x4;exact⟨kC 0 h1 rfl,kC 1 h1 rfl,kC 2 h1 rfl,kC 3 h1 rfl,kC 4 h1 rfl⟩
theorem set5_below {w:World} {B b:Nat} {x0 x1 x2 x3 x4:Value} (h:B<=b):Below B w (set5w w b x0 x1 x2 x3 x4):=
 (((((zX B w).setCell (p:=⟨b,0,none⟩) h _).setCell (p:=⟨b,1,none⟩) h _).setCell (p:=⟨b,2,none⟩) h _).setCell (p:=⟨b,3,none⟩) h _).setCell (p:=⟨b,4,none⟩) h _
theorem ahead_all (l:List Dive) (d:Dive) (who:ByteArray):aheadOf (l++[d]) l.length who=aheadOf l l.length who:=by
 unfold aheadOf;rw[List.take_left,List.take_length]
def putDv (w:World) (b:Nat) (d:Dive):World:=((((w.setCell ⟨b,3,none⟩ (.string d.who)).setCell ⟨b,4,none⟩ (.int .i64 d.pr)).setCell ⟨b,5,none⟩ (.int .i64 d.tin)).setCell ⟨b,6,none⟩ (.int .i64 d.leave)).setCell ⟨b,7,none⟩ (.int .i64 d.out)
theorem putDv_blk {w:World} {b T:Nat} {t:Table} {dq:Dive} {v:Value} (h:w.heap[b]? =some (.cells (stayC t dq v) T (0,0))) (d:Dive):(putDv w b d).heap[b]? =some (.cells (stayC t d v) T (0,0)):=by
 unfold putDv;rw[blk_set (blk_set (blk_set (blk_set (blk_set h (.string d.who)) (.int .i64 d.pr)) (.int .i64 d.tin)) (.int .i64 d.leave)) (.int .i64 d.out)]
 rfl
theorem putDv_ne {w:World} {b g:Nat} (hne:b≠g) (d:Dive):(putDv w b d).heap[g]? =w.heap[g]? :=by
 unfold putDv;rw[blk_set_ne hne,blk_set_ne hne,blk_set_ne hne,blk_set_ne hne,blk_set_ne hne]
theorem putDv_size (w:World) (b:Nat) (d:Dive):(putDv w b d).heap.size=w.heap.size:=by simp[putDv,World.setCell]
theorem putDv_grown (w:World) (b:Nat) (d:Dive):w.grownBy (putDv w b d) (some b):=by
 unfold putDv;exact grown_trans (grown_trans (grown_trans (grown_trans (grown_set _ _ _ _) (grown_set _ _ _ _)) (grown_set _ _ _ _)) (grown_set _ _ _ _)) (grown_set _ _ _ _)
theorem putDv_own {w:World} {base e e' size n b:Nat} {v:Value} {xs:List Value} {cs:Array Value} {fz:Nat×Nat} (h:w.ownsRow base e size v n xs) (hL:w.heap[b]? =some (.cells cs e' fz)) (hne:e'≠e) (d:Dive):(putDv w b d).ownsRow base e size v n xs:=by
 refine h.kept (putDv_grown w b d) ?_;cases hv:v.ownBlock with
 | none=>exact .inl rfl
 | some k=>
  refine .inr fun hk=> ?_
  obtain rfl:=zJ hk;obtain⟨cs',hc⟩:=owns_block h k hv;rw[hL] at hc;simp only[Option.some.injEq,Obj.cells.injEq] at hc;exact hne hc.2.1
theorem own_nilz {w:World} {base e size n c:Nat} {xs:List Value} (h:w.ownsRow base e size (.slice none n c) n xs):n=0/\c=0:=by
 rcases h.2 with⟨e0,_⟩ | ⟨g,cap,cur,e0,_⟩
 ·cases e0;exact⟨rfl,rfl⟩
 ·cases e0
theorem Next_any (t:Table) (l:List Dive) (who:ByteArray) (p m ready:Int) (A:Option Addr) (n c B:Nat) (w:World) (ht:TIn w B t) (htl:t.rows.length<=1000000000) (hn:n=l.length) (hA:Sl w B 5 encDive A l) (hz:A=none->n=0/\c=0) (hB:B<=w.heap.size) (hnc:n<=c) (hc:c<=9223372036854775807) (hw:∀d∈l,d.who.size<=maxLen) (hwho:who.size<=maxLen) :
  Calls Tryz.prog 49 #[tabV t,.slice A n c,.string who,.int .i64 p,.int .i64 m,.int .i64 ready] w fun e w'=>e= .returned (.tuple #[diveV (nextR t l who p m ready).2,.int .i64 (nextR t l who p m ready).1])/\Bl w w':=by
 obtain⟨W0,HW0,hs0,HB0,HX00,HX01,HU0⟩:=boxes2 w (.cells #[.slice t.A t.rows.length t.c,.int .i64 t.rest,.int .i64 t.day] 74) (.cells #[.string ⟨#[]⟩,.int .i64 0,.int .i64 0,.int .i64 0,.int .i64 0] 84);have HT:=hI (show ∀X:World,Bl W0 X->TIn X B t/\Sl X B 5 encDive A l from fun X hX=>⟨ht.below ((HB0.o.mono hB).trans (hX.mono (by omega))),hA.below ((HB0.o.mono hB).trans (hX.mono (by omega)))⟩);have HF:=hI (Faults_any t l A n c B W0 (HT.o W0 (zX _ _)).1 htl hn (HT.o W0 (zX _ _)).2 (by omega) hnc hc hw);have Hn:=hI hn;have Hz:=hI hz;have HR:=hI (nextR.eq_1 t l who p m ready);obtain⟨fe,hfe⟩:=eY (faultsErr t l);rw[<- hfe] at HF HR;have Hfe:=hI hfe;have q0:=kC 0 (HX00.o W0 (zX _ _)) rfl;have q1:=kC 1 (HX00.o W0 (zX _ _)) rfl;have q2:=kC 2 (HX00.o W0 (zX _ _)) rfl;clear ht hn hA hz hw hfe;unfold tabV at HF;unfold tabV
 have HBad:=hI (show ∀(k:Int) (X:World),nextR t l who p m ready=(k,noDive)->Bl W0 X->Ending.returned (.tuple #[diveV noDive,.int .i64 k])= .returned (.tuple #[diveV (nextR t l who p m ready).2,.int .i64 (nextR t l who p m ready).1])/\Below w.heap.size w (set5w X (w.heap.size+1) (.string ⟨#[]⟩) (.int .i64 0) (.int .i64 0) (.int .i64 0) (.int .i64 0)) from fun k X hk hX=>by
  rw[hk];exact⟨rfl,(HU0.o X hX).trans (set5_below (by omega))⟩)
 have hmx:=max_run Tryz.prog;go_enter Tryz.func49,Tryz.ntmps49;go_wp2
 go_step3
 go_upto_region 1 with fail;rw[<- HW0.o];go_wp2_with (go_at_call 46;fail);refine HF.o.mono ?_;rintro e w1 ⟨fv,rfl,hof,hb1⟩;have hs1:=hb1.size;have Hb1:=hI hb1;have Hof:=hI hof;clear hb1 hof q0 q1 q2 HF;have hd1:=HX01.o w1 Hb1.o;have f0:=kF 0 hd1;have f1:=kF 1 hd1;have f2:=kF 2 hd1;have f3:=kF 3 hd1;have f4:=kF 4 hd1;have d0:=kC 0 hd1 rfl;have d1:=kC 1 hd1 rfl;have d2:=kC 2 hd1 rfl;have d3:=kC 3 hd1 rfl;have d4:=kC 4 hd1 rfl;have HG5:=hI (set5_cells hd1 (.string ⟨#[]⟩) (.int .i64 0) (.int .i64 0) (.int .i64 0) (.int .i64 0));have hgz:w.heap.size+1<w1.heap.size:=by omega
 clear hd1;cases h0:(fe==0)
 ·have h0':(fe != 0)=true:=by simp[bne,h0]
  have hne:fe≠0:=fun h=>by rw[h] at h0;cases h0
  have HE:=hI (HBad.o fe w1 (by rw[HR.o,if_pos hne]) Hb1.o);unfold set5w at HE HG5;clear hne;go_wp2;rw[Exit.noGoto_ret];obtain⟨g0,g1,g2,g3,g4⟩:=HG5.o;refine bodyPost_ret (v:= .tuple #[diveV noDive,.int .i64 fe]) (by simp[results,Tryz.results49,go_sem,g0,g1,g2,g3,g4,diveV,noDive]) rfl HE.o
 have h0':(fe != 0)=false:=by simp[bne,h0]
 have hf0:fe=0:=eq_of_beq h0;have HF0:=hI (show faultsErr t l=0 by rw[<- Hfe.o];exact hf0);have HRa:=hI (HR.o.trans (if_neg (by rw[hf0];decide)));obtain⟨FA,fc,rfl,hfc1,hfc2⟩:=own_cap' Hof.o;obtain⟨fn,hfn⟩:=eX ((faultsV t l).length);have HSf:=hI (show Sl w1 w1.heap.size 1 encU8 FA (faultsV t l) from sl_own2 (k:=1) (fun _=>rfl) (base:=W0.heap.size) (e:=90) (c:=fc) (by rw[flat_u8];exact Hof.o))
 have HfL:=hI (show(faultsV t l).length<=128 by
  have h1:=(faults_zero HF0.o).2.1;unfold faultsV;rw[if_pos HF0.o,List.length_map,List.length_range];omega)
 have HC:=hI (conFault_any (faultsV t l) fn hfn.symm FA fc w1.heap.size w1 HSf.o (zm _) (by have:=HfL.o;omega));rw[hfn] at hfc1
 have HL128:=hI (show n<=128 by
  rw[Hn.o];have h1:=(faults_zero HF0.o).2.1;omega)
 have hfn2:fn<=128:=by rw[<- hfn];exact HfL.o
 rw[hfn];clear hfn hf0 HSf HfL Hof;generalize (faultsV t l).all noFault=af at HC HRa;go_upto_region 4 with fail;cases af
 ·have HE:=hI (fun X hX=>HBad.o 8 X (by rw[HRa.o];rfl) hX);go_wp2_with (go_at_call 110;refine HC.o.mono ?_;rintro e w2 ⟨rfl,hb2⟩;have Hb2:=hI (Hb1.o.trans (hb2.mono hs1));clear hb2;have hd2:=HX01.o w2 Hb2.o;have HG5:=hI (set5_cells hd2 (.string ⟨#[]⟩) (.int .i64 0) (.int .i64 0) (.int .i64 0) (.int .i64 0));have f0:=kF 0 hd2;have f1:=kF 1 hd2;have f2:=kF 2 hd2;have f3:=kF 3 hd2;have f4:=kF 4 hd2;have d0:=kC 0 hd2 rfl;have d1:=kC 1 hd2 rfl;have d2:=kC 2 hd2 rfl;have d3:=kC 3 hd2 rfl;have d4:=kC 4 hd2 rfl;clear hd2);rw[Exit.noGoto_ret];have HE:=hI (HE.o _ Hb2.o);unfold set5w at HE HG5;obtain⟨g0,g1,g2,g3,g4⟩:=HG5.o;refine bodyPost_ret (v:= .tuple #[diveV noDive,.int .i64 8]) (by simp[results,Tryz.results49,go_sem,g0,g1,g2,g3,g4,diveV,noDive]) rfl HE.o
 have HRb:=hI (HRa.o.trans (if_pos rfl));go_upto_region 6 with(go_at_call 110;refine HC.o.mono ?_;rintro e w2 ⟨rfl,hb2⟩;have Hb2:=hI (Hb1.o.trans (hb2.mono hs1));have hs2:=hb2.size;clear hb2)
 clear f0 f1 f2 f3 f4 d0 d1 d2 d3 d4 HG5 HC;have hd2:=HX01.o w2 Hb2.o;have f0:=kF 0 hd2;have f1:=kF 1 hd2;have f2:=kF 2 hd2;have f3:=kF 3 hd2;have f4:=kF 4 hd2;have d0:=kC 0 hd2 rfl;have d1:=kC 1 hd2 rfl;have d2:=kC 2 hd2 rfl;have d3:=kC 3 hd2 rfl;have d4:=kC 4 hd2 rfl;have HG5:=hI (set5_cells hd2 (.string ⟨#[]⟩) (.int .i64 0) (.int .i64 0) (.int .i64 0) (.int .i64 0));have ht2:=HX00.o w2 Hb2.o;have q0:=kC 0 ht2 rfl;have q1:=kC 1 ht2 rfl;have q2:=kC 2 ht2 rfl;clear hd2 ht2;cases hN:nameB who
 ·have HE:=hI (fun X hX=>HBad.o 5 X (by rw[HRb.o,hN];rfl) hX);go_wp2_with (go_at_call 106;refine(isName_any who hwho _).mono ?_;rintro e w' ⟨rfl,rfl⟩);rw[Exit.noGoto_ret];have HE:=hI (HE.o _ Hb2.o);unfold set5w at HE HG5;obtain⟨g0,g1,g2,g3,g4⟩:=HG5.o;refine bodyPost_ret (v:= .tuple #[diveV noDive,.int .i64 5]) (by simp[results,Tryz.results49,go_sem,g0,g1,g2,g3,g4,diveV,noDive]) rfl HE.o
 cases h1:isTm p
 ·have HE:=hI (fun X hX=>HBad.o 1 X (by rw[HRb.o,hN,h1];rfl) hX);go_wp2_with (first | (go_at_call 106;refine(isName_any who hwho _).mono ?_;rintro e w' ⟨rfl,rfl⟩) | (go_at_call 70;refine(isTime_any _ _).mono ?_;rintro e w' ⟨rfl,rfl⟩));rw[Exit.noGoto_ret];have HE:=hI (HE.o _ Hb2.o);unfold set5w at HE HG5;obtain⟨g0,g1,g2,g3,g4⟩:=HG5.o;refine bodyPost_ret (v:= .tuple #[diveV noDive,.int .i64 1]) (by simp[results,Tryz.results49,go_sem,g0,g1,g2,g3,g4,diveV,noDive]) rfl HE.o
 cases h2:isTm m
 ·have HE:=hI (fun X hX=>HBad.o 1 X (by rw[HRb.o,hN,h1,h2];rfl) hX);go_wp2_with (first | (go_at_call 106;refine(isName_any who hwho _).mono ?_;rintro e w' ⟨rfl,rfl⟩) | (go_at_call 70;refine(isTime_any _ _).mono ?_;rintro e w' ⟨rfl,rfl⟩));rw[Exit.noGoto_ret];have HE:=hI (HE.o _ Hb2.o);unfold set5w at HE HG5;obtain⟨g0,g1,g2,g3,g4⟩:=HG5.o;refine bodyPost_ret (v:= .tuple #[diveV noDive,.int .i64 1]) (by simp[results,Tryz.results49,go_sem,g0,g1,g2,g3,g4,diveV,noDive]) rfl HE.o
 cases h3:isTm ready
 ·have HE:=hI (fun X hX=>HBad.o 1 X (by rw[HRb.o,hN,h1,h2,h3];rfl) hX);go_wp2_with (first | (go_at_call 106;refine(isName_any who hwho _).mono ?_;rintro e w' ⟨rfl,rfl⟩) | (go_at_call 70;refine(isTime_any _ _).mono ?_;rintro e w' ⟨rfl,rfl⟩));rw[Exit.noGoto_ret];have HE:=hI (HE.o _ Hb2.o);unfold set5w at HE HG5;obtain⟨g0,g1,g2,g3,g4⟩:=HG5.o;refine bodyPost_ret (v:= .tuple #[diveV noDive,.int .i64 1]) (by simp[results,Tryz.results49,go_sem,g0,g1,g2,g3,g4,diveV,noDive]) rfl HE.o
 cases h4:(m==0);rotate_left
 ·have HE:=hI (fun X hX=>HBad.o 1 X (by rw[HRb.o,hN,h1,h2,h3,h4];rfl) hX);go_wp2_with (first | (go_at_call 106;refine(isName_any who hwho _).mono ?_;rintro e w' ⟨rfl,rfl⟩) | (go_at_call 70;refine(isTime_any _ _).mono ?_;rintro e w' ⟨rfl,rfl⟩));rw[Exit.noGoto_ret];have HE:=hI (HE.o _ Hb2.o);unfold set5w at HE HG5;obtain⟨g0,g1,g2,g3,g4⟩:=HG5.o;refine bodyPost_ret (v:= .tuple #[diveV noDive,.int .i64 1]) (by simp[results,Tryz.results49,go_sem,g0,g1,g2,g3,g4,diveV,noDive]) rfl HE.o
 have HRc:=hI (HRb.o.trans (by rw[hN,h1,h2,h3,h4];exact rfl):nextR t l who p m ready=(match cntRow t p m with | none=>(7,noDive) | some r=>match nextGo t l who p m r.out 100001 (nextFrom l ready) with | none=>(9,noDive) | some a=>(0,nextDv who p m r.out a)));have HK:=hI (counts_any t p m B w2 (HT.o w2 Hb2.o).1 (by omega) htl);unfold tabV at HK;have HPo:=hI (fun r hr=>out_pos (t:=t) (p:=p) (m:=m) (r:=r) (faults_zero HF0.o).1 hr);have hp1:=isTm_true.1 h1;have hm1:=isTm_true.1 h2;have hr1:=isTm_true.1 h3;generalize cntRow t p m=cr at HK HRc HPo;go_upto_region 10 with(first | (go_at_call 106;refine(isName_any who hwho _).mono ?_;rintro e w' ⟨rfl,rfl⟩) | (go_at_call 70;refine(isTime_any _ _).mono ?_;rintro e w' ⟨rfl,rfl⟩))
 clear f0 f1 f2 f3 f4 d0 d1 d2 d3 d4 HG5;cases cr with
 | none=>
  have HE:=hI (fun X hX=>HBad.o 7 X (by rw[HRc.o]) hX);clear HPo;go_upto_region 12 with(go_at_call 104;refine HK.o.mono ?_;rintro e w3 ⟨rfl,hb3⟩;have Hb3:=hI (Hb2.o.trans (hb3.mono (by omega)));have hs3:=hb3.size;clear hb3;unfold rowV)
  obtain⟨W3,hW3⟩:=eY (w3.alloc (.cells #[.int .i64 0,.int .i64 0,.int .i64 0] 89));have HB3:=hI (show Bl W0 W3 by rw[hW3];exact Hb3.o.alloc (by omega) _);rw[<- hW3];have hd2:=HX01.o W3 HB3.o;have f0:=kF 0 hd2;have f1:=kF 1 hd2;have f2:=kF 2 hd2;have f3:=kF 3 hd2;have f4:=kF 4 hd2;have d0:=kC 0 hd2 rfl;have d1:=kC 1 hd2 rfl;have d2:=kC 2 hd2 rfl;have d3:=kC 3 hd2 rfl;have d4:=kC 4 hd2 rfl;have HG5:=hI (set5_cells hd2 (.string ⟨#[]⟩) (.int .i64 0) (.int .i64 0) (.int .i64 0) (.int .i64 0));clear hd2 hW3;go_wp2;rw[Exit.noGoto_ret];have HE:=hI (HE.o _ HB3.o);unfold set5w at HE HG5;obtain⟨g0,g1,g2,g3,g4⟩:=HG5.o;refine bodyPost_ret (v:= .tuple #[diveV noDive,.int .i64 7]) (by simp[results,Tryz.results49,go_sem,g0,g1,g2,g3,g4,diveV,noDive]) rfl HE.o
 | some r=>
  have hrp:=HPo.o r rfl;clear HPo;go_upto_region 13 with(go_at_call 104;refine HK.o.mono ?_;rintro e w3 ⟨rfl,hb3⟩;have Hb3:=hI (Hb2.o.trans (hb3.mono (by omega)));have hs3:=hb3.size;clear hb3;unfold rowV)
  obtain⟨W3,hW3⟩:=eY (w3.alloc (.cells #[.int .i64 r.pr,.int .i64 r.mi,.int .i64 r.out] 89));have HB3:=hI (show Bl W0 W3 by rw[hW3];exact Hb3.o.alloc (by omega) _);have HXr:=hI (show ∀X:World,Bl W3 X->X.heap[w3.heap.size]? =some (.cells #[.int .i64 r.pr,.int .i64 r.mi,.int .i64 r.out] 89 (0,0)) from fun X hX=>(hX.block _ (by rw[hW3];simp)).trans (by rw[hW3];exact zW _ _));have hsW3:w3.heap.size+1<=W3.heap.size:=by rw[hW3];simp
  have HRd:=hI (HRc.o);have HOk:=hI (ok_of_dives (faults_zero HF0.o).2.2)
  have hat:0<=nextFrom l ready/\nextFrom l ready<=100000:=by
   unfold nextFrom
   by_cases h:0<l.length
   ·rw[if_pos h,getD_lt (by omega)];have:=(HOk.o _ (zC (show l.length-1<l.length by omega))).tin;omega
   ·rw[if_neg h];exact hr1
  rw[<- hW3];clear hW3;obtain⟨at',hat'⟩:=eX (nextFrom l ready);rw[hat'] at hat HRd;have Hat:=hI hat';clear hat'
  go_upto_if 77 with fail
  go_cut [18] (fun v18 wx=>v18= .int .i64 at'/\wx=W3)
  case first=>
   by_cases hn0:0<n
   ·obtain⟨b,off,hbe,hbB,hcells⟩:=(HT.o W3 HB3.o).2 (by have:=Hn.o;omega);subst hbe
    have c2:W3.cell? ⟨b,off+(n-1)*5+2,none⟩=some (.int .i64 (l.getD (n-1) default).tin):=by
     rw[getD_lt (by have:=Hn.o;omega)];exact hcells (n-1) (by have:=Hn.o;omega) 2 _ rfl
    have HAt:=hI (show at'=max ready (l.getD (n-1) default).tin by rw[<- Hat.o];unfold nextFrom;rw[<- Hn.o,if_pos hn0]);generalize (l.getD (n-1) default).tin=x at c2 HAt;clear hcells;go_wp2;go_meet;exact⟨by rw[HAt.o],rfl⟩
   ·have HAt:=hI (show at'=ready by rw[<- Hat.o];unfold nextFrom;rw[<- Hn.o,if_neg hn0]);go_wp2;go_meet;exact⟨by rw[HAt.o],rfl⟩
  case rest=>
   obtain⟨rfl,hwc⟩:=hcut;have hwc':=hwc.symm;subst hwc';go_upto_region 18 with fail;obtain⟨W4,hW4⟩:=eY (W3.alloc (.cells #[.string who,.int .i64 p,.int .i64 0,.int .i64 0,.int .i64 0] 84));have hs4:W3.heap.size+1<=W4.heap.size:=by rw[hW4];simp
   have HB4:=hI (show Bl W3 W4 by rw[hW4];exact(zX _ _).alloc (zm _) _);have hgd:W4.heap[W3.heap.size]? =some (.cells #[.string who,.int .i64 p,.int .i64 0,.int .i64 0,.int .i64 0] 84 (0,0)):=by rw[hW4];exact zW _ _
   have HB04:=hI (HB3.o.trans (HB4.o.mono (by omega)));have Hgd:=hI hgd;rw[<- hW4];clear hW4
   go_cut [21] (fun v21 wx=>∃(A2:Option Addr) (c2:Nat),v21= .slice A2 (n+1) c2/\Hid (wx.ownsRow W4.heap.size 84 5 (.slice A2 (n+1) c2) (n+1) ((l++[(⟨who,p,0,0,0⟩:Dive)]).flatMap encDive))/\Hid (Bl W4 wx))
   case first=>
    have y0:=zV (kC 0 hgd rfl) (by omega);have y1:=zV (kC 1 hgd rfl) (by omega);have y2:=zV (kC 2 hgd rfl) (by omega);have y3:=zV (kC 3 hgd rfl) (by omega);have y4:=zV (kC 4 hgd rfl) (by omega);clear hgd;have HCl:=hI (fun(X:World) (hX:Bl W4 X)=>cloneDive_any l A n c X Hn.o (((HT.o _ (HB04.o.trans (hX.mono (by omega)))).2).mono (by have:=hX.size;omega)) Hz.o (by have:=HL128.o;omega));have hl128:=HL128.o
    obtain⟨C,hC⟩:∃C:(Nat->Bool)->(Nat->Value)->World->Prop,C=fun L V w'=>∃e:Later W4,w'=e.w/\(L 0=true->V 0= .slice A n c)/\(L 1=true->L 4=false->Hid (e.w.ownsRow W4.heap.size 84 5 (V 1) n (l.flatMap encDive)))/\(L 2=true->V 2= .agg #[.string who,.int .i64 p,.int .i64 0,.int .i64 0,.int .i64 0])/\(L 3=true->L 4=false->Hid (∃gb,V 3= .slice (some ⟨gb,0,none⟩) 1 1/\BlkAt W4 e.w gb (#[.string who,.int .i64 p,.int .i64 0,.int .i64 0,.int .i64 0]:Array Value).toList))/\(L 4=true->Hid (e.w.ownsRow W4.heap.size 84 5 (V 4) (n+1) (l.flatMap encDive++(#[.string who,.int .i64 p,.int .i64 0,.int .i64 0,.int .i64 0]:Array Value).toList))):=⟨_,rfl⟩
    have HC:=hI hC;clear hC;refine wp_region_slots 5 [89,90,91,92,93] C (by kernel_rfl) (by kernel_rfl) (by kernel_rfl) (by kernel_rfl) (by decide) (by kernel_rfl) ?_ ?_ ?_
    ·rw[HC.o];exact⟨⟨_,(zX W4.heap.size W4).drew⟩,rfl,nff,nff,nff,nff,nff⟩
    ·rintro L V w' i o hi ho hLi haf hInv;rw[HC.o] at hInv;obtain⟨e,rfl,h0,h1,h2,h3,h4⟩:=hInv;have hse:W4.heap.size<=e.w.heap.size:=e.b.size;rcases i with _ | _ | _ | _ | _ | i;case succ.succ.succ.succ.succ=>omega
     all_goals (simp only[zR,zS,Option.some.injEq] at ho;subst ho;simp only[putAll])
     ·go_wp2;rw[HC.o];refine⟨upd V 0 _,rfl,?_⟩;exact⟨e,rfl,fun _=>rfl,h1,h2,h3,h4⟩
     ·rw[h0 (haf ⟨0,.data⟩ (by simp) rfl)];go_wp2_with (go_at_call 112;refine(HCl.o e.w e.b).mono ?_;rintro r w2 ⟨v,rfl,ho2,hb2⟩);rw[HC.o];refine⟨upd (upd V 0 _) 1 _,rfl,?_⟩;exact⟨⟨w2,e.b.trans (hb2.mono e.b.size)⟩,rfl,fun _=>rfl,fun _ _=>hI (own_mono ho2 hse),h2,fun y y2=>(by obtain⟨gb,p1,p2⟩:=(h3 y y2).out;exact hI ⟨gb,p1,p2.below hb2⟩),fun y=>hI (own_below (h4 y).out hb2)⟩
     ·go_wp2;rw[HC.o];refine⟨upd V 2 _,rfl,?_⟩;exact⟨e,rfl,h0,h1,fun _=>rfl,h3,h4⟩
     ·rw[h2 (haf ⟨2,.data⟩ (by simp) rfl)];go_wp2;rw[HC.o];refine⟨upd (upd V 2 _) 3 _,rfl,?_⟩;exact⟨⟨_,e.b.alloc hse (.cells (#[.string who,.int .i64 p,.int .i64 0,.int .i64 0,.int .i64 0]:Array Value) 84)⟩,rfl,h0,fun y y2=>hI ((h1 y y2).out.alloc _),fun _=>rfl,fun _ _=>hI ⟨_,rfl,BlkAt.new hse⟩,fun y=>hI ((h4 y).out.alloc _)⟩
     ·have ho0:=(h1 (haf ⟨1,.data⟩ (by simp) rfl) hLi).out;obtain⟨gb,hgb,hnb⟩:=(h3 (haf ⟨3,.data⟩ (by simp) rfl) hLi).out;have HS:=hI (hnb.src (size:=5) rfl);rw[hgb];generalize V 1=v1 at ho0;go_wp2_with (at_builtin;refine wpList_appendL rfl _ _ 75 rfl W4.heap.size 84 _ 5 48 elemDi _ _ _ rfl ho0 _ 1 _ _ rfl HS.o (by simp[Value.oneCell']) (by omega) (by omega) ?_;intro v6 w6 hown6 hb6 hsz6 hg6 hblk6;have HF6:=hI (And.intro hown6 hb6);clear hown6 hb6 hsz6 hg6 hblk6);rw[HC.o];refine⟨upd (upd (upd V 1 _) 3 _) 4 _,rfl,?_⟩;exact⟨⟨_,e.b.trans HF6.o.2⟩,rfl,h0,fun _ y=>absurd y (by simp),h2,fun _ y=>absurd y (by simp),fun _=>hI HF6.o.1⟩
    ·rintro L V w' hL hInv;rw[HC.o] at hInv;obtain⟨e,rfl,h0,h1,h2,h3,h4⟩:=hInv;have ho4:=(h4 (hL 4 (by omega))).out;obtain⟨A2,c2,hv4,hc21,hc22⟩:=own_cap' ho4;simp only[putAll];rw[hv4] at ho4 ⊢;clear h0 h1 h2 h3 h4;go_wp2;go_meet;exact⟨A2,c2,rfl,hI (by rw[List.flatMap_append];exact ho4),hI e.b⟩
   case rest=>
    obtain⟨A2,c2,rfl,Ho,HB5⟩:=hcut;obtain⟨d0,hd0⟩:∃d0:Dive,d0=⟨who,p,0,0,0⟩:=⟨_,rfl⟩
    rw[<- hd0] at Ho;have hs5:=HB5.o.size;have HB05:=hI (HB04.o.trans (HB5.o.mono (by omega)));have hcap:=own_cap' Ho.o;obtain⟨_,_,hce,hc21,hc22⟩:=hcap;cases hce;have hl128:=HL128.o;have HSt:=hI (stays_any t (l++[d0]) A2 (n+1) c2 n wc.heap.size wc (by rw[zF,<-Hn.o];rfl) (sl_own2 lenDi (base:=W4.heap.size) (e:=84) (c:=c2) (by rw[show(l++[d0]).length=n+1 by rw[zF,<-Hn.o];rfl];exact Ho.o)) (zm _) (by omega) hc21 hc22 (by omega));unfold tabV at HSt;have Hgd5:=hI ((HB5.o.block W3.heap.size (by omega)).trans Hgd.o);have HB35:=hI (HB4.o.trans (HB5.o.mono (by omega)));have ht2:=HX00.o wc HB05.o;have q0:=kC 0 ht2 rfl;have q1:=kC 1 ht2 rfl;have q2:=kC 2 ht2 rfl;have hd0w:d0.who=who:=by rw[hd0]
    have Hd0w:=hI hd0w;have hlw:(l++[d0])[n]? =some d0:=by rw[Hn.o];simp
    have Hlw:=hI hlw;clear ht2 hgd hd0 hd0w hlw;go_upto_region 19 with fail;go_upto_region 20 with(go_at_call 108;refine HSt.o.mono ?_;rintro e w6 ⟨dd,A',k',c',hdd,hk',rfl,ho6,hb6⟩;have Hdd:=hI hdd;have Hk':=hI hk';have Ho6:=hI ho6;have Hb6:=hI hb6;have hs6:=hb6.size;unfold stayV;clear hdd hk' ho6 hb6)
    have hdd:dd=d0:=by
     have h1:=Hdd.o;rw[Hlw.o] at h1;exact(zJ h1).symm
    subst hdd;have hAh:aheadOf (l++[dd]) n dd.who=aheadOf l l.length who:=by rw[Hd0w.o,Hn.o,ahead_all]
    have Hk9:=hI (show k'=(aheadOf l l.length who).length by rw[<- hAh];exact Hk'.o);have Ho9:=hI (show w6.ownsRow wc.heap.size 84 5 (.slice A' k' c') k' ((aheadOf l l.length who).flatMap encDive) by rw[<- hAh];exact Ho6.o);clear hAh;obtain⟨Wk,hWk⟩:=eY (w6.alloc (.cells (stayC t dd (.slice A' k' c')) 157));have hs7:w6.heap.size+1<=Wk.heap.size:=by rw[hWk];simp
    have HB7:=hI (show Bl w6 Wk by rw[hWk];exact(zX _ _).alloc (zm _) _);have Hgs7:=hI (show Wk.heap[w6.heap.size]? =some (.cells (stayC t dd (.slice A' k' c')) 157 (0,0)) by rw[hWk];exact zW _ _);have Ho7:=hI (show Wk.ownsRow wc.heap.size 84 5 (.slice A' k' c') k' ((aheadOf l l.length who).flatMap encDive) by rw[hWk];exact Ho9.o.alloc _);have HBc7:=hI (Hb6.o.trans (HB7.o.mono (by omega)));have HB37:=hI (HB35.o.trans (HBc7.o.mono (by omega)));have Hgd7:=hI ((HBc7.o.block W3.heap.size (by omega)).trans Hgd5.o);have hgl:W3.heap.size<wc.heap.size:=by omega
    unfold stayC at hWk;rw[<- hWk];clear hWk q0 q1 q2;go_wp2
    go_step3
    go_wp2;go_loopw [18,23] (fun v18 v23 wr=>∃(a:Int) (f:Nat),at'<=a/\a<=100001/\v18= .int .i64 a/\v23= .bool false/\Hid (f+(a-at').toNat=100001)/\Hid (nextGo t l who p m r.out 100001 at'=nextGo t l who p m r.out f a)/\Hid (Bl W3 wr)/\Hid (∃x y z:Int,wr.heap[W3.heap.size]? =some (.cells #[.string who,.int .i64 p,.int .i64 x,.int .i64 y,.int .i64 z] 84 (0,0)))/\Hid (∃dq:Dive,wr.heap[w6.heap.size]? =some (.cells (stayC t dq (.slice A' k' c')) 157 (0,0)))/\Hid (wr.ownsRow wc.heap.size 84 5 (.slice A' k' c') k' ((aheadOf l l.length who).flatMap encDive))) (fun v18 _ _=>(100001-intOf v18).toNat);case atStart=>exact⟨at',100001,by omega,by omega,rfl,rfl,hI (by omega),hI rfl,HB37,hI ⟨0,0,0,Hgd7.o⟩,hI ⟨dd,Hgs7.o⟩,Ho7⟩
    case round=>
     obtain⟨a,f,ha1,ha2,rfl,rfl,Hf,Hng,Hb,Hd,Hs,Hod⟩:=hrel;have hsr:=Hb.o.size;have HBr:=hI (HB3.o.trans (Hb.o.mono (by omega)));have hxr:=HXr.o wr Hb.o;have x2:=kC 2 hxr rfl;clear hxr;have hm0:=hm1.1;have hro:=hrp
     by_cases hle:a+m+r.out<=100000
     ·obtain⟨x,y,z,hxyz⟩:=Hd.o;have Hxyz:=hI hxyz;have y2:=glater_cell x2 (by omega) (row:=some W3.heap.size) (fun h=>by have h9:=zJ h;omega);clear hxyz;go_upto_region 23 with fail;clear x2
      obtain⟨C,hC⟩:∃C:(Nat->Bool)->(Nat->Value)->World->Prop,C=fun L V w'=>∃(e:GLater wr (some W3.heap.size)) (x y z:Int),w'=e.w/\Hid (e.w.heap[W3.heap.size]? =some (.cells #[.string who,.int .i64 p,.int .i64 x,.int .i64 y,.int .i64 z] 84 (0,0)))/\(L 11=true->x=a)/\(L 13=true->y=a+m)/\(L 15=true->z=a+m+r.out)/\(L 0=true->V 0= .int .i64 a)/\(L 1=true->V 1= .int .i64 a)/\(L 2=true->V 2= .int .i64 m)/\(L 3=true->V 3= .int .i64 (a+m))/\(L 4=true->V 4= .int .i64 a)/\(L 5=true->V 5= .int .i64 m)/\(L 6=true->V 6= .int .i64 (a+m))/\(L 7=true->V 7= .pointer (some ⟨w3.heap.size,2,none⟩))/\(L 8=true->V 8= .int .i64 r.out)/\(L 9=true->V 9= .int .i64 (a+m+r.out))/\(L 10=true->V 10= .pointer (some ⟨W3.heap.size,2,none⟩))/\(L 12=true->V 11= .pointer (some ⟨W3.heap.size,3,none⟩))/\(L 14=true->V 12= .pointer (some ⟨W3.heap.size,4,none⟩)):=⟨_,rfl⟩
      have HC:=hI hC;clear hC;refine wp_region_opsA [108,109,110,111,112,113,114,115,116,117,118,119,120] C (by kernel_rfl) (by kernel_rfl) (by decide) (by kernel_rfl) (by kernel_rfl) ?_ ?_ ?_
      ·rw[HC.o];exact⟨⟨wr.drew,⟨rfl,rfl,rfl,zm _,fun _ _ _=>rfl⟩⟩,x,y,z,rfl,hI Hxyz.o,nff,nff,nff,nff,nff,nff,nff,nff,nff,nff,nff,nff,nff,nff,nff,nff⟩
      ·rintro L V w' i o AA hi ho hLi haf hInv hAA hFF;rw[HC.o] at hInv;obtain⟨e,x',y',z',rfl,HQ,s11,s13,s15,h0,h1,h2,h3,h4,h5,h6,h7,h8,h9,h10,h12,h14⟩:=hInv;rcases i with _ | _ | _ | _ | _ | _ | _ | _ | _ | _ | _ | _ | _ | _ | _ | _ | i;case succ.succ.succ.succ.succ.succ.succ.succ.succ.succ.succ.succ.succ.succ.succ.succ=>(simp at hi;try omega)
       all_goals (simp only[zR,zS,Option.some.injEq] at ho;subst ho)
       all_goals clear hi
       ·have f18:AA.tmps[18]?.getD undef= .int .i64 a:=hFF.out 18 (by decide);go_wp2;rw[HC.o];exact⟨_,rfl,e,x',y',z',rfl,HQ,s11,s13,s15,fun _=>rfl,h1,h2,h3,h4,h5,h6,h7,h8,h9,h10,h12,h14⟩
       ·have f18:AA.tmps[18]?.getD undef= .int .i64 a:=hFF.out 18 (by decide);go_wp2;rw[HC.o];exact⟨_,rfl,e,x',y',z',rfl,HQ,s11,s13,s15,h0,fun _=>rfl,h2,h3,h4,h5,h6,h7,h8,h9,h10,h12,h14⟩
       ·have f4:AA.tmps[4]?.getD undef= .int .i64 m:=hFF.out 4 (by decide);go_wp2;rw[HC.o];exact⟨_,rfl,e,x',y',z',rfl,HQ,s11,s13,s15,h0,h1,fun _=>rfl,h3,h4,h5,h6,h7,h8,h9,h10,h12,h14⟩
       ·have a1:=(hAA.out 1 109 rfl).trans (h1 (haf ⟨1,.data⟩ (by simp) rfl));have a2:=(hAA.out 2 110 rfl).trans (h2 (haf ⟨2,.data⟩ (by simp) rfl));go_wp2;rw[HC.o];exact⟨_,rfl,e,x',y',z',rfl,HQ,s11,s13,s15,h0,h1,h2,fun _=>rfl,h4,h5,h6,h7,h8,h9,h10,h12,h14⟩
       ·have f18:AA.tmps[18]?.getD undef= .int .i64 a:=hFF.out 18 (by decide);go_wp2;rw[HC.o];exact⟨_,rfl,e,x',y',z',rfl,HQ,s11,s13,s15,h0,h1,h2,h3,fun _=>rfl,h5,h6,h7,h8,h9,h10,h12,h14⟩
       ·have f4:AA.tmps[4]?.getD undef= .int .i64 m:=hFF.out 4 (by decide);go_wp2;rw[HC.o];exact⟨_,rfl,e,x',y',z',rfl,HQ,s11,s13,s15,h0,h1,h2,h3,h4,fun _=>rfl,h6,h7,h8,h9,h10,h12,h14⟩
       ·have a4:=(hAA.out 4 112 rfl).trans (h4 (haf ⟨4,.data⟩ (by simp) rfl));have a5:=(hAA.out 5 113 rfl).trans (h5 (haf ⟨5,.data⟩ (by simp) rfl));go_wp2;rw[HC.o];exact⟨_,rfl,e,x',y',z',rfl,HQ,s11,s13,s15,h0,h1,h2,h3,h4,h5,fun _=>rfl,h7,h8,h9,h10,h12,h14⟩
       ·have f16:AA.tmps[16]?.getD undef= .pointer (some ⟨w3.heap.size,0,none⟩):=hFF.out 16 (by decide);go_wp2;rw[HC.o];exact⟨_,rfl,e,x',y',z',rfl,HQ,s11,s13,s15,h0,h1,h2,h3,h4,h5,h6,fun _=>rfl,h8,h9,h10,h12,h14⟩
       ·have a7:=(hAA.out 7 115 rfl).trans (h7 (haf ⟨7,.data⟩ (by simp) rfl));go_wp2;rw[HC.o];exact⟨_,rfl,e,x',y',z',rfl,HQ,s11,s13,s15,h0,h1,h2,h3,h4,h5,h6,h7,fun _=>rfl,h9,h10,h12,h14⟩
       ·have a6:=(hAA.out 6 114 rfl).trans (h6 (haf ⟨6,.data⟩ (by simp) rfl));have a8:=(hAA.out 8 116 rfl).trans (h8 (haf ⟨8,.data⟩ (by simp) rfl));go_wp2;rw[HC.o];exact⟨_,rfl,e,x',y',z',rfl,HQ,s11,s13,s15,h0,h1,h2,h3,h4,h5,h6,h7,h8,fun _=>rfl,h10,h12,h14⟩
       ·have f20:AA.tmps[20]?.getD undef= .pointer (some ⟨W3.heap.size,0,none⟩):=hFF.out 20 (by decide);go_wp2;rw[HC.o];exact⟨_,rfl,e,x',y',z',rfl,HQ,s11,s13,s15,h0,h1,h2,h3,h4,h5,h6,h7,h8,h9,fun _=>rfl,h12,h14⟩
       ·have a10:=(hAA.out 10 118 rfl).trans (h10 (haf ⟨10,.data⟩ (by simp) rfl));have a0:=(hAA.out 0 108 rfl).trans (h0 (haf ⟨0,.data⟩ (by simp) rfl));have hq:=HQ.o;have g0:=kF 2 hq;have d0:=kC 2 hq rfl;have HQ2:=hI (show(e.w.setCell ⟨W3.heap.size,2,none⟩ (.int .i64 (a))).heap[W3.heap.size]? =some (.cells #[.string who,.int .i64 p,.int .i64 a,.int .i64 y',.int .i64 z'] 84 (0,0)) by have h9:=blk_set (j:=2) hq (.int .i64 (a));simpa using h9);clear hq;go_wp2;rw[HC.o];exact⟨rfl,undef,⟨_,grown_trans e.g (grown_set _ _ _ _)⟩,(a),y',z',rfl,HQ2,fun _=>rfl,s13,s15,h0,h1,h2,h3,h4,h5,h6,h7,h8,h9,h10,h12,h14⟩
       ·have f20:AA.tmps[20]?.getD undef= .pointer (some ⟨W3.heap.size,0,none⟩):=hFF.out 20 (by decide);go_wp2;rw[HC.o];exact⟨_,rfl,e,x',y',z',rfl,HQ,s11,s13,s15,h0,h1,h2,h3,h4,h5,h6,h7,h8,h9,h10,fun _=>rfl,h14⟩
       ·have a12:=(hAA.out 11 119 rfl).trans (h12 (haf ⟨12,.data⟩ (by simp) rfl));have a3:=(hAA.out 3 111 rfl).trans (h3 (haf ⟨3,.data⟩ (by simp) rfl));have hq:=HQ.o;have g0:=kF 3 hq;have d0:=kC 3 hq rfl;have HQ2:=hI (show(e.w.setCell ⟨W3.heap.size,3,none⟩ (.int .i64 (a+m))).heap[W3.heap.size]? =some (.cells #[.string who,.int .i64 p,.int .i64 x',.int .i64 (a+m),.int .i64 z'] 84 (0,0)) by have h9:=blk_set (j:=3) hq (.int .i64 (a+m));simpa using h9);clear hq;go_wp2;rw[HC.o];exact⟨rfl,undef,⟨_,grown_trans e.g (grown_set _ _ _ _)⟩,x',(a+m),z',rfl,HQ2,s11,fun _=>rfl,s15,h0,h1,h2,h3,h4,h5,h6,h7,h8,h9,h10,h12,h14⟩
       ·have f20:AA.tmps[20]?.getD undef= .pointer (some ⟨W3.heap.size,0,none⟩):=hFF.out 20 (by decide);go_wp2;rw[HC.o];exact⟨_,rfl,e,x',y',z',rfl,HQ,s11,s13,s15,h0,h1,h2,h3,h4,h5,h6,h7,h8,h9,h10,h12,fun _=>rfl⟩
       ·have a14:=(hAA.out 12 120 rfl).trans (h14 (haf ⟨14,.data⟩ (by simp) rfl));have a9:=(hAA.out 9 117 rfl).trans (h9 (haf ⟨9,.data⟩ (by simp) rfl));have hq:=HQ.o;have g0:=kF 4 hq;have d0:=kC 4 hq rfl;have HQ2:=hI (show(e.w.setCell ⟨W3.heap.size,4,none⟩ (.int .i64 (a+m+r.out))).heap[W3.heap.size]? =some (.cells #[.string who,.int .i64 p,.int .i64 x',.int .i64 y',.int .i64 (a+m+r.out)] 84 (0,0)) by have h9:=blk_set (j:=4) hq (.int .i64 (a+m+r.out));simpa using h9);clear hq;go_wp2;rw[HC.o];exact⟨rfl,undef,⟨_,grown_trans e.g (grown_set _ _ _ _)⟩,x',y',(a+m+r.out),rfl,HQ2,s11,s13,fun _=>rfl,h0,h1,h2,h3,h4,h5,h6,h7,h8,h9,h10,h12,h14⟩
      rintro L V w' hL hInv;rw[HC.o] at hInv;obtain⟨e,x',y',z',rfl,HQ,s11,s13,s15,h0,h1,h2,h3,h4,h5,h6,h7,h8,h9,h10,h12,h14⟩:=hInv;obtain rfl:=(s11 (hL 11 (by simp))).symm;obtain rfl:=s13 (hL 13 (by simp));obtain rfl:=s15 (hL 15 (by simp));clear h0 h1 h2 h3 h4 h5 h6 h7 h8 h9 h10 h12 h14 s11 s13 s15 hL HC y2;have HE7:=hI (Hb.o.grown e.g (by omega) (fun k hk=>by cases hk;exact zm _))
      have Hs7:=hI (show ∃dq:Dive,e.w.heap[w6.heap.size]? =some (.cells (stayC t dq (.slice A' k' c')) 157 (0,0)) by
       obtain⟨dq,hdq⟩:=Hs.o;exact⟨dq,(e.g.block _ (blk_lt hdq) (by simp;omega)).trans hdq⟩)
      have Ho7:=hI (show e.w.ownsRow wc.heap.size 84 5 (.slice A' k' c') k' ((aheadOf l l.length who).flatMap encDive) from Hod.o.kept e.g (by
       cases hv:(Value.slice A' k' c').ownBlock with
       | none=>exact .inl rfl
       | some kk=>exact .inr (fun he=>by have h9:=(Hod.o.lt kk hv).1;have h10:=zJ he;omega)))
      have hse:=e.g.size;generalize e.w=w7 at HE7 Hs7 Ho7 HQ hse;simp only[putAll];go_frame;have d0:=kC 0 HQ.o rfl;have d1:=kC 1 HQ.o rfl;have d2:=kC 2 HQ.o rfl;have d3:=kC 3 HQ.o rfl;have d4:=kC 4 HQ.o rfl;obtain⟨dq,hdq⟩:=Hs7.o;unfold stayC at hdq;have g3:=kF 3 hdq;have g4:=kF 4 hdq;have g5:=kF 5 hdq;have g6:=kF 6 hdq;have g7:=kF 7 hdq;have e3:=kC 3 hdq rfl;have e4:=kC 4 hdq rfl;have e5:=kC 5 hdq rfl;have e6:=kC 6 hdq rfl;have e7:=kC 7 hdq rfl;clear hdq;go_upto_region 25 with fail;obtain⟨dv,hdv⟩:=eY (nextDv who p m r.out a);obtain⟨X2,hX2⟩:=eY (putDv w7 w6.heap.size dv);obtain⟨dq,hdq⟩:=Hs7.o;have hs2:X2.heap.size=w7.heap.size:=by rw[hX2,putDv_size]
      have HE2:=hI (show Bl W3 X2 by rw[hX2];exact HE7.o.grown (putDv_grown _ _ _) (by omega) (fun k hk=>by cases hk;omega));have Hd2:=hI (show X2.heap[W3.heap.size]? =some (.cells #[.string who,.int .i64 p,.int .i64 a,.int .i64 (a+m),.int .i64 (a+m+r.out)] 84 (0,0)) by rw[hX2,putDv_ne (by omega)];exact HQ.o);have Hs2:=hI (show X2.heap[w6.heap.size]? =some (.cells (stayC t dv (.slice A' k' c')) 157 (0,0)) by rw[hX2];exact putDv_blk hdq dv);have Ho2:=hI (show X2.ownsRow wc.heap.size 84 5 (.slice A' k' c') k' ((aheadOf l l.length who).flatMap encDive) by rw[hX2];exact putDv_own Ho7.o hdq (by decide) dv);have Hdv:=hI hdv;have Hok2:=hI (show OkDive dv by rw[hdv];exact⟨hp1,⟨by show 0<=a;omega,by show a<=100000;omega⟩,⟨by show 0<=a+m;omega,by show a+m<=100000;omega⟩,⟨by show 0<=a+m+r.out;omega,by show a+m+r.out<=100000;omega⟩⟩)
      have hX2':X2=((((w7.setCell ⟨w6.heap.size,3,none⟩ (.string who)).setCell ⟨w6.heap.size,4,none⟩ (.int .i64 p)).setCell ⟨w6.heap.size,5,none⟩ (.int .i64 a)).setCell ⟨w6.heap.size,6,none⟩ (.int .i64 (a+m))).setCell ⟨w6.heap.size,7,none⟩ (.int .i64 (a+m+r.out)):=by rw[hX2,hdv];rfl
      rw[<- hX2'];clear hX2 hX2' hdv hdq g3 g4 g5 g6 g7 e3 e4 e5 e6 e7 d0 d1 d2 d3 d4 Hs7 Ho7 HQ HE7;have HT2:=hI (show TIn X2 B t from(HT.o X2 (HB3.o.trans (HE2.o.mono (by omega)))).1);have HFl:=hI (fault_any t dv (aheadOf l l.length who) A' k' c' X2.heap.size X2 (HT2.o.mono (by omega)) htl Hk9.o (sl_own2 lenDi (base:=wc.heap.size) (e:=84) (c:=c') (by rw[<- Hk9.o];exact Ho2.o)) (fun hA=>by rw[hA] at Ho2;exact own_nilz Ho2.o) (zm _) Hok2.o (fun x hx=>HOk.o x (List.mem_of_mem_take (List.mem_filter.1 hx).1)) (by rw[Hk9.o];have h1:=List.length_filter_le (fun x:Dive=>strEq x.who who) (l.take l.length);rw[List.take_length] at h1;unfold aheadOf;rw[List.take_length];have:=Hn.o;have:=HL128.o;omega));obtain⟨f',hf'⟩:∃f',f=f'+1:=⟨f-1,by have:=Hf.o;omega⟩
      have Hng2:=hI (show nextGo t l who p m r.out 100001 at'=if faultN t (aheadOf l l.length who) dv=0 then some a else nextGo t l who p m r.out f' (a+1) by
       rw[Hng.o,hf',Hdv.o]
       show(if a+m+r.out<=100000 then _ else _)=_
       rw[if_pos hle])
      have Hf2:=hI (show f'+(a+1-at').toNat=100001 by have:=Hf.o;omega);have hs5:=HE2.o.size;have hst:=Hs2.o;obtain⟨fv,hfv0⟩:=eX (faultN t (aheadOf l l.length who) dv);rw[hfv0] at HFl Hng2;rw[Hdv.o] at hst HFl;unfold stayC nextDv at hst;unfold stayV nextDv at HFl;dsimp only at hst HFl;have e0:=kC 0 hst rfl;have e1:=kC 1 hst rfl;have e2:=kC 2 hst rfl;have e3:=kC 3 hst rfl;have e4:=kC 4 hst rfl;have e5:=kC 5 hst rfl;have e6:=kC 6 hst rfl;have e7:=kC 7 hst rfl;have e8:=kC 8 hst rfl;clear hst Hng Hf hf' hfv0;cases hfv:(fv==0)
      ·have HN:=hI (show nextGo t l who p m r.out 100001 at'=nextGo t l who p m r.out f' (a+1) by rw[Hng2.o,if_neg (fun h=>by rw[h] at hfv;cases hfv)]);go_wp2_with (go_at_call 107;refine HFl.o.mono ?_;rintro e w8 ⟨rfl,hb8⟩;have hs8:=hb8.size;have Hb8:=hI hb8;clear hb8);go_roundw;case rel=>exact⟨a+1,f',by omega,by omega,by go_num,rfl,Hf2,HN,hI (HE2.o.trans (Hb8.o.mono (by omega))),hI ⟨_,_,_,(Hb8.o.block _ (blk_lt Hd2.o)).trans Hd2.o⟩,hI ⟨_,(Hb8.o.block _ (blk_lt Hs2.o)).trans Hs2.o⟩,hI (own_below Ho2.o Hb8.o)⟩
       case measure=>simp[intOf];omega
      ·have HN:=hI (show nextGo t l who p m r.out 100001 at'=some a by rw[Hng2.o,if_pos (eq_of_beq hfv)]);go_upto_region 26 with(go_at_call 107;refine HFl.o.mono ?_;rintro e w8 ⟨rfl,hb8⟩;have hs8:=hb8.size;have Hb8:=hI hb8;clear hb8)
       have HE8:=hI (HE2.o.trans (Hb8.o.mono (by omega)));have hq8:=(Hb8.o.block _ (blk_lt Hd2.o)).trans Hd2.o;have hr8:=HX01.o w8 (HB3.o.trans (HE8.o.mono (by omega)));have f0:=kF 0 hr8;have f1:=kF 1 hr8;have f2:=kF 2 hr8;have f3:=kF 3 hr8;have f4:=kF 4 hr8;have d0:=kC 0 hr8 rfl;have d1:=kC 1 hr8 rfl;have d2:=kC 2 hr8 rfl;have d3:=kC 3 hr8 rfl;have d4:=kC 4 hr8 rfl;have k0:=kC 0 hq8 rfl;have k1:=kC 1 hq8 rfl;have k2:=kC 2 hq8 rfl;have k3:=kC 3 hq8 rfl;have k4:=kC 4 hq8 rfl;have HG5:=hI (set5_cells hr8 (.string who) (.int .i64 p) (.int .i64 a) (.int .i64 (a+m)) (.int .i64 (a+m+r.out)));have HRf:=hI (show nextR t l who p m ready=(0,nextDv who p m r.out a) by rw[HRd.o,HN.o]);have HFin:=hI (show Below w.heap.size w (set5w w8 (w.heap.size+1) (.string who) (.int .i64 p) (.int .i64 a) (.int .i64 (a+m)) (.int .i64 (a+m+r.out))) from(HU0.o _ (HB3.o.trans (HE8.o.mono (by omega)))).trans (set5_below (by omega)))
       clear hq8 hr8;go_wp2;rw[Exit.noGoto_ret];unfold set5w at HFin HG5;obtain⟨g0,g1,g2,g3,g4⟩:=HG5.o;refine bodyPost_ret (v:= .tuple #[diveV (nextDv who p m r.out a),.int .i64 0]) (by simp[results,Tryz.results49,go_sem,g0,g1,g2,g3,g4,diveV,nextDv]) rfl ?_;rw[HRf.o];exact⟨rfl,HFin.o⟩
     ·have hno:nextGo t l who p m r.out 100001 at'=none:=by
       rw[Hng.o];cases f with
       | zero=>rfl
       | succ f'=>show(if a+m+r.out<=100000 then _ else _)=_;rw[if_neg hle]
      have HN:=hI hno;have hr8:=HX01.o wr (HB3.o.trans (Hb.o.mono (by omega)));have f0:=kF 0 hr8;have f1:=kF 1 hr8;have f2:=kF 2 hr8;have f3:=kF 3 hr8;have f4:=kF 4 hr8;have d0:=kC 0 hr8 rfl;have d1:=kC 1 hr8 rfl;have d2:=kC 2 hr8 rfl;have d3:=kC 3 hr8 rfl;have d4:=kC 4 hr8 rfl;have HG5:=hI (set5_cells hr8 (.string ⟨#[]⟩) (.int .i64 0) (.int .i64 0) (.int .i64 0) (.int .i64 0));have HE:=hI (HBad.o 9 wr (by rw[HRd.o,HN.o]) (HB3.o.trans (Hb.o.mono (by omega))));clear hno hr8;go_wp2;unfold set5w at HE HG5;obtain⟨g0,g1,g2,g3,g4⟩:=HG5.o;refine bodyPost_ret (v:= .tuple #[diveV noDive,.int .i64 9]) (by simp[results,Tryz.results49,go_sem,g0,g1,g2,g3,g4,diveV,noDive]) rfl HE.o
end Go.Proofs.YtjpgnfekbojcaaaGreat
