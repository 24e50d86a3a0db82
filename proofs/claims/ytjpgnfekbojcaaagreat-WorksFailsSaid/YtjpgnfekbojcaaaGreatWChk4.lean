/- The error of a job;its order. -/
import Derived.Test.YtjpgnfekbojcaaaGreatWChk2
import Derived.Test.YtjpgnfekbojcaaaGreatWJob8
import Derived.Test.YtjpgnfekbojcaaaGreatWKeep
set_option maxHeartbeats 8000000
set_option maxRecDepth 100000
namespace Go.Proofs.YtjpgnfekbojcaaaGreat
open Go.RowKit W7 W8
attribute [local go_sem] Oper.semAt_some
structure Slim (j:Job):Prop where
 nt:j.tasks.length<=1000
 nr:j.res.length<=1000
theorem task_good {j:Job} (h:JGood j.p):∀t∈j.tasks,∀k∈t.p.needs,0<=k/\k<j.tasks.length:=fun t ht k hk=>by
 have:=h.needs t.p (List.mem_map.2 ⟨t,ht,rfl⟩) k hk
 rwa [j.nt] at this
theorem Check_any (j:Job) (B:Nat) (w:World) (hj:JIn w B j) (hB:B<=w.heap.size) (hS:Slim j) :
  Calls Tryz.prog 37 #[jobV j] w fun e w'=>e= .returned (.int .i64 (jobErr j.p))/\Bl w w':=by
 obtain⟨n,hn⟩:=eX j.tasks.length;obtain⟨m,hm⟩:=eX j.res.length;obtain⟨TA,hTA⟩:=eX j.TA;have hjv:jobV j= .agg #[.slice TA n j.tc,.slice j.RA m j.rc]:=by unfold jobV;rw[hn,hm,hTA]
 rw[hjv];obtain⟨W0,HW0,hs0,HB0,HX00,HU0⟩:=boxes1 w (.cells #[.slice TA n j.tc,.slice j.RA m j.rc] 25);have hlc:=hj.tl;have hc2:=hj.tc;have hlr:=hj.rl;have hcr:=hj.rc;have hnt:=hS.nt;have hnr:=hS.nr;rw[hn] at hlc hnt;rw[hm] at hlr hnr;have HJ:=hI (show ∀X:World,Bl W0 X->JIn X B j from fun X hX=>hj.below ((HU0.o X hX).mono hB));have HE:=hI (show jobErr j.p=if ressErr j.p.res≠0 then ressErr j.p.res else if 64<n then 3 else if firstErr (tskErrAt j.p) n≠0 then firstErr (tskErrAt j.p) n else if (ordV j.p).length<n then 11 else 0 by unfold jobErr tsksErr;rw[j.nt,hn]);have HRs:=hI (resources_any j.res j.RA m j.rc B W0 hm.symm (HJ.o W0 (zX _ _)).rs (HJ.o W0 (zX _ _)).rss (by omega) hlr hcr);have Hn:=hI hn;have Hm:=hI hm;have Hjv:=hI hjv;have hre:j.p.res=j.res.map (·.p):=rfl;obtain⟨re,hree⟩:=eX (ressErr j.p.res);rw[<- hre,hree] at HRs;rw[hree] at HE;have Hre:=hI hree
 have q0:=kC 0 (HX00.o W0 (zX _ _)) rfl;have q1:=kC 1 (HX00.o W0 (zX _ _)) rfl;clear hj hS hn hm hTA hjv hre hree;go_enter Tryz.func37,Tryz.ntmps37;go_upto_region 1 with fail;rw[<- HW0.o];go_upto_region 2 with(go_at_call 97;refine HRs.o.mono ?_;rintro e w1 ⟨rfl,hb1⟩;have hs1:=hb1.size;have Hb1:=hI hb1;clear hb1)
 clear q0 q1;cases h0:(re==0)
 ·have h0':(re != 0)=true:=by simp[bne,h0]
  have HV:=hI (show jobErr j.p=re by rw[HE.o,if_pos (fun h=>by rw[h] at h0;cases h0)]);go_wp2;go_ret;exact⟨ret_int HV.o.symm,HU0.o _ Hb1.o⟩
 have h0':(re != 0)=false:=by simp[bne,h0]
 have Hr0:=hI (show ressErr j.p.res=0 by rw[Hre.o];exact eq_of_beq h0);have HE1:=hI (show jobErr j.p=if 64<n then 3 else if firstErr (tskErrAt j.p) n≠0 then firstErr (tskErrAt j.p) n else if (ordV j.p).length<n then 11 else 0 by rw[HE.o,if_neg (fun h=>h (eq_of_beq h0))]);have q0:=kC 0 (HX00.o w1 Hb1.o) rfl;have q1:=kC 1 (HX00.o w1 Hb1.o) rfl
 by_cases h64:64<n
 ·have HV:=hI (show jobErr j.p=3 by rw[HE1.o,if_pos h64]);go_wp2;go_ret;exact⟨ret_int HV.o.symm,HU0.o _ Hb1.o⟩
 have HE2:=hI (show jobErr j.p=if firstErr (tskErrAt j.p) n≠0 then firstErr (tskErrAt j.p) n else if (ordV j.p).length<n then 11 else 0 by rw[HE1.o,if_neg h64])
 have H16:=hI (show j.res.length<=16 by
  have h:=Hr0.o;unfold ressErr at h;rw[j.nr] at h
  split at h
  ·cases h
  ·omega)
 go_wp2;clear q0 q1;go_loopw [19] (fun v19 wr=>∃i:Nat,i<=n/\v19= .int .i64 i/\Hid (Bl W0 wr)/\Hid (firstErr (tskErrAt j.p) i=0)) (fun v19 _=>n-(intOf v19).toNat);case atStart=>exact⟨0,by omega,rfl,Hb1,hI rfl⟩
 case round=>
  obtain⟨i,hi,rfl,Hb,Hf⟩:=hrel;have hsr:=Hb.o.size;have q0:=kC 0 (HX00.o wr Hb.o) rfl;have q1:=kC 1 (HX00.o wr Hb.o) rfl
  by_cases hlt:i<n
  ·have HT:=hI (task_any j i B wr (HJ.o wr Hb.o) (by omega) (by have:=Hn.o;omega) (by have:=Hn.o;omega) H16.o);rw[Hjv.o] at HT
   have HBad:=hI (show tskErrAt j.p i≠0->jobErr j.p=tskErrAt j.p i from fun h=>by
    have h1:=firstErr_at Hf.o h hlt;rw[HE2.o,h1,if_pos h])
   have Hsn:=hI (show firstErr (tskErrAt j.p) (i+1)=tskErrAt j.p i from firstErr_succ Hf.o);generalize tskErrAt j.p i=te at HT HBad Hsn;cases ht:(te==0)
   ·have ht':(te != 0)=true:=by simp[bne,ht]
    have HV:=hI (HBad.o (fun h=>by rw[h] at ht;cases ht));go_wp2_with (go_at_call 98;refine HT.o.mono ?_;rintro e w2 ⟨rfl,hb2⟩;have Hb2:=hI hb2;clear hb2);go_ret;exact⟨ret_int HV.o.symm,HU0.o _ (Hb.o.trans (Hb2.o.mono (by omega)))⟩
   ·have ht':(te != 0)=false:=by simp[bne,ht]
    have HV:=hI (show firstErr (tskErrAt j.p) (i+1)=0 by rw[Hsn.o];exact eq_of_beq ht);go_wp2_with (go_at_call 98;refine HT.o.mono ?_;rintro e w2 ⟨rfl,hb2⟩;have Hb2:=hI hb2;clear hb2);go_roundw;case rel=>exact⟨i+1,by omega,by go_num,hI (Hb.o.trans (Hb2.o.mono (by omega))),HV⟩
    case measure=>simp[intOf];omega
  ·obtain rfl:i=n:=by omega
   have HE3:=hI (show jobErr j.p=if (ordV j.p).length<i then 11 else 0 by rw[HE2.o,if_neg (fun h=>h Hf.o)]);have HG:=hI (good_of0 Hr0.o (by rw[j.nt,Hn.o];exact h64) (by unfold tsksErr;rw[j.nt,Hn.o];exact Hf.o));obtain⟨k,hk⟩:=eX ((ordV j.p).length);have HOr:=hI (fun(e:Later wr)=>ordered_any j B e.w (HJ.o e.w (Hb.o.trans (e.b.mono hsr))) (by have:=e.b.size;omega) (by have:=Hn.o;omega) (fun t ht=>by have:=needs_len HG.o (t:=t.p) (List.mem_map.2 ⟨t,ht,rfl⟩);omega) (task_good HG.o));rw[hk] at HE3;rw[Hjv.o,hk] at HOr;clear hk;go_upto_region 13 with fail;have y0:=zV q0 (by omega);have y1:=zV q1 (by omega);clear q0 q1
   obtain⟨C,hC⟩:∃C:(Nat->Bool)->(Nat->Value)->World->Prop,C=fun L V w'=>∃(e:Later wr),w'=e.w/\(L 0=true->V 0= .agg #[.slice TA i j.tc,.slice j.RA m j.rc])/\(L 1=true->∃A c,V 1= .slice A k c)/\(L 2=true->V 2= .int .i64 (k:Int))/\(L 3=true->V 3= .pointer (some ⟨w.heap.size,0,none⟩))/\(L 4=true->V 4= .slice TA i j.tc)/\(L 5=true->V 5= .int .i64 (i:Int))/\(L 6=true->V 6= .bool (decide (k<i))):=⟨_,rfl⟩
   have HC:=hI hC;clear hC;refine wp_region_opsA [29,30,31,32,33,34,35] C (by kernel_rfl) (by kernel_rfl) (by decide) (by kernel_rfl) (by kernel_rfl) ?_ ?_ ?_
   ·rw[HC.o];exact⟨⟨wr.drew,(zX _ _).drew⟩,rfl,nff,nff,nff,nff,nff,nff,nff⟩
   ·rintro L V w' ii o AA hii ho hLi haf hInv hAA hFF;rw[HC.o] at hInv;obtain⟨e,rfl,h0,h1,h2,h3,h4,h5,h6⟩:=hInv;rcases ii with _ | _ | _ | _ | _ | _ | _ | ii;case succ.succ.succ.succ.succ.succ.succ=>(simp at hii;try omega)
    all_goals (simp only[zR,zS,Option.some.injEq] at ho;subst ho)
    all_goals clear hii
    ·have f1:AA.tmps[1]?.getD undef= .pointer (some ⟨w.heap.size,0,none⟩):=hFF.out 1 (by decide);go_wp2;rw[HC.o];exact⟨_,rfl,e,rfl,fun _=>rfl,h1,h2,h3,h4,h5,h6⟩
    ·have a0:=(hAA.out 0 29 rfl).trans (h0 (haf ⟨0,.data⟩ (by simp) rfl));go_wp2_with (go_at_call 95;refine(HOr.o e).mono ?_;rintro r w2 ⟨v,rfl,ho2,hb2⟩);obtain⟨A9,c9,e9,_,_⟩:=own_cap' ho2;rw[HC.o];exact⟨_,rfl,⟨w2,e.b.trans (hb2.mono e.b.size)⟩,rfl,h0,fun _=>⟨A9,c9,e9⟩,h2,h3,h4,h5,h6⟩
    ·obtain⟨A9,c9,e9⟩:=h1 (haf ⟨1,.data⟩ (by simp) rfl);have a1:=(hAA.out 1 30 rfl).trans e9;go_wp2;rw[HC.o];exact⟨_,rfl,e,rfl,h0,h1,fun _=>rfl,h3,h4,h5,h6⟩
    ·have f1:AA.tmps[1]?.getD undef= .pointer (some ⟨w.heap.size,0,none⟩):=hFF.out 1 (by decide);go_wp2;rw[HC.o];exact⟨_,rfl,e,rfl,h0,h1,h2,fun _=>rfl,h4,h5,h6⟩
    ·have a3:=(hAA.out 3 32 rfl).trans (h3 (haf ⟨3,.data⟩ (by simp) rfl));go_wp2;rw[HC.o];exact⟨_,rfl,e,rfl,h0,h1,h2,h3,fun _=>rfl,h5,h6⟩
    ·have a4:=(hAA.out 4 33 rfl).trans (h4 (haf ⟨4,.data⟩ (by simp) rfl));go_wp2;rw[HC.o];exact⟨_,rfl,e,rfl,h0,h1,h2,h3,h4,fun _=>rfl,h6⟩
    ·have a2:=(hAA.out 2 31 rfl).trans (h2 (haf ⟨2,.data⟩ (by simp) rfl));have a5:=(hAA.out 5 34 rfl).trans (h5 (haf ⟨5,.data⟩ (by simp) rfl));go_wp2;rw[HC.o];exact⟨_,rfl,e,rfl,h0,h1,h2,h3,h4,h5,fun _=>rfl⟩
   ·rintro L V w' hL hInv;rw[HC.o] at hInv;obtain⟨e,rfl,_,_,_,_,_,_,h6⟩:=hInv;have v6:=h6 (hL 6 (by simp));have HEb:=hI (HU0.o _ (Hb.o.trans (e.b.mono hsr)));clear h6 hL HC;simp only[putAll];rw[v6];go_frame
    by_cases hki:k<i
    ·have HV:=hI (show jobErr j.p=11 by rw[HE3.o,if_pos hki]);go_wp2;go_ret;exact⟨ret_int HV.o.symm,HEb.o⟩
    ·have HV:=hI (show jobErr j.p=0 by rw[HE3.o,if_neg hki]);go_wp2;go_ret;exact⟨ret_int HV.o.symm,HEb.o⟩
end Go.Proofs.YtjpgnfekbojcaaaGreat
namespace W8
open W7
theorem lenTo_le {j:JobP} (hG:JGood j) {st:List Int} (hs:∀i,0<=st.getD i 0/\st.getD i 0<=100000):∀i,i<=j.tasks.length->0<=lenTo j st i/\lenTo j st i<=200000
 | 0,_=>by simp[lenTo]
 | i+1,hi=>by
  have h1:=lenTo_le hG hs i (by omega);have h2:=hG.takes (j.tasks.getD i default) (by rw[getD_of (by omega)];exact zC _);have h3:=hs i;simp only[lenTo];omega
theorem keepsV_time {j:JobP} {st:List Int} (hn:st.length=j.tasks.length) (h:keepsV j st=true):∀i,0<=st.getD i 0/\st.getD i 0<=100000:=by
 unfold keepsV at h;simp only[zY] at h;exact keepsAt_time hn h.1
end W8
namespace Go.Proofs.YtjpgnfekbojcaaaGreat
open Go.RowKit W7 W8
attribute [local go_sem] Oper.semAt_some
structure StIn (w:World) (B:Nat) (SA:Option Addr) (sn sc:Nat) (st:List Int):Prop where
 len:sn=st.length
 small:sn<=1000
 le:sn<=sc
 cap:sc<=9223372036854775807
 sl:Sl w B 1 encInt1 SA st
theorem StIn.below {w w':World} {B:Nat} {SA:Option Addr} {sn sc:Nat} {st:List Int} (h:StIn w B SA sn sc st) (hb:Below B w w'):StIn w' B SA sn sc st:=⟨h.len,h.small,h.le,h.cap,h.sl.below hb⟩
theorem Keeps_any (j:Job) (st:List Int) (SA:Option Addr) (sn sc B:Nat) (w:World) (hj:JIn w B j) (hB:B<=w.heap.size) (hS:Slim j) (hst:StIn w B SA sn sc st) :
  Calls Tryz.prog 21 #[jobV j,.slice SA sn sc] w fun e w'=>e= .returned (.tuple #[.bool (kpV j.p st),.int .i64 (kpErr j.p st)])/\Bl w w':=by
 obtain⟨n,hn⟩:=eX j.tasks.length;have hjv:jobV j= .agg #[.slice j.TA n j.tc,.slice j.RA j.res.length j.rc]:=by unfold jobV;rw[hn]
 obtain⟨W0,HW0,hs0,HB0,HX00,HU0⟩:=boxes1 w (.cells #[.slice j.TA n j.tc,.slice j.RA j.res.length j.rc] 25);have HJ:=hI (show ∀X:World,Bl W0 X->JIn X B j/\StIn X B SA sn sc st from fun X hX=>⟨hj.below ((HU0.o X hX).mono hB),hst.below ((HU0.o X hX).mono hB)⟩);have HC:=hI (Check_any j B W0 (HJ.o W0 (zX _ _)).1 (by omega) hS);have HK:=hI (fun(X:World) (hX:Bl W0 X) (hG:JGood j.p) (hl:st.length=j.tasks.length)=>keeps_any j st SA sc B X (HJ.o X hX).1 (by have:=hX.size;omega) hG hl (HJ.o X hX).2.sl);have HE:=hI (show kpErr j.p st=if jobErr j.p≠0 then jobErr j.p else if st.length=n then 0 else 1 by unfold kpErr;rw[j.nt,hn]);have HV:=hI (show kpV j.p st=(decide (kpErr j.p st=0)&&keepsV j.p st) from rfl);have hsm:=hst.small;have hsc:=hst.le;have hsc2:=hst.cap;have hnt:=hS.nt;have hlc:=hj.tl;have hc2:=hj.tc;rw[hn] at hlc hnt;have Hlen:=hI hst.len;have Hn:=hI hn;rw[hjv] at HC HK ⊢
 obtain⟨je,hje⟩:=eX (jobErr j.p);rw[hje] at HC HE;have Hje:=hI hje;have q0:=kC 0 (HX00.o W0 (zX _ _)) rfl;have q1:=kC 1 (HX00.o W0 (zX _ _)) rfl;clear hj hS hst hn hjv hje;go_enter Tryz.func21,Tryz.ntmps21;go_upto_region 1 with fail;rw[<- HW0.o];go_upto_region 2 with(go_at_call 37;refine HC.o.mono ?_;rintro e w1 ⟨rfl,hb1⟩;have hs1:=hb1.size;have Hb1:=hI hb1;clear hb1)
 clear q0 q1;have q0:=kC 0 (HX00.o w1 Hb1.o) rfl;have q1:=kC 1 (HX00.o w1 Hb1.o) rfl;cases h0:(je==0)
 ·have h0':(je != 0)=true:=by simp[bne,h0]
  have hne:je≠0:=fun h=>by rw[h] at h0;cases h0
  have H1:=hI (show kpErr j.p st=je by rw[HE.o,if_pos hne]);have H2:=hI (show kpV j.p st=false by rw[HV.o,H1.o,zE hne];rfl);clear hne;go_wp2;go_ret2;rw[H1.o,H2.o];exact⟨rfl,HU0.o _ Hb1.o⟩
 have h0':(je != 0)=false:=by simp[bne,h0]
 have HE1:=hI (show kpErr j.p st=if st.length=n then 0 else 1 by rw[HE.o,if_neg (fun h=>h (eq_of_beq h0))]);have HG:=hI (good_of (show jobErr j.p=0 by rw[Hje.o];exact eq_of_beq h0))
 by_cases hsn:sn=n
 ·have H1:=hI (show kpErr j.p st=0 by rw[HE1.o,if_pos (by rw[<- Hlen.o];exact hsn)]);have H2:=hI (show kpV j.p st=keepsV j.p st by rw[HV.o,H1.o];simp);have HK2:=hI (HK.o w1 Hb1.o HG.o (by rw[<- Hlen.o,Hn.o];exact hsn));rw[Hn.o] at HK2;subst hsn;go_wp2_with (go_at_call 69;refine HK2.o.mono ?_;rintro e w2 ⟨rfl,hb2⟩;have Hb2:=hI hb2;clear hb2);go_ret2;rw[H1.o,H2.o];exact⟨rfl,HU0.o _ (Hb1.o.trans (Hb2.o.mono (by omega)))⟩
 ·have H1:=hI (show kpErr j.p st=1 by rw[HE1.o,if_neg (by rw[<- Hlen.o];exact hsn)]);have H2:=hI (show kpV j.p st=false by rw[HV.o,H1.o];rfl);go_wp2;go_ret2;rw[H1.o,H2.o];exact⟨rfl,HU0.o _ Hb1.o⟩
theorem length_any (j:Job) (st:List Int) (SA:Option Addr) (sc B:Nat) (w:World) (hj:JIn w B j) (hB:B<=w.heap.size) (hG:JGood j.p) (hst:st.length=j.tasks.length) (hT:∀i,0<=st.getD i 0/\st.getD i 0<=100000) (hS:Sl w B 1 encInt1 SA st) :
  Calls Tryz.prog 102 #[jobV j,.slice SA j.tasks.length sc] w fun e w'=>e= .returned (.int .i64 (lenOf j.p st))/\Bl w w':=by
 obtain⟨n,hn⟩:=eX j.tasks.length;obtain⟨TA,hTA⟩:=eX j.TA;have hjv:jobV j= .agg #[.slice TA n j.tc,.slice j.RA j.res.length j.rc]:=by unfold jobV;rw[hn,hTA]
 rw[hn] at hst;rw[hjv,hn];obtain⟨W0,HW0,hs0,HB0,HX00,HU0⟩:=boxes1 w (.cells #[.slice TA n j.tc,.slice j.RA j.res.length j.rc] 25);have h64:n<=64:=by have:=hG.nt;rw[j.nt] at this;omega
 have hlc:=hj.tl;have hc2:=hj.tc;rw[hn] at hlc;have HJ:=hI (show ∀X:World,Bl W0 X->JIn X B j/\Sl X B 1 encInt1 SA st from fun X hX=>⟨hj.below ((HU0.o X hX).mono hB),hS.below ((HU0.o X hX).mono hB)⟩);have HG:=hI hG;have Hn:=hI hn;have HTA:=hI hTA;have Hst:=hI hst;have HT:=hI hT;have HL:=hI (show lenOf j.p st=lenTo j.p st n by unfold lenOf;rw[j.nt,hn]);have q0:=kC 0 (HX00.o W0 (zX _ _)) rfl;have hmx:=max_run Tryz.prog;clear hj hG hn hTA hjv hst hS hT;go_enter Tryz.func102,Tryz.ntmps102;go_upto_region 1 with fail;rw[<- HW0.o];go_wp2;clear q0;go_loopw [5,11] (fun v5 v11 wr=>∃i:Nat,i<=n/\v11= .int .i64 i/\v5= .int .i64 (lenTo j.p st i)/\Hid (Bl W0 wr)) (fun _ v11 _=>n-(intOf v11).toNat);case atStart=>exact⟨0,by omega,rfl,rfl,hI (zX _ _)⟩
 case round=>
  obtain⟨i,hi,rfl,rfl,Hb⟩:=hrel;have hsr:=Hb.o.size
  by_cases hlt:i<n
  ·have hil:i<j.tasks.length:=by have:=Hn.o;omega
   obtain⟨hjn,hsn⟩:=HJ.o wr Hb.o;obtain⟨tb,off,hTb,htb⟩:=hjn.ta (by omega);have hTe:TA=some ⟨tb,off,none⟩:=by rw[<- HTA.o];exact hTb
   subst hTe;obtain⟨ub,uoff,hue,hub,hcs⟩:=hsn (by have:=Hst.o;omega);subst hue
   have s0:wr.cell? ⟨ub,uoff+i,none⟩=some (.int .i64 (st.getD i 0)):=by
    have hks:i<st.length:=by have:=Hst.o;omega
    have h:=hcs i hks 0 _ rfl;rw[Nat.mul_one,Nat.add_zero] at h;rw[h,zA,zB hks]
    rfl
   obtain⟨c0,c1,c2,c3⟩:=hjn.tcells hTb hil;have htk:=HG.o.takes _ (j.Tp_mem hil);have hst9:=HT.o i;have hlb:=lenTo_le HG.o HT.o i (by rw[j.nt];omega);have HSn:=hI (show lenTo j.p st (i+1)=max (lenTo j.p st i) (st.getD i 0+(j.T i).p.takes) by rw[<- j.pT];rfl);generalize j.T i=t at c0 c1 c2 c3 htk HSn;generalize st.getD i 0=s at s0 hst9 HSn;generalize lenTo j.p st i=L at hlb HSn;obtain⟨tk,htk'⟩:=eX t.p.takes;rw[htk'] at c1 htk HSn;obtain⟨W4,hW4⟩:=eY (wr.alloc (.cells #[.string t.p.name,.int .i64 tk,.slice t.NA t.p.needs.length t.nc,.slice t.UA t.p.uses.length t.uc] 46));have HB4:=hI (show Bl W0 W4 by rw[hW4];exact Hb.o.alloc hsr _);have r1:W4.cell? ⟨wr.heap.size,1,none⟩=some (.int .i64 tk):=by rw[hW4];exact alloc_cell rfl
   have s1:W4.cell? ⟨ub,uoff+i,none⟩=some (.int .i64 s):=by rw[hW4];exact(World.cell?_alloc_lt _ _ _ (by simp;omega)).trans s0
   clear hjn hsn hcs hTb htk';go_upto_region 5 with fail;rw[<- hW4];clear hW4 c0 c1 c2 c3 s0
   go_quiet (fail)
   go_wp2;go_roundw;case rel=>exact⟨i+1,by omega,by go_num,by rw[HSn.o],hI (zO HB4.o _)⟩
   case measure=>simp[intOf];omega
  ·have HE:=hI (show lenOf j.p st=lenTo j.p st i by rw[HL.o,show n=i by omega]);go_wp2;go_ret;exact⟨ret_int HE.o.symm,HU0.o _ Hb.o⟩
theorem Length_any (j:Job) (st:List Int) (SA:Option Addr) (sn sc B:Nat) (w:World) (hj:JIn w B j) (hB:B<=w.heap.size) (hS:Slim j) (hst:StIn w B SA sn sc st) :
  Calls Tryz.prog 39 #[jobV j,.slice SA sn sc] w fun e w'=>e= .returned (.tuple #[.int .i64 (lnV j.p st),.int .i64 (lnErr j.p st)])/\Bl w w':=by
 have hjv:jobV j= .agg #[.slice j.TA j.tasks.length j.tc,.slice j.RA j.res.length j.rc]:=rfl;obtain⟨n,hn⟩:=eX j.tasks.length;rw[hn] at hjv;obtain⟨W0,HW0,hs0,HB0,HX00,HU0⟩:=boxes1 w (.cells #[.slice j.TA n j.tc,.slice j.RA j.res.length j.rc] 25);have HJ:=hI (show ∀X:World,Bl W0 X->JIn X B j/\StIn X B SA sn sc st from fun X hX=>⟨hj.below ((HU0.o X hX).mono hB),hst.below ((HU0.o X hX).mono hB)⟩);have HC:=hI (Keeps_any j st SA sn sc B W0 (HJ.o W0 (zX _ _)).1 (by omega) hS (HJ.o W0 (zX _ _)).2);have Hlen:=hI hst.len;have Hn:=hI hn;have HKV:=hI (show kpV j.p st=(decide (kpErr j.p st=0)&&keepsV j.p st) from rfl)
 have HL:=hI (fun(X:World) (hX:Bl W0 X) (hk:kpErr j.p st=0) (hv:keepsV j.p st=true)=>
  have hje:jobErr j.p=0:=by
   unfold kpErr at hk
   by_cases h:jobErr j.p=0
   ·exact h
   ·rw[if_pos h] at hk;exact absurd hk h
  have hl:st.length=j.tasks.length:=by
   unfold kpErr at hk;rw[if_neg (by simpa using hje)] at hk
   by_cases h:st.length=j.p.tasks.length
   ·rw[h,j.nt]
   ·rw[if_neg h] at hk;cases hk
  (⟨hl,length_any j st SA sc B X (HJ.o X hX).1 (by have:=hX.size;omega) (good_of hje) hl (keepsV_time (by rw[j.nt];exact hl) hv) (HJ.o X hX).2.sl⟩:st.length=j.tasks.length/\_))
 have HE:=hI (show lnErr j.p st=if kpErr j.p st≠0 then kpErr j.p st else if keepsV j.p st then 0 else 8 from rfl);have HV:=hI (show lnV j.p st=if lnErr j.p st=0 then lenOf j.p st else 0 from rfl);rw[hjv] at HC HL ⊢;have q0:=kC 0 (HX00.o W0 (zX _ _)) rfl;have q1:=kC 1 (HX00.o W0 (zX _ _)) rfl;clear hj hS hst hn hjv;go_enter Tryz.func39,Tryz.ntmps39;go_upto_region 1 with fail;rw[<- HW0.o];go_upto_region 2 with(go_at_call 21;refine HC.o.mono ?_;rintro e w1 ⟨rfl,hb1⟩;have hs1:=hb1.size;have Hb1:=hI hb1;clear hb1)
 clear q0 q1;have q0:=kC 0 (HX00.o w1 Hb1.o) rfl;have q1:=kC 1 (HX00.o w1 Hb1.o) rfl;cases h0:(kpErr j.p st==0)
 ·have h0':(kpErr j.p st != 0)=true:=by simp[bne,h0]
  have hne:kpErr j.p st≠0:=fun h=>by rw[h] at h0;cases h0
  have H1:=hI (show lnErr j.p st=kpErr j.p st by rw[HE.o,if_pos hne]);have H2:=hI (show lnV j.p st=0 by rw[HV.o,H1.o,if_neg hne]);clear hne;go_wp2;go_ret2;rw[H1.o,H2.o];exact⟨rfl,HU0.o _ Hb1.o⟩
 have h0':(kpErr j.p st != 0)=false:=by simp[bne,h0]
 have hk0:kpErr j.p st=0:=eq_of_beq h0;have Hk0:=hI hk0;have HE1:=hI (show lnErr j.p st=if keepsV j.p st then 0 else 8 by rw[HE.o,if_neg (fun h=>h hk0)]);have HKV2:=hI (show kpV j.p st=keepsV j.p st by rw[HKV.o,hk0];simp);rw[HKV2.o];cases hv:keepsV j.p st
 ·have H1:=hI (show lnErr j.p st=8 by rw[HE1.o,hv];rfl);have H2:=hI (show lnV j.p st=0 by rw[HV.o,H1.o];rfl);clear hk0;go_wp2;go_ret2;rw[H1.o,H2.o];exact⟨rfl,HU0.o _ Hb1.o⟩
 ·have H1:=hI (show lnErr j.p st=0 by rw[HE1.o,hv];rfl);have H2:=hI (show lnV j.p st=lenOf j.p st by rw[HV.o,H1.o];rfl);obtain⟨hl9,hL9⟩:=HL.o w1 Hb1.o hk0 hv;have hsn:sn=n:=by rw[Hlen.o,hl9,Hn.o]
  rw[Hn.o] at hL9;have HL2:=hI hL9;subst hsn;clear hk0 hl9 hL9;go_wp2_with (go_at_call 102;refine HL2.o.mono ?_;rintro e w2 ⟨rfl,hb2⟩;have Hb2:=hI hb2;clear hb2);go_ret2;rw[H1.o,H2.o];exact⟨rfl,HU0.o _ (Hb1.o.trans (Hb2.o.mono (by omega)))⟩
end Go.Proofs.YtjpgnfekbojcaaaGreat
