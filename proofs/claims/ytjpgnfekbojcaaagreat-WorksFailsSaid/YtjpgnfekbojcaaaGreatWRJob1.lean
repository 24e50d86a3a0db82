/- The specification's check of a resource. -/
import Derived.Test.YtjpgnfekbojcaaaGreatWTr2
set_option maxHeartbeats 8000000
set_option maxRecDepth 100000
namespace Go.Proofs.YtjpgnfekbojcaaaGreat
open Go.RowKit W7 W8
attribute [local go_sem] Oper.semAt_some
theorem refRes_any (r:Res) (B:Nat) (w:World) (hr:RsIn w B r) (hB:B<=w.heap.size) :
  Calls Tryz.prog 100 #[.agg #[.string r.p.name,.int .i64 r.p.many,.slice r.OA r.p.off.length r.oc]] w fun e w'=>e= .returned (.int .i64 (resErr1 r.p))/\Bl w w':=by
 obtain⟨n,hn⟩:=eX r.p.off.length;rw[hn];obtain⟨W0,HW0,hs0,HB0,HX00,HU0⟩:=boxes1 w (.cells #[.string r.p.name,.int .i64 r.p.many,.slice r.OA n r.oc] 43);have HO:=hI (show ∀X:World,Bl W0 X->Sl X B 2 encJSpan r.OA r.p.off from fun X hX=>hr.os.below ((HB0.o.mono hB).trans (hX.mono (by omega))));have Hn:=hI hn;have HR:=hI (show resErr1 r.p=(if withinB r.p.many 0 1000 then offErr r.p.off else 1) from rfl);have HF:=hI (show offErr r.p.off=(if 16<n then 3 else firstErr (spanErrAt r.p.off) n) by unfold offErr;rw[hn]);obtain⟨re,hre⟩:=eX (resErr1 r.p);rw[hre] at HR;rw[hre];obtain⟨mn,hmn⟩:=eX r.p.many;rw[hmn] at HX00 HW0 HR;rw[hmn];clear hr hn hre hmn;go_enter Tryz.func100,Tryz.ntmps100;go_upto_region 1 with fail;rw[<- HW0.o];have q0:=kC 0 (HX00.o W0 (zX _ _)) rfl;have q1:=kC 1 (HX00.o W0 (zX _ _)) rfl;have q2:=kC 2 (HX00.o W0 (zX _ _)) rfl;have HB1:=hI (HU0.o W0 (zX _ _));cases h1:decide (mn<0);rotate_left
 ·have HE:=hI (show re=1 by rw[HR.o,if_neg (fun h=>by have:=withinB_true.1 h;have:=zI h1;omega)]);go_wp2;go_ret;exact⟨by rw[HE.o];rfl,HB1.o⟩
 cases h2:decide (mn>1000);rotate_left
 ·have HE:=hI (show re=1 by rw[HR.o,if_neg (fun h=>by have:=withinB_true.1 h;have:=zI h2;omega)]);go_wp2;go_ret;exact⟨by rw[HE.o];rfl,HB1.o⟩
 have HR2:=hI (HR.o.trans (if_pos (withinB_true.2 (by have:=zH h1;have:=zH h2;omega))));cases h3:decide ((n:Int)>16);rotate_left
 ·have HE:=hI (show re=3 by rw[HR2.o,HF.o,if_pos (by have:=zI h3;omega)]);go_wp2;go_ret;exact⟨by rw[HE.o];rfl,HB1.o⟩
 have hn16:n<=16:=by have:=zH h3;omega
 have HR3:=hI (HR2.o.trans (HF.o.trans (if_neg (by omega))));clear HR HR2 HF;go_upto_region 6 with fail;clear q0 q1 q2 h1 h2 h3;go_loopw [3] (fun v3 wr=>∃i:Nat,i<=n/\v3= .int .i64 i/\Hid (firstErr (spanErrAt r.p.off) i=0)/\Hid (Bl W0 wr)) (fun v3 _=>n-(intOf v3).toNat);case atStart=>exact⟨0,by omega,rfl,hI rfl,hI (zX _ _)⟩
 case round=>
  obtain⟨i,hi,rfl,Hf,Hb⟩:=hrel;have hsr:=Hb.o.size;have hq:=HX00.o wr Hb.o;have q0:=kC 0 hq rfl;have q1:=kC 1 hq rfl;have q2:=kC 2 hq rfl
  by_cases hlt:i<n
  ·have hil:i<r.p.off.length:=by have:=Hn.o;omega
   obtain⟨b,off,hbe,hbB,hcells⟩:=HO.o wr Hb.o (by omega);rw[hbe] at q2;have c0:wr.cell? ⟨b,off+i*2,none⟩=some (.int .i64 (r.p.off.getD i default).lo):=by rw[getD_of hil];exact hcells i hil 0 _ rfl
   have c1:wr.cell? ⟨b,off+i*2+1,none⟩=some (.int .i64 (r.p.off.getD i default).hi):=by rw[getD_of hil];exact hcells i hil 1 _ rfl
   have HE0:=hI (show spanErrAt r.p.off i=(if isTm (r.p.off.getD i default).lo&&isTm (r.p.off.getD i default).hi&&decide ((r.p.off.getD i default).lo<=(r.p.off.getD i default).hi)&&(decide (i=0)||decide ((r.p.off.getD (i-1) default).hi<(r.p.off.getD i default).lo)) then 0 else 1) from rfl);have HC2:=hI (show 0<i->wr.cell? ⟨b,off+(i-1)*2+1,none⟩=some (.int .i64 (r.p.off.getD (i-1) default).hi) from fun h=>by rw[getD_of (show i-1<r.p.off.length by omega)];exact hcells (i-1) (by omega) 1 _ rfl);generalize (r.p.off.getD i default).lo=lo at c0 HE0;generalize (r.p.off.getD i default).hi=hi' at c1 HE0;generalize (r.p.off.getD (i-1) default).hi=ph at HC2 HE0;clear hcells;have hbw:b<wr.heap.size:=by omega
   go_upto_region 9 with fail;obtain⟨W2,hW2⟩:=eY (wr.alloc (.cells #[.int .i64 lo,.int .i64 hi'] 50));have hs2:wr.heap.size+1<=W2.heap.size:=by rw[hW2];simp
   have HB2:=hI (show Bl wr W2 by rw[hW2];exact(zX _ _).alloc (zm _) _);have hg2:W2.heap[wr.heap.size]? =some (.cells #[.int .i64 lo,.int .i64 hi'] 50 (0,0)):=by rw[hW2];exact zW _ _
   rw[<- hW2];clear hW2 c0 c1;have y0:=zV (kC 0 hg2 rfl) (by omega);have y1:=zV (kC 1 hg2 rfl) (by omega);have y2:=zV ((HB2.o.cell (p:=⟨w.heap.size,2,none⟩) (by show w.heap.size<wr.heap.size;omega)).trans q2) (by omega);have HBl0:=hI (show ∀X:World,Bl W2 X->Bl W0 X from fun X hX=>Hb.o.trans ((HB2.o.mono hsr).trans (hX.mono (by omega))));have HBl:=hI (show ∀X:World,Bl W2 X->Bl w X from fun X hX=>HU0.o X (HBl0.o X hX));clear q0 q1 q2 hq hg2
   have HBad:=hI (show spanErrAt r.p.off i=1->re=1 from fun h=>by
    rw[HR3.o,firstErr_at (k:=i) Hf.o (by rw[h];decide) hlt,h])
   have HGo:=hI (show spanErrAt r.p.off i=0->Hid (firstErr (spanErrAt r.p.off) (i+1)=0) from fun h=>hI (by rw[firstErr_succ Hf.o,h]));cases k1:isTm lo
   ·have HE:=hI (HBad.o (by rw[HE0.o,k1];rfl));refine wp_region_later (by kernel_rfl) (by kernel_rfl) ?_
    repeat (any_goals (first | go_big_quiet_step ((go_at_call 77;exact later_call_same _ (timed_any _ _))) | quiet_step ((go_at_call 77;exact later_call_same _ (timed_any _ _)))))
    refine wpQuiet_nil ?_;rintro w' ⟨e9,rfl⟩;have HB9:=hI (HBl.o _ e9.b);go_wp2;go_ret;exact⟨by rw[HE.o];rfl,HB9.o⟩
   cases k2:isTm hi'
   ·have HE:=hI (HBad.o (by rw[HE0.o,k1,k2];rfl));refine wp_region_later (by kernel_rfl) (by kernel_rfl) ?_
    repeat (any_goals (first | go_big_quiet_step ((go_at_call 77;exact later_call_same _ (timed_any _ _))) | quiet_step ((go_at_call 77;exact later_call_same _ (timed_any _ _)))))
    refine wpQuiet_nil ?_;rintro w' ⟨e9,rfl⟩;have HB9:=hI (HBl.o _ e9.b);go_wp2;go_ret;exact⟨by rw[HE.o];rfl,HB9.o⟩
   cases k3:decide (lo>hi');rotate_left
   ·have HE:=hI (HBad.o (by rw[HE0.o,k1,k2,zE (show ¬lo<=hi' by have:=zI k3;omega)];rfl));refine wp_region_later (by kernel_rfl) (by kernel_rfl) ?_
    repeat (any_goals (first | go_big_quiet_step ((go_at_call 77;exact later_call_same _ (timed_any _ _))) | quiet_step ((go_at_call 77;exact later_call_same _ (timed_any _ _)))))
    refine wpQuiet_nil ?_;rintro w' ⟨e9,rfl⟩;have HB9:=hI (HBl.o _ e9.b);go_wp2;go_ret;exact⟨by rw[HE.o];rfl,HB9.o⟩
   have k3':decide (lo<=hi')=true:=zD (by have:=zH k3;omega)
   by_cases hi0:0<i
   ·have c2:=HC2.o hi0;have y3:=zV ((HB2.o.cell (p:=⟨b,off+(i-1)*2+1,none⟩) hbw).trans c2) (by show b<W2.heap.size;omega);clear c2;cases k4:decide (lo<=ph);rotate_left
    ·have HE:=hI (HBad.o (by rw[HE0.o,k1,k2,k3',zE (show ¬i=0 by omega),zE (show ¬ph<lo by have:=zI k4;omega)];rfl));refine wp_region_later (by kernel_rfl) (by kernel_rfl) ?_
     repeat (any_goals (first | go_big_quiet_step ((go_at_call 77;exact later_call_same _ (timed_any _ _))) | quiet_step ((go_at_call 77;exact later_call_same _ (timed_any _ _)))))
     refine wpQuiet_nil ?_;rintro w' ⟨e9,rfl⟩;have HB9:=hI (HBl.o _ e9.b);go_wp2;go_ret;exact⟨by rw[HE.o];rfl,HB9.o⟩
    have HG:=hI (HGo.o (by rw[HE0.o,k1,k2,k3',zD (show ph<lo by have:=zH k4;omega),Bool.or_true];rfl)).out;refine wp_region_later (by kernel_rfl) (by kernel_rfl) ?_
    repeat (any_goals (first | go_big_quiet_step ((go_at_call 77;exact later_call_same _ (timed_any _ _))) | quiet_step ((go_at_call 77;exact later_call_same _ (timed_any _ _)))))
    refine wpQuiet_nil ?_;rintro w' ⟨e9,rfl⟩;have HB9:=hI (HBl0.o _ e9.b);go_wp2;go_roundw;case rel=>exact⟨i+1,by omega,by go_num,HG,HB9⟩
    case measure=>simp[intOf];omega
   ·have hi00:i=0:=by omega
    subst hi00;have HG:=hI (HGo.o (by rw[HE0.o,k1,k2,k3'];rfl)).out;refine wp_region_later (by kernel_rfl) (by kernel_rfl) ?_
    repeat (any_goals (first | go_big_quiet_step ((go_at_call 77;exact later_call_same _ (timed_any _ _))) | quiet_step ((go_at_call 77;exact later_call_same _ (timed_any _ _)))))
    refine wpQuiet_nil ?_;rintro w' ⟨e9,rfl⟩;have HB9:=hI (HBl0.o _ e9.b);go_wp2;go_roundw;case rel=>exact⟨0+1,by omega,by go_num,HG,HB9⟩
    case measure=>simp[intOf];omega
  ·have HE:=hI (show re=0 by
    rw[HR3.o,show n=i by omega];exact Hf.o)
   have HB9:=hI (HU0.o wr Hb.o);go_wp2;go_ret;exact⟨by rw[HE.o];rfl,HB9.o⟩
theorem any_not {α:Type} {P:α->Bool} {l:List α} {k:Nat} (hk:k<l.length) (h:(l.take k).any P=false) (h2:P l[k]=false):(l.take (k+1)).any P=false:=any_take_succ hk h h2
theorem any_yes {α:Type} {P:α->Bool} {l:List α} {k i:Nat} (hki:k<i) (hk:k<l.length) (h:P l[k]=true):(l.take i).any P=true:=List.any_eq_true.2 ⟨l[k],List.mem_take_iff_getElem.2 ⟨k,by omega,rfl⟩,h⟩
theorem refTask_any (j:Job) (x:Task) (B:Nat) (w:World) (hj:JIn w B j) (hx:TkIn w B x) (hB:B<=w.heap.size) (_htn:j.tasks.length<=1000000) (hrn:j.res.length<=1000000) :
  Calls Tryz.prog 101 #[jobV j,.agg #[.string x.p.name,.int .i64 x.p.takes,.slice x.NA x.p.needs.length x.nc,.slice x.UA x.p.uses.length x.uc]] w fun e w'=>e= .returned (.int .i64 (tskErr1 j.p x.p))/\Bl w w':=by
 obtain⟨nn,hnn⟩:=eX x.p.needs.length;obtain⟨un,hun⟩:=eX x.p.uses.length;obtain⟨tn,htl⟩:=eX j.tasks.length;obtain⟨rn,hrl⟩:=eX j.res.length;have hb1:=hx.nl;have hb2:=hx.nc;have hb3:=hx.ul;have hb4:=hx.uc;rw[hnn] at hb1;rw[hun] at hb3;rw[htl] at _htn;rw[hrl] at hrn;unfold jobV;rw[hnn,hun,htl,hrl];obtain⟨W0,HW0,hs0,HB0,HX00,HX01,HU0⟩:=boxes2 w (.cells #[.slice j.TA tn j.tc,.slice j.RA rn j.rc] 25) (.cells #[.string x.p.name,.int .i64 x.p.takes,.slice x.NA nn x.nc,.slice x.UA un x.uc] 46)
 have HN:=hI (show ∀X:World,Bl W0 X->Sl X B 1 encInt1 x.NA x.p.needs/\Sl X B 2 encUse x.UA x.p.uses/\Sl X B 3 encRes j.RA j.res from fun X hX=>by
  have h9:=(HB0.o.mono hB).trans (hX.mono (by omega));exact⟨hx.ns.below h9,hx.us.below h9,hj.rs.below h9⟩)
 have Hnn:=hI hnn;have Hun:=hI hun;have Hrl:=hI hrl;have HNe:=hI (show ∀i,needErrAt j.p.tasks.length x.p.needs i=(if withinB (x.p.needs.getD i default) 0 ((tn:Int)-1) then(if (x.p.needs.take i).any (fun z=>z==x.p.needs.getD i default) then 6 else 0) else 7) from fun i=>by unfold needErrAt;rw[j.nt,htl])
 have HUe:=hI (show ∀i,useErrAt j.p.res x.p.uses i=(if withinB (x.p.uses.getD i default).res 0 ((rn:Int)-1) then
  (if (x.p.uses.take i).any (fun z=>z.res==(x.p.uses.getD i default).res) then 6 else
   if withinB (x.p.uses.getD i default).many 1 1000 then(if (j.p.res.getD (x.p.uses.getD i default).res.toNat default).many<(x.p.uses.getD i default).many then 9 else 0) else 1) else 7) from fun i=>by unfold useErrAt;rw[j.nr,hrl])
 have HT:=hI (show tskErr1 j.p x.p=(if isTm x.p.takes then
  (if firstErr (needErrAt j.p.tasks.length x.p.needs) nn=0 then firstErr (useErrAt j.p.res x.p.uses) un
   else firstErr (needErrAt j.p.tasks.length x.p.needs) nn) else 1) by unfold tskErr1;rw[hnn,hun])
 obtain⟨te,hte⟩:=eX (tskErr1 j.p x.p);rw[hte] at HT ⊢;obtain⟨fN,hfN⟩:=eX (needErrAt j.p.tasks.length x.p.needs);obtain⟨fU,hfU⟩:=eX (useErrAt j.p.res x.p.uses);rw[hfN] at HT HNe;rw[hfU] at HT HUe;clear hj hx hnn hun htl hrl hte hfN hfU;go_enter Tryz.func101,Tryz.ntmps101;go_upto_region 1 with fail;rw[<- HW0.o];have HB1:=hI (HU0.o W0 (zX _ _));have t0:=kC 0 (HX01.o W0 (zX _ _)) rfl;have t1:=kC 1 (HX01.o W0 (zX _ _)) rfl;have t2:=kC 2 (HX01.o W0 (zX _ _)) rfl;have t3:=kC 3 (HX01.o W0 (zX _ _)) rfl;cases ht:isTm x.p.takes
 ·have HE:=hI (show te=1 by rw[HT.o,ht];rfl);go_wp2_with (go_at_call 77;refine(timed_any _ _).mono ?_;rintro e w' ⟨rfl,rfl⟩);go_ret;exact⟨by rw[HE.o];rfl,HB1.o⟩
 have HT2:=hI (show te=(if firstErr fN nn=0 then firstErr fU un else firstErr fN nn) by rw[HT.o,ht];rfl);go_upto_region 4 with(go_at_call 77;refine(timed_any _ _).mono ?_;rintro e w' ⟨rfl,rfl⟩)
 clear t0 t1 t2 t3 HT ht;go_loopw [5] (fun v5 wr=>∃i:Nat,i<=nn/\v5= .int .i64 i/\Hid (firstErr fN i=0)/\Hid (Bl W0 wr)) (fun v5 _=>nn-(intOf v5).toNat);case atStart=>exact⟨0,by omega,rfl,hI rfl,hI (zX _ _)⟩
 case round=>
  obtain⟨i,hi,rfl,Hf,Hb⟩:=hrel;have hsr:=Hb.o.size;have t0:=kC 0 (HX01.o wr Hb.o) rfl;have t1:=kC 1 (HX01.o wr Hb.o) rfl;have t2:=kC 2 (HX01.o wr Hb.o) rfl;have t3:=kC 3 (HX01.o wr Hb.o) rfl;have q0:=kC 0 (HX00.o wr Hb.o) rfl;have q1:=kC 1 (HX00.o wr Hb.o) rfl
  by_cases hlt:i<nn
  ·have hil:i<x.p.needs.length:=by have:=Hnn.o;omega
   obtain⟨b,off,hbe,hbB,hcells⟩:=(HN.o wr Hb.o).1 (by omega);rw[hbe] at t2;have hbw:b<wr.heap.size:=by omega
   have c0:wr.cell? ⟨b,off+i,none⟩=some (.int .i64 (x.p.needs.getD i default)):=by rw[getD_of hil];have h:=hcells i hil 0 _ rfl;rwa [Nat.mul_one,Nat.add_zero] at h
   have HCl:=hI (show ∀k (hk:k<x.p.needs.length),wr.cell? ⟨b,off+k,none⟩=some (.int .i64 x.p.needs[k]) from fun k hk=>by have h:=hcells k hk 0 _ rfl;rwa [Nat.mul_one,Nat.add_zero] at h);have HE0:=hI (HNe.o i);obtain⟨v,hv⟩:=eX (x.p.needs.getD i default);rw[hv] at c0 HE0
   have HEnd:=hI (fun(e:Int) (h:fN i=e) (h0:e≠0)=>show te=e by
    have h1:firstErr fN nn=e:=by rw[firstErr_at Hf.o (by rw[h];exact h0) hlt,h]
    rw[HT2.o,h1,if_neg h0])
   clear hv hcells;have HU:=hI (fun n9=>HU0.o _ (zO Hb.o n9));cases h1:decide (v<0);rotate_left
   ·have He:=hI (HEnd.o 7 (by rw[HE0.o,if_neg (fun h=>by have:=withinB_true.1 h;have:=zI h1;omega)]) (by decide));go_wp2
    go_quiet (fail)
    go_wp2;go_ret;exact⟨ret_int He.o.symm,HU.o _⟩
   cases h2:decide (v>=(tn:Int));rotate_left
   ·have He:=hI (HEnd.o 7 (by rw[HE0.o,if_neg (fun h=>by have:=withinB_true.1 h;have:=zI h2;omega)]) (by decide));go_wp2
    go_quiet (fail)
    go_wp2;go_ret;exact⟨ret_int He.o.symm,HU.o _⟩
   have HE1:=hI (HE0.o.trans (if_pos (withinB_true.2 (by have:=zH h1;have:=zH h2;omega))));go_wp2
   go_quiet (fail)
   have HbQ:=hI (zO (B:=W0.heap.size) Hb.o nq);have HbR:=hI (zO (B:=wr.heap.size) (zX _ wr) nq);have Hc0:=hI c0;have Hbe:=hI hbe;clear h1 h2 t0 t1 t2 t3 q0 q1 c0 HU hbe;go_upto_region 9 with fail;go_loopw [6] (fun v6 wx=>∃k:Nat,k<=i/\v6= .int .i64 k/\Hid ((x.p.needs.take k).any (fun z=>z==v)=false)/\Hid (Bl wr wx)) (fun v6 _=>i-(intOf v6).toNat);case atStart=>exact⟨0,by omega,rfl,hI (by simp),HbR⟩
   case round=>
    obtain⟨k,hk,rfl,Hno,Hb2⟩:=hrel;obtain⟨wx,hwx⟩:=eY wr;subst hwx;have hsz2:=Hb2.o.size;have HbT:=hI (Hb.o.trans (Hb2.o.mono hsr));have t0:=kC 0 (HX01.o wx HbT.o) rfl;have t1:=kC 1 (HX01.o wx HbT.o) rfl;have t2:=kC 2 (HX01.o wx HbT.o) rfl;have t3:=kC 3 (HX01.o wx HbT.o) rfl;rw[Hbe.o] at t2;have ci:wx.cell? ⟨b,off+i,none⟩=some (.int .i64 v):=(Hb2.o.cell (p:=⟨b,off+i,none⟩) hbw).trans Hc0.o
    by_cases hlk:k<i
    ·have hkl:k<x.p.needs.length:=by omega
     have ck:wx.cell? ⟨b,off+k,none⟩=some (.int .i64 x.p.needs[k]):=(Hb2.o.cell (p:=⟨b,off+k,none⟩) hbw).trans (HCl.o k hkl);have HN9:=hI (any_not (P:=fun z=>z==v) hkl Hno.o);have HH:=hI (fun h=>any_yes (P:=fun z=>z==v) hlk hkl h);generalize x.p.needs[k]=y at ck HN9 HH;cases he:(y==v)
     ·have HN2:=hI (HN9.o he);go_wp2
      go_quiet (fail)
      go_wp2;go_roundw;case rel=>exact⟨k+1,by omega,by go_num,HN2,hI (zO Hb2.o _)⟩
      case measure=>simp[intOf];omega
     ·have He:=hI (HEnd.o 6 (by rw[HE1.o,if_pos (HH.o he)]) (by decide));have HbD:=hI (fun n9=>HU0.o _ (zO HbT.o n9));go_wp2
      go_quiet (fail)
      go_wp2;go_ret;exact⟨ret_int He.o.symm,HbD.o _⟩
    ·obtain rfl:k=i:=by omega
     have HF2:=hI (show firstErr fN (k+1)=0 by rw[firstErr_succ Hf.o,HE1.o,if_neg (by rw[Hno.o];decide)]);go_wp2;go_roundw;case rel=>exact⟨k+1,by omega,by go_num,HF2,HbT⟩
     case measure=>simp[intOf];omega
  ·have HFN:=hI (show firstErr fN nn=0 by rw[show nn=i by omega];exact Hf.o);have HT3:=hI (HT2.o.trans (if_pos HFN.o));have Hb0:=hI Hb.o;clear Hf HT2;go_upto_region 14 with fail;clear t0 t1 t2 t3 q0 q1 Hb;go_loopw [7] (fun v7 wy=>∃i2:Nat,i2<=un/\v7= .int .i64 i2/\Hid (firstErr fU i2=0)/\Hid (Bl W0 wy)) (fun v7 _=>un-(intOf v7).toNat);case atStart=>exact⟨0,by omega,rfl,hI rfl,Hb0⟩
   case round=>
    obtain⟨i2,hi2,rfl,Hf,Hb⟩:=hrel;obtain⟨wy,hwy⟩:=eY wr;subst hwy;have hsy:=Hb.o.size;have t0:=kC 0 (HX01.o wy Hb.o) rfl;have t1:=kC 1 (HX01.o wy Hb.o) rfl;have t2:=kC 2 (HX01.o wy Hb.o) rfl;have t3:=kC 3 (HX01.o wy Hb.o) rfl
    by_cases hlt2:i2<un
    ·have hil:i2<x.p.uses.length:=by have:=Hun.o;omega
     obtain⟨b,off,hbe,hbB,hcells⟩:=(HN.o wy Hb.o).2.1 (by omega);rw[hbe] at t3;have hbw:b<wy.heap.size:=by omega
     have c0:wy.cell? ⟨b,off+i2*2,none⟩=some (.int .i64 (x.p.uses.getD i2 default).res):=by rw[getD_of hil];exact hcells i2 hil 0 _ rfl
     have c1:wy.cell? ⟨b,off+i2*2+1,none⟩=some (.int .i64 (x.p.uses.getD i2 default).many):=by rw[getD_of hil];exact hcells i2 hil 1 _ rfl
     have HCl:=hI (show ∀k (hk:k<x.p.uses.length),wy.cell? ⟨b,off+k*2,none⟩=some (.int .i64 x.p.uses[k].res) from fun k hk=>hcells k hk 0 _ rfl);have HE0:=hI (HUe.o i2);obtain⟨ur,hur⟩:=eX ((x.p.uses.getD i2 default).res);obtain⟨um,hum⟩:=eX ((x.p.uses.getD i2 default).many);rw[hur,hum] at HE0;rw[hur] at c0;rw[hum] at c1
     have HEnd:=hI (fun(e:Int) (h:fU i2=e) (h0:e≠0)=>show te=e by
      rw[HT3.o,firstErr_at Hf.o (by rw[h];exact h0) hlt2,h])
     have Hbe:=hI hbe;clear hur hum hcells hbe;go_upto_region 17 with fail;obtain⟨W2,hW2⟩:=eY (wy.alloc (.cells #[.int .i64 ur,.int .i64 um] 48));have hs2:wy.heap.size+1<=W2.heap.size:=by rw[hW2];simp
     have HB2:=hI (show Bl wy W2 by rw[hW2];exact(zX _ _).alloc (zm _) _);have Hg2:=hI (show W2.heap[wy.heap.size]? =some (.cells #[.int .i64 ur,.int .i64 um] 48 (0,0)) by rw[hW2];exact zW _ _);rw[<- hW2];clear hW2 c0 c1 t0 t1 t2 t3;have HbW:=hI (Hb.o.trans (HB2.o.mono hsy));have HUW:=hI (HU0.o W2 HbW.o);have q0:=kC 0 (HX00.o W2 HbW.o) rfl;have q1:=kC 1 (HX00.o W2 HbW.o) rfl;have k0:=kC 0 Hg2.o rfl;have k1:=kC 1 Hg2.o rfl;cases h1:decide (ur<0);rotate_left
     ·have He:=hI (HEnd.o 7 (by rw[HE0.o,if_neg (fun h=>by have:=withinB_true.1 h;have:=zI h1;omega)]) (by decide));go_wp2;go_ret;exact⟨ret_int He.o.symm,HUW.o⟩
     cases h2:decide (ur>=(rn:Int));rotate_left
     ·have He:=hI (HEnd.o 7 (by rw[HE0.o,if_neg (fun h=>by have:=withinB_true.1 h;have:=zI h2;omega)]) (by decide));go_wp2;go_ret;exact⟨ret_int He.o.symm,HUW.o⟩
     have hu1:=zH h1;have hu2:=zH h2;have HE1:=hI (HE0.o.trans (if_pos (withinB_true.2 (by omega))));go_upto_region 20 with fail;clear h1 h2 q0 q1 k0 k1;go_loopw [9] (fun v9 wx=>∃k:Nat,k<=i2/\v9= .int .i64 k/\Hid ((x.p.uses.take k).any (fun z=>z.res==ur)=false)/\Hid (Bl W2 wx)) (fun v9 _=>i2-(intOf v9).toNat);case atStart=>exact⟨0,by omega,rfl,hI (by simp),hI (zX _ _)⟩
     case round=>
      obtain⟨k,hk,rfl,Hno,Hb2⟩:=hrel;obtain⟨wx,hwx⟩:=eY wr;subst hwx;have hsz2:=Hb2.o.size;have HbT:=hI (HbW.o.trans (Hb2.o.mono (by omega)));have HbY:=hI (HB2.o.trans (Hb2.o.mono (by omega)));have t0:=kC 0 (HX01.o wx HbT.o) rfl;have t1:=kC 1 (HX01.o wx HbT.o) rfl;have t2:=kC 2 (HX01.o wx HbT.o) rfl;have t3:=kC 3 (HX01.o wx HbT.o) rfl;have q0:=kC 0 (HX00.o wx HbT.o) rfl;have q1:=kC 1 (HX00.o wx HbT.o) rfl;rw[Hbe.o] at t3;have hg3:=(Hb2.o.block _ (blk_lt Hg2.o)).trans Hg2.o;have k0:=kC 0 hg3 rfl;have k1:=kC 1 hg3 rfl;clear hg3
      by_cases hlk:k<i2
      ·have hkl:k<x.p.uses.length:=by omega
       have ck:wx.cell? ⟨b,off+k*2,none⟩=some (.int .i64 x.p.uses[k].res):=(HbY.o.cell (p:=⟨b,off+k*2,none⟩) hbw).trans (HCl.o k hkl);have HN9:=hI (any_not (P:=fun z:JUse=>z.res==ur) hkl Hno.o);have HH:=hI (fun h=>any_yes (P:=fun z:JUse=>z.res==ur) hlk hkl h);generalize x.p.uses[k]=y at ck HN9 HH;obtain⟨y1,y2⟩:=y;dsimp only at ck;cases he:(y1==ur)
       ·have HN2:=hI (HN9.o he);go_wp2
        go_quiet (fail)
        go_wp2;go_roundw;case rel=>exact⟨k+1,by omega,by go_num,HN2,hI (zO Hb2.o _)⟩
        case measure=>simp[intOf];omega
       ·have He:=hI (HEnd.o 6 (by rw[HE1.o,if_pos (HH.o he)]) (by decide));have HbD:=hI (fun n9=>HU0.o _ (zO HbT.o n9));go_wp2
        go_quiet (fail)
        go_wp2;go_ret;exact⟨ret_int He.o.symm,HbD.o _⟩
      ·obtain rfl:k=i2:=by omega
       have HE2:=hI (HE1.o.trans (if_neg (by rw[Hno.o];decide)));have HUT:=hI (HU0.o _ HbT.o);cases h3:decide (um<1);rotate_left
       ·have He:=hI (HEnd.o 1 (by rw[HE2.o,if_neg (fun h=>by have:=withinB_true.1 h;have:=zI h3;omega)]) (by decide));go_wp2;go_ret;exact⟨ret_int He.o.symm,HUT.o⟩
       cases h4:decide (um>1000);rotate_left
       ·have He:=hI (HEnd.o 1 (by rw[HE2.o,if_neg (fun h=>by have:=withinB_true.1 h;have:=zI h4;omega)]) (by decide));go_wp2;go_ret;exact⟨ret_int He.o.symm,HUT.o⟩
       have HE3:=hI (HE2.o.trans (if_pos (withinB_true.2 (by have:=zH h3;have:=zH h4;omega))));obtain⟨m,hm⟩:∃m:Nat,ur=(m:Int):=⟨ur.toNat,by omega⟩
       subst hm;have hmr:m<j.res.length:=by have:=Hrl.o;omega
       obtain⟨rb,ro,hre,hrB,hrc⟩:=(HN.o wx HbT.o).2.2 (by omega);rw[hre] at q1;have cm:wx.cell? ⟨rb,ro+m*3+1,none⟩=some (.int .i64 (j.p.res.getD m default).many):=by rw[j.rs hmr];exact hrc m hmr 1 _ rfl
       rw[show((m:Int)).toNat=m from rfl] at HE3;generalize (j.p.res.getD m default).many=rm at cm HE3;clear hrc hre;cases h5:decide (um>rm);rotate_left
       ·have He:=hI (HEnd.o 9 (by rw[HE3.o,if_pos (zI h5)]) (by decide));have HbD:=hI (fun n9=>HU0.o _ (zO HbT.o n9));go_wp2
        go_quiet (fail)
        go_wp2;go_ret;exact⟨ret_int He.o.symm,HbD.o _⟩
       ·have HF2:=hI (show firstErr fU (k+1)=0 by rw[firstErr_succ Hf.o,HE3.o,if_neg (by have:=zH h5;omega)]);go_wp2
        go_quiet (fail)
        go_wp2;go_roundw;case rel=>exact⟨k+1,by omega,by go_num,HF2,hI (zO HbT.o _)⟩
        case measure=>simp[intOf];omega
    ·have He:=hI (show te=0 by rw[HT3.o,show un=i2 by omega];exact Hf.o);have HUT:=hI (HU0.o _ Hb.o);go_wp2;go_ret;exact⟨ret_int He.o.symm,HUT.o⟩
end Go.Proofs.YtjpgnfekbojcaaaGreat
