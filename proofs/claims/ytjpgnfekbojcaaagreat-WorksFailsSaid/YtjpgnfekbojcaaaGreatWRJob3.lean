/- The specification's order of tasks: which stand ready,and the tasks sorted. -/
import Derived.Test.YtjpgnfekbojcaaaGreatWRJob1
import Derived.Test.YtjpgnfekbojcaaaGreatWJob8
import Derived.Test.YtjpgnfekbojcaaaGreatWChk4
set_option maxHeartbeats 8000000
set_option maxRecDepth 100000
namespace Go.Proofs.YtjpgnfekbojcaaaGreat
open Go.RowKit W7 W8
attribute [local go_sem] Oper.semAt_some
theorem refReady_any (x:Task) (pl:List Bool) (pb n B:Nat) (w:World) (hx:TkIn w B x) (hB:B<=w.heap.size) (hp:w.heap[pb]? =some (.cells (pl.map Value.bool).toArray 4 (0,0))) (hn:pl.length=n) (hk:∀k∈x.p.needs,0<=k/\k<(n:Int)) :
  Calls Tryz.prog 135 #[.agg #[.string x.p.name,.int .i64 x.p.takes,.slice x.NA x.p.needs.length x.nc,.slice x.UA x.p.uses.length x.uc],.slice (some ⟨pb,0,none⟩) n n] w fun e w'=>e= .returned (.bool (standB pl x.p.needs))/\Bl w w':=by
 obtain⟨nn,hnn⟩:=eX x.p.needs.length;have hb1:=hx.nl;have hb2:=hx.nc;rw[hnn] at hb1;rw[hnn];obtain⟨W0,HW0,hs0,HB0,HX00,HU0⟩:=boxes1 w (.cells #[.string x.p.name,.int .i64 x.p.takes,.slice x.NA nn x.nc,.slice x.UA x.p.uses.length x.uc] 46);have hpb:=blk_lt hp
 have HN:=hI (show ∀X:World,Bl W0 X->Sl X B 1 encInt1 x.NA x.p.needs/\X.heap[pb]? =some (.cells (pl.map Value.bool).toArray 4 (0,0)) from fun X hX=>
  ⟨hx.ns.below ((HB0.o.mono hB).trans (hX.mono (by omega))),((HB0.o.trans (hX.mono (by omega))).block pb hpb).trans hp⟩)
 have Hnn:=hI hnn;have Hn:=hI hn;have Hk:=hI hk;have HS:=hI (show standB pl x.p.needs=x.p.needs.all (fun k=>pl.getD k.toNat false) from rfl);obtain⟨sb,hsb⟩:=eX (standB pl x.p.needs);rw[hsb] at HS ⊢;clear hx hp hn hk hnn hsb;go_enter Tryz.func135,Tryz.ntmps135;go_upto_region 2 with fail;rw[<- HW0.o];go_loopw [5] (fun v5 wr=>∃i:Nat,i<=nn/\v5= .int .i64 i/\Hid ((x.p.needs.take i).all (fun k=>pl.getD k.toNat false)=true)/\Hid (Bl W0 wr)) (fun v5 _=>nn-(intOf v5).toNat);case atStart=>exact⟨0,by omega,rfl,hI (by simp),hI (zX _ _)⟩
 case round=>
  obtain⟨i,hi,rfl,Ha,Hb⟩:=hrel;have hsr:=Hb.o.size;have t0:=kC 0 (HX00.o wr Hb.o) rfl;have t1:=kC 1 (HX00.o wr Hb.o) rfl;have t2:=kC 2 (HX00.o wr Hb.o) rfl;have t3:=kC 3 (HX00.o wr Hb.o) rfl
  by_cases hlt:i<nn
  ·have hil:i<x.p.needs.length:=by have:=Hnn.o;omega
   obtain⟨b,off,hbe,hbB,hcells⟩:=(HN.o wr Hb.o).1 (by omega);rw[hbe] at t2;have c0:wr.cell? ⟨b,off+i,none⟩=some (.int .i64 x.p.needs[i]):=by have h:=hcells i hil 0 _ rfl;rwa [Nat.mul_one,Nat.add_zero] at h
   have hv:=Hk.o _ (zC hil);have Hal:=hI (show(x.p.needs.take (i+1)).all (fun k=>pl.getD k.toNat false)=pl.getD (x.p.needs[i]).toNat false by rw[zK hil,List.all_append,Ha.o];simp)
   have Hno:=hI (show pl.getD (x.p.needs[i]).toNat false=false->sb=false from fun h=>by
    rw[HS.o,Bool.eq_false_iff];intro ha;rw[List.all_eq_true] at ha;rw[ha _ (zC hil)] at h;cases h)
   generalize x.p.needs[i]=v at c0 hv Hal Hno;obtain⟨m,hm⟩:∃m:Nat,v=(m:Int):=⟨v.toNat,by omega⟩
   subst hm;have hmn:m<n:=by omega
   rw[show((m:Int)).toNat=m from rfl] at Hal Hno;have cm:wr.cell? ⟨pb,m,none⟩=some (.bool (pl.getD m false)):=bc (HN.o wr Hb.o).2 (map_getD (by have:=Hn.o;omega));generalize pl.getD m false=bm at cm Hal Hno;clear hcells hbe;cases bm
   ·have HE:=hI (Hno.o rfl);have HU:=hI (HU0.o wr Hb.o);go_wp2;go_ret;exact⟨ret_bool HE.o.symm,HU.o⟩
   ·go_wp2;go_roundw;case rel=>exact⟨i+1,by omega,by go_num,Hal,Hb⟩
    case measure=>simp[intOf];omega
  ·have HE:=hI (show sb=true by
    rw[HS.o];have h1:=Ha.o
    rwa [zG (by have:=Hnn.o;omega)] at h1)
   have HU:=hI (HU0.o wr Hb.o);go_wp2;go_ret;exact⟨ret_bool HE.o.symm,HU.o⟩
def LastMay (j:JobP) (pl:List Bool) (n q:Nat) (e:Int):Prop:=
 (e= -1/\∀k,q<=k->k<n->mayB j pl k=false)\/∃k:Nat,e=(k:Int)/\k<n/\q<=k/\mayB j pl k=true/\∀k',q<=k'->k'<k->mayB j pl k'=false
theorem LastMay.skip {j:JobP} {pl:List Bool} {n q:Nat} {e:Int} (h:LastMay j pl n (q+1) e) (h2:mayB j pl q=false):LastMay j pl n q e:=by
 rcases h with⟨h3,h4⟩ | ⟨k,h3,h4,h5,h6,h7⟩
 ·refine .inl ⟨h3,fun k hk1 hk2=> ?_⟩
  by_cases e9:k=q
  ·rw[e9];exact h2
  ·exact h4 k (by omega) hk2
 ·refine .inr ⟨k,h3,h4,by omega,h6,fun k' hk1 hk2=> ?_⟩
  by_cases e9:k'=q
  ·rw[e9];exact h2
  ·exact h7 k' (by omega) hk2
theorem LastMay.hit {j:JobP} {pl:List Bool} {n q:Nat} (hq:q<n) (h2:mayB j pl q=true):LastMay j pl n q (q:Int):= .inr ⟨q,rfl,hq,zm _,h2,fun k' h3 h4=>by omega⟩
theorem any_range_false {P:Nat->Bool} {n:Nat} (h:∀k,k<n->P k=false):(List.range n).any P=false:=by
 rw[List.any_eq_false];intro k hk;rw[h k (List.mem_range.1 hk)]
 decide
theorem refSorted_any (j:Job) (B:Nat) (w:World) (hj:JIn w B j) (hB:B<=w.heap.size) (hnt:j.tasks.length<=64) (hnd:∀t∈j.tasks,∀k∈t.p.needs,0<=k/\k<j.tasks.length) :
  Calls Tryz.prog 96 #[jobV j] w fun e w'=>∃v,e= .returned v/\w'.ownsRow w.heap.size 3 1 v (ordV j.p).length ((ordV j.p).map (Value.int .i64))/\Bl w w':=by
 obtain⟨n,hn⟩:=eX j.tasks.length;obtain⟨TA,hTA⟩:=eX j.TA;have hjv:jobV j= .agg #[.slice TA n j.tc,.slice j.RA j.res.length j.rc]:=by unfold jobV;rw[hn,hTA]
 rw[hjv];obtain⟨W0,HW0,hs0,HB0,HX00,HU0⟩:=boxes1 w (.cells #[.slice TA n j.tc,.slice j.RA j.res.length j.rc] 25);have hlc:=hj.tl;have hc2:=hj.tc;rw[hn] at hlc hnt;have HJ:=hI (show ∀X:World,Bl W0 X->JIn X B j from fun X hX=>hj.below ((HU0.o X hX).mono hB));have Hn:=hI hn;have HTA:=hI hTA;have Hnd:=hI hnd;obtain⟨i2,hi2,hi2a,hi2b,hi2c⟩:=info_parts (show(Tryz.prog.info? 4).map (fun i=>(i.zero,i.size,i.bytes))=some (some (.bool false),1,1) by kernel_rfl);have q0:=kC 0 (HX00.o W0 (zX _ _)) rfl;clear hj hn hTA hnd hjv;go_enter Tryz.func96,Tryz.ntmps96;go_upto_region 1 with fail;rw[<- HW0.o]
 go_wp2_with (at_make;refine wpList_make_full _ rfl _ _ 113 rfl W0.heap.size 4 _ (.bool false) 1 Tryz.underlying113 hi2 hi2a hi2b .i64 .i64 _ _ n rfl rfl rfl rfl (by rw[hi2c];omega) (by unfold maxLen;omega) (zm _) ?_;intro w1 hown1 hg1;have Hb1:=hI ((zX W0.heap.size W0).grown hg1 (zm _) (fun k hk=>by cases hk));have Hn1:=hI (made_blk (zm _) hown1);clear hown1 hg1);have hs1:=Hb1.o.size
 have HP1:=hI (show w1.heap[w.heap.size+1]? =some (.cells ((List.replicate n false).map Value.bool).toArray 4 (0,0)) by
  have h:=Hn1.o.2;rw[hs0] at h;rw[List.map_replicate];exact h)
 have HOV:=hI (show ordGo j.p (notPl (List.replicate n false)) (List.replicate n false) []=ordV j.p by unfold ordV notPl;rw[j.nt,Hn.o,List.count_replicate];simp);have hpw:w.heap.size+1<w1.heap.size:=blk_lt HP1.o;clear q0 Hn1;go_loopw [4] (fun v4 wr=>∃(pl:List Bool) (out:List Int),pl.length=n/\Hid (out.length+notPl pl=n)/\lenV v4=out.length/\Hid (wr.heap[w.heap.size+1]? =some (.cells (pl.map Value.bool).toArray 4 (0,0)))/\Hid (wr.ownsRow w1.heap.size 3 1 v4 out.length (out.map (Value.int .i64)))/\Hid (Bl W0 wr)/\Hid (w1.heap.size<=wr.heap.size)/\Hid (ordGo j.p (notPl pl) pl out=ordV j.p)) (fun v4 _=>n+1-lenV v4);case atStart=>exact⟨List.replicate n false,[],by simp,hI (by simp[notPl]),rfl,HP1,hI (zU _ _ _ _),Hb1,hI (zm _),HOV⟩
 case round=>
  obtain⟨pl,out,hpl,Hon,hlv,HP,Ho,Hb,Hs,HO⟩:=hrel;have hss:=Hs.o;have q0:=kC 0 (HX00.o wr Hb.o) rfl;have HBw:=hI (show ∀X:World,Bl wr X->X.heap[w.heap.size+1]? =some (.cells (pl.map Value.bool).toArray 4 (0,0)) from fun X hX=>(hX.block _ (by omega)).trans HP.o);have HUw:=hI (show ∀X:World,Bl wr X->Bl W0 X from fun X hX=>Hb.o.trans (hX.mono (by omega)));obtain⟨wa,hwa⟩:=eY wr;subst hwa;go_wp2;clear q0;go_loopw [5,6] (fun v5 v6 wr=>∃(q:Nat) (e:Int),q<=n/\v6= .int .i64 ((q:Int)-1)/\v5= .int .i64 e/\(-1<=e/\e<=64)/\Hid (LastMay j.p pl n q e)/\Hid (Bl wa wr)) (fun _ v6 _=>(intOf v6+1).toNat);case atStart=>exact⟨n, -1,by omega,rfl,rfl,by omega,hI (.inl ⟨rfl,fun k h1 h2=>by omega⟩),hI (zX _ _)⟩
  case round=>
   obtain⟨q,e,hq,rfl,rfl,he64,HL,Hb2⟩:=hrel;have hsr2:=Hb2.o.size;cases q with
   | zero=>
    rcases HL.o with⟨he,hno⟩ | ⟨k,hek,hkn,_,hmay,hbef⟩
    ·subst he;have HE:=hI (show out=ordV j.p by rw[<- HO.o];exact(ordGo_full _ (no_may_none (by rw[j.nt,Hn.o];exact any_range_false (fun k hk=>hno k (Nat.zero_le _) hk)))).symm);clear hno;go_wp2;go_ret;refine⟨_,rfl,?_,HU0.o _ (HUw.o _ Hb2.o)⟩;rw[<- HE.o];exact own_mono (own_below Ho.o Hb2.o) (by omega)
    ·subst hek;have hfm:firstMay j.p pl=some k:=may_first (by rw[j.nt,Hn.o];exact hkn) (any_range_false (fun k' h=>hbef k' (Nat.zero_le _) h)) hmay;have hpi:=(firstMay_lt hfm).2;have hns:=notPl_set (pl:=pl) (k:=k) (by omega) hpi;have HOn:=hI (show ordGo j.p (notPl (pl.set k true)) (pl.set k true) (out++[(k:Int)])=ordV j.p by rw[<- HO.o,<-hns];exact(firstMay_some hfm).symm);have Hns2:=hI hns;clear hfm hpi hns hmay hbef;have g1:=HBw.o wr Hb2.o;have f1:=W7.bf (j:=k) g1;have x1:wr.cell? ⟨w.heap.size+1,k,none⟩=some (.bool (pl.getD k false)):=bc g1 (map_getD (by omega));obtain⟨X1,hX1⟩:=eY (wr.setCell ⟨w.heap.size+1,k,none⟩ (.bool true));have hsX:wr.heap.size<=X1.heap.size:=by rw[hX1];simp[World.setCell]
     have HP3:=hI (show X1.heap[w.heap.size+1]? =some (.cells ((pl.set k true).map Value.bool).toArray 4 (0,0)) by rw[hX1,blk_set g1];simp[List.map_set]);have HO1:=hI (show X1.ownsRow w1.heap.size 3 1 u4 out.length (out.map (Value.int .i64)) by rw[hX1];exact own_setK (own_below Ho.o Hb2.o) g1 (by decide) _);have HB1:=hI (show Bl W0 X1 by rw[hX1];exact(HUw.o _ Hb2.o).setCell (p:=⟨w.heap.size+1,k,none⟩) (by simp;omega) _);go_upto_region 12 with fail;rw[<- hX1];clear hX1 g1 x1 f1;go_wp2_with (at_builtin;refine wpList_append1 rfl _ _ 26 rfl w1.heap.size 3 _ 1 8 elemI _ _ _ rfl HO1.o #[.int .i64 (k:Int)] 1 _ rfl (by simp) rfl (by simp[Value.oneCell']) (by have:=Hon.o;omega) (by omega) ?_;intro v6 w6 hown6 hb6 hsz6 hg6 hblk6;have Ho6:=hI hown6;have Hb6:=hI hb6;have hs6:=hsz6;clear hown6 hb6 hsz6 hg6 hblk6);go_roundw
     case rel=>
      refine⟨pl.set k true,out++[(k:Int)],by simp[hpl],hI (by have:=Hon.o;have:=Hns2.o;simp;omega),?_,hI ((Hb6.o.block _ (by omega)).trans HP3.o),hI (by rw[zF,List.map_append];exact Ho6.o),hI (HB1.o.trans (Hb6.o.mono (by omega))),hI (by omega),HOn⟩;obtain⟨A9,c9,e9,_,_⟩:=own_cap' Ho6.o;rw[e9];simp[lenV]
     case measure=>
      obtain⟨A9,c9,e9,_,_⟩:=own_cap' Ho6.o;rw[e9,hlv];have:=Hon.o;have:=Hns2.o;simp[lenV];omega
   | succ i=>
    have hq1:((i+1:Nat):Int)-1=(i:Int):=by omega
    rw[hq1];clear hq1;have hil:i<j.tasks.length:=by have:=Hn.o;omega
    have hjn:=HJ.o wr (HUw.o _ Hb2.o);obtain⟨tb,off,hTb,htb⟩:=hjn.ta (by omega);have hTe:TA=some ⟨tb,off,none⟩:=by rw[<- HTA.o];exact hTb
    subst hTe;obtain⟨c0,c1,c2,c3⟩:=hjn.tcells hTb hil;have HM:=hI (show mayB j.p pl i=(!pl.getD i false&&standB pl (j.T i).p.needs) by unfold mayB;rw[j.pT]);have HSk:=hI (fun h=>HL.o.skip (q:=i) h);have HHi:=hI (fun h=>LastMay.hit (j:=j.p) (pl:=pl) (n:=n) (q:=i) (by omega) h);have g1:=HBw.o wr Hb2.o;have x1:wr.cell? ⟨w.heap.size+1,i,none⟩=some (.bool (pl.getD i false)):=bc g1 (map_getD (by omega));have HC:=hI (refReady_any (j.T i) pl (w.heap.size+1) n B wr (hjn.tks _ (j.T_mem hil)) (by omega) g1 hpl (fun k hk=>by have h9:=Hnd.o _ (j.T_mem hil) k hk;have:=Hn.o;omega));generalize j.T i=t at c0 c1 c2 c3 HM HC;obtain⟨NA,hNA⟩:=eX t.NA;obtain⟨nn,hnn'⟩:=eX t.p.needs.length;rw[hNA,hnn'] at c2;rw[hNA,hnn'] at HC;generalize standB pl t.p.needs=sb at HC HM;generalize pl.getD i false=pi at x1 HM;have q0:=kC 0 (HX00.o wr (HUw.o _ Hb2.o)) rfl;clear hjn hTb htb hNA hnn' g1 hil;cases pi
    ·cases sb
     ·have HV:=hI (HSk.o (by rw[HM.o];rfl));go_wp2_with (go_at_call 135;refine HC.o.mono ?_;rintro e w5 ⟨rfl,hb5⟩;have Hb5:=hI (Hb2.o.trans (hb5.mono (by omega)));clear hb5);go_roundw;case rel=>exact⟨i,e,by omega,rfl,rfl,he64,HV,Hb5⟩
      case measure=>simp[intOf]
     ·have HV:=hI (HHi.o (by rw[HM.o];rfl));go_wp2_with (go_at_call 135;refine HC.o.mono ?_;rintro e w5 ⟨rfl,hb5⟩;have Hb5:=hI (Hb2.o.trans (hb5.mono (by omega)));clear hb5);go_roundw;case rel=>exact⟨i,(i:Int),by omega,rfl,rfl,by omega,HV,Hb5⟩
      case measure=>simp[intOf]
    ·have HV:=hI (HSk.o (by rw[HM.o];rfl));go_wp2;go_roundw;case rel=>exact⟨i,e,by omega,rfl,rfl,he64,HV,Hb2⟩
     case measure=>simp[intOf]
theorem res_at (j:Job) {k:Nat} (hk:k<j.p.res.length):j.p.res[k]=(j.R k).p:=by rw[<- j.pR,getD_of hk]
theorem tsk_at (j:Job) {k:Nat} (hk:k<j.p.tasks.length):j.p.tasks[k]=(j.T k).p:=by rw[<- j.pT,getD_of hk]
theorem ordGo_len {j:JobP}:∀(f:Nat) (pl:List Bool) (out:List Int),(ordGo j f pl out).length<=out.length+f
 | 0,pl,out=>zm _
 | f+1,pl,out=>by
  unfold ordGo;cases hm:firstMay j pl with
  | none=>show out.length<=_;omega
  | some k=>
   have h:=ordGo_len (j:=j) f (pl.set k true) (out++[(k:Int)]);rw[zF] at h
   show(ordGo j f (pl.set k true) (out++[(k:Int)])).length<=_
   simp at h;omega
theorem refCheck_any (j:Job) (B:Nat) (w:World) (hj:JIn w B j) (hB:B<=w.heap.size) :
  Calls Tryz.prog 38 #[jobV j] w fun e w'=>e= .returned (.int .i64 (jobErr j.p))/\Bl w w':=by
 obtain⟨n,hn⟩:=eX j.tasks.length;obtain⟨m,hm⟩:=eX j.res.length;have hjv:jobV j= .agg #[.slice j.TA n j.tc,.slice j.RA m j.rc]:=by unfold jobV;rw[hn,hm]
 rw[hjv];obtain⟨W0,HW0,hs0,HB0,HX00,HU0⟩:=boxes1 w (.cells #[.slice j.TA n j.tc,.slice j.RA m j.rc] 25);have hb1:=hj.tl;have hb2:=hj.tc;have hb3:=hj.rl;have hb4:=hj.rc;rw[hn] at hb1;rw[hm] at hb3;have HJ:=hI (show ∀X:World,Bl W0 X->JIn X B j from fun X hX=>hj.below ((HU0.o X hX).mono hB));have Hn:=hI hn;have Hm:=hI hm;have Hjv:=hI hjv;have HE:=hI (show jobErr j.p=(if ressErr j.p.res≠0 then ressErr j.p.res else if 64<n then 3 else if tsksErr j.p≠0 then tsksErr j.p else if (ordV j.p).length<n then 11 else 0) by unfold jobErr;rw[j.nt,hn]);have HR:=hI (show ressErr j.p.res=(if 16<m then 3 else firstErr (resErrAt j.p.res) m) by unfold ressErr;rw[j.nr,hm]);have HTs:=hI (show tsksErr j.p=firstErr (tskErrAt j.p) n by unfold tsksErr;rw[j.nt,hn]);obtain⟨je,hje⟩:=eX (jobErr j.p);rw[hje] at HE ⊢;clear hj hn hm hjv hje;go_enter Tryz.func38,Tryz.ntmps38;go_upto_region 1 with fail;rw[<- HW0.o]
 have q0:=kC 0 (HX00.o W0 (zX _ _)) rfl;have q1:=kC 1 (HX00.o W0 (zX _ _)) rfl;cases h16:decide ((m:Int)>16);rotate_left
 ·have He:=hI (show je=3 by rw[HE.o,HR.o,if_pos (show 16<m by have:=zI h16;omega),if_pos (by decide)]);have HU:=hI (HU0.o W0 (zX _ _));go_wp2;go_ret;exact⟨ret_int He.o.symm,HU.o⟩
 have hm16:m<=16:=by have:=zH h16;omega
 have HR2:=hI (HR.o.trans (if_neg (by omega)));go_upto_region 4 with fail;clear q0 q1 h16 HR;go_loopw [3] (fun v3 wr=>∃i:Nat,i<=m/\v3= .int .i64 i/\Hid (firstErr (resErrAt j.p.res) i=0)/\Hid (Bl W0 wr)) (fun v3 _=>m-(intOf v3).toNat);case atStart=>exact⟨0,by omega,rfl,hI rfl,hI (zX _ _)⟩
 case round=>
  obtain⟨i,hi,rfl,Hf,Hb⟩:=hrel;obtain⟨wl,hwl⟩:=eY wr;subst hwl;have hsz:=Hb.o.size;have q0:=kC 0 (HX00.o wl Hb.o) rfl;have q1:=kC 1 (HX00.o wl Hb.o) rfl
  by_cases hlt:i<m
  ·have hil:i<j.res.length:=by have:=Hm.o;omega
   have hjn:=HJ.o wl Hb.o;obtain⟨tb,off,hRA,htb⟩:=hjn.ra (by omega);rw[hRA] at q1;have HRC:=hI (show ∀X:World,Bl wl X->∀k,k<j.res.length->X.cell? ⟨tb,off+k*3,none⟩=some (.string (j.R k).p.name)/\X.cell? ⟨tb,off+k*3+1,none⟩=some (.int .i64 (j.R k).p.many)/\X.cell? ⟨tb,off+k*3+2,none⟩=some (.slice (j.R k).OA (j.R k).p.off.length (j.R k).oc) from fun X hX k hk=>(HJ.o X (Hb.o.trans (hX.mono hsz))).rcells hRA hk);have HU1:=hI (show resErrAt j.p.res i=(if nameB (j.R i).p.name then(if (j.p.res.take i).any (fun x=>strEq x.name (j.R i).p.name) then 6 else resErr1 (j.R i).p) else 5) by unfold resErrAt;rw[j.pR]);have HRi:=hI (hjn.rss _ (j.R_mem hil));have hnm:=HRi.o.nm
   have HEnd:=hI (fun(e:Int) (h:resErrAt j.p.res i=e) (h0:e≠0)=>show je=e by
    have h1:ressErr j.p.res=e:=by rw[HR2.o,firstErr_at Hf.o (by rw[h];exact h0) hlt,h]
    rw[HE.o,h1,if_pos h0])
   obtain⟨x0,_,_⟩:=HRC.o wl (zX _ _) i hil;have HRc:=hI (fun X hX=>HRC.o X hX i hil);have HRA:=hI hRA;obtain⟨rs,hrs⟩:=eY (j.R i);rw[<- hrs] at HU1 HRi hnm x0 HRc;clear hjn hRA hrs;have HUl:=hI (HU0.o wl Hb.o);cases hN:nameB rs.p.name
   ·have He:=hI (HEnd.o 5 (by rw[HU1.o,hN];rfl) (by decide));go_wp2_with (go_at_call 99;refine(refName_any rs.p.name hnm _).mono ?_;rintro e w' ⟨rfl,rfl⟩);go_ret;exact⟨ret_int He.o.symm,HUl.o⟩
   have HU2:=hI (show resErrAt j.p.res i=(if (j.p.res.take i).any (fun x=>strEq x.name rs.p.name) then 6 else resErr1 rs.p) by rw[HU1.o,hN];rfl);go_upto_region 9 with(go_at_call 99;refine(refName_any rs.p.name hnm _).mono ?_;rintro e w' ⟨rfl,rfl⟩)
   clear q0 q1 x0 hN;go_loopw [4] (fun v4 wx=>∃k:Nat,k<=i/\v4= .int .i64 k/\Hid ((j.p.res.take k).any (fun x=>strEq x.name rs.p.name)=false)/\Hid (Bl wl wx)) (fun v4 _=>i-(intOf v4).toNat);case atStart=>exact⟨0,by omega,rfl,hI (by simp),hI (zX _ _)⟩
   case round=>
    obtain⟨k,hk,rfl,Hno,Hb2⟩:=hrel;have hsz2:=Hb2.o.size;have HbT:=hI (Hb.o.trans (Hb2.o.mono hsz));have q0:=kC 0 (HX00.o wr HbT.o) rfl;have q1:=kC 1 (HX00.o wr HbT.o) rfl;rw[HRA.o] at q1;obtain⟨x0,x1,x2⟩:=HRc.o wr Hb2.o
    by_cases hlk:k<i
    ·have hkl:k<j.res.length:=by omega
     have hkp:k<j.p.res.length:=by rw[j.nr];exact hkl
     obtain⟨c0,_,_⟩:=HRC.o wr Hb2.o k hkl;have HN9:=hI (show((j.R k).p.name.toList==rs.p.name.toList)=false->(j.p.res.take (k+1)).any (fun x=>strEq x.name rs.p.name)=false from fun h=>any_not (P:=fun x:ResP=>strEq x.name rs.p.name) hkp Hno.o (by rw[res_at j hkp];exact h));have HH:=hI (show((j.R k).p.name.toList==rs.p.name.toList)=true->(j.p.res.take i).any (fun x=>strEq x.name rs.p.name)=true from fun h=>any_yes (P:=fun x:ResP=>strEq x.name rs.p.name) hlk hkp (by rw[res_at j hkp];exact h));generalize (j.R k).p.name=y at c0 HN9 HH;cases he:(y.toList==rs.p.name.toList)
     ·have HN2:=hI (HN9.o he);go_wp2
      go_quiet (fail)
      go_wp2;go_roundw;case rel=>exact⟨k+1,by omega,by go_num,HN2,hI (zO Hb2.o _)⟩
      case measure=>simp[intOf];omega
     ·have He:=hI (HEnd.o 6 (by rw[HU2.o,if_pos (HH.o he)]) (by decide));have HbD:=hI (fun n9=>HU0.o _ (zO HbT.o n9));go_wp2
      go_quiet (fail)
      go_wp2;go_ret;exact⟨ret_int He.o.symm,HbD.o _⟩
    ·obtain rfl:k=i:=by omega
     have HE3:=hI (HU2.o.trans (if_neg (by rw[Hno.o];decide)));have HCq:=hI (refRes_any rs wl.heap.size wr ((HRi.o.mono (by omega)).below Hb2.o) (by omega));generalize resErr1 rs.p=qe at HE3 HCq;cases hqz:(qe==0)
     ·have hqz':(qe != 0)=true:=by simp[bne,hqz]
      have He:=hI (HEnd.o qe HE3.o (fun h=>by rw[h] at hqz;cases hqz));go_wp2_with (go_at_call 100;refine HCq.o.mono ?_;rintro e w5 ⟨rfl,hb5⟩;have Hb5:=hI (HbT.o.trans (hb5.mono (by omega)));clear hb5);go_ret;exact⟨ret_int He.o.symm,HU0.o _ Hb5.o⟩
     ·have hqz':(qe != 0)=false:=by simp[bne,hqz]
      have HF2:=hI (show firstErr (resErrAt j.p.res) (k+1)=0 by rw[firstErr_succ Hf.o,HE3.o];exact eq_of_beq hqz);go_wp2_with (go_at_call 100;refine HCq.o.mono ?_;rintro e w5 ⟨rfl,hb5⟩;have Hb5:=hI (HbT.o.trans (hb5.mono (by omega)));clear hb5);go_roundw;case rel=>exact⟨k+1,by omega,by go_num,HF2,Hb5⟩
      case measure=>simp[intOf];omega
  ·have HRz:=hI (show ressErr j.p.res=0 by rw[HR2.o,show m=i by omega];exact Hf.o);have HE2:=hI (HE.o.trans (if_neg (by rw[HRz.o];decide)));go_upto_region 16 with fail;cases h64:decide ((n:Int)>64);rotate_left
   ·have He:=hI (show je=3 by rw[HE2.o,if_pos (by have:=zI h64;omega)]);have HU:=hI (HU0.o wl Hb.o);go_wp2;go_ret;exact⟨ret_int He.o.symm,HU.o⟩
   have hn64:n<=64:=by have:=zH h64;omega
   have HE4:=hI (HE2.o.trans (if_neg (by omega)));have Hb0:=hI Hb.o;clear Hf HE HE2 HR2;go_upto_region 19 with fail;clear q0 q1 Hb h64 hsz;go_loopw [6] (fun v6 wy=>∃i:Nat,i<=n/\v6= .int .i64 i/\Hid (firstErr (tskErrAt j.p) i=0)/\Hid (Bl W0 wy)) (fun v6 _=>n-(intOf v6).toNat);case atStart=>exact⟨0,by omega,rfl,hI rfl,Hb0⟩
   case round=>
    obtain⟨i,hi,rfl,Hf,Hb⟩:=hrel;obtain⟨wl,hwl⟩:=eY wr;subst hwl;have hsz:=Hb.o.size;have q0:=kC 0 (HX00.o wl Hb.o) rfl;have q1:=kC 1 (HX00.o wl Hb.o) rfl
    by_cases hlt:i<n
    ·have hil:i<j.tasks.length:=by have:=Hn.o;omega
     have hjn:=HJ.o wl Hb.o;obtain⟨tb,off,hTA,htb⟩:=hjn.ta (by omega);rw[hTA] at q0;have HTC:=hI (show ∀X:World,Bl wl X->∀k,k<j.tasks.length->X.cell? ⟨tb,off+k*4,none⟩=some (.string (j.T k).p.name)/\X.cell? ⟨tb,off+k*4+1,none⟩=some (.int .i64 (j.T k).p.takes)/\X.cell? ⟨tb,off+k*4+2,none⟩=some (.slice (j.T k).NA (j.T k).p.needs.length (j.T k).nc)/\X.cell? ⟨tb,off+k*4+3,none⟩=some (.slice (j.T k).UA (j.T k).p.uses.length (j.T k).uc) from fun X hX k hk=>(HJ.o X (Hb.o.trans (hX.mono hsz))).tcells hTA hk);have HU1:=hI (show tskErrAt j.p i=(if nameB (j.T i).p.name then(if (j.p.tasks.take i).any (fun x=>strEq x.name (j.T i).p.name) then 6 else tskErr1 j.p (j.T i).p) else 5) by unfold tskErrAt;rw[j.pT]);have HTi:=hI (hjn.tks _ (j.T_mem hil));have hnm:=HTi.o.nm
     have HEnd:=hI (fun(e:Int) (h:tskErrAt j.p i=e) (h0:e≠0)=>show je=e by
      have h1:tsksErr j.p=e:=by rw[HTs.o,firstErr_at Hf.o (by rw[h];exact h0) hlt,h]
      rw[HE4.o,h1,if_pos h0])
     obtain⟨x0,_,_,_⟩:=HTC.o wl (zX _ _) i hil;have HTc:=hI (fun X hX=>HTC.o X hX i hil);have HTA:=hI hTA;obtain⟨tk,htk⟩:=eY (j.T i);rw[<- htk] at HU1 HTi hnm x0 HTc;clear hjn hTA htk;have HUl:=hI (HU0.o wl Hb.o);cases hN:nameB tk.p.name
     ·have He:=hI (HEnd.o 5 (by rw[HU1.o,hN];rfl) (by decide));go_wp2_with (go_at_call 99;refine(refName_any tk.p.name hnm _).mono ?_;rintro e w' ⟨rfl,rfl⟩);go_ret;exact⟨ret_int He.o.symm,HUl.o⟩
     have HU2:=hI (show tskErrAt j.p i=(if (j.p.tasks.take i).any (fun x=>strEq x.name tk.p.name) then 6 else tskErr1 j.p tk.p) by rw[HU1.o,hN];rfl);go_upto_region 24 with(go_at_call 99;refine(refName_any tk.p.name hnm _).mono ?_;rintro e w' ⟨rfl,rfl⟩)
     clear q0 q1 x0 hN;go_loopw [7] (fun v7 wx=>∃k:Nat,k<=i/\v7= .int .i64 k/\Hid ((j.p.tasks.take k).any (fun x=>strEq x.name tk.p.name)=false)/\Hid (Bl wl wx)) (fun v7 _=>i-(intOf v7).toNat);case atStart=>exact⟨0,by omega,rfl,hI (by simp),hI (zX _ _)⟩
     case round=>
      obtain⟨k,hk,rfl,Hno,Hb2⟩:=hrel;have hsz2:=Hb2.o.size;have HbT:=hI (Hb.o.trans (Hb2.o.mono hsz));have q0:=kC 0 (HX00.o wr HbT.o) rfl;have q1:=kC 1 (HX00.o wr HbT.o) rfl;rw[HTA.o] at q0;obtain⟨x0,x1,x2,x3⟩:=HTc.o wr Hb2.o
      by_cases hlk:k<i
      ·have hkl:k<j.tasks.length:=by omega
       have hkp:k<j.p.tasks.length:=by rw[j.nt];exact hkl
       obtain⟨c0,_,_,_⟩:=HTC.o wr Hb2.o k hkl;have HN9:=hI (show((j.T k).p.name.toList==tk.p.name.toList)=false->(j.p.tasks.take (k+1)).any (fun x=>strEq x.name tk.p.name)=false from fun h=>any_not (P:=fun x:TaskP=>strEq x.name tk.p.name) hkp Hno.o (by rw[tsk_at j hkp];exact h));have HH:=hI (show((j.T k).p.name.toList==tk.p.name.toList)=true->(j.p.tasks.take i).any (fun x=>strEq x.name tk.p.name)=true from fun h=>any_yes (P:=fun x:TaskP=>strEq x.name tk.p.name) hlk hkp (by rw[tsk_at j hkp];exact h));generalize (j.T k).p.name=y at c0 HN9 HH;cases he:(y.toList==tk.p.name.toList)
       ·have HN2:=hI (HN9.o he);go_wp2
        go_quiet (fail)
        go_wp2;go_roundw;case rel=>exact⟨k+1,by omega,by go_num,HN2,hI (zO Hb2.o _)⟩
        case measure=>simp[intOf];omega
       ·have He:=hI (HEnd.o 6 (by rw[HU2.o,if_pos (HH.o he)]) (by decide));have HbD:=hI (fun n9=>HU0.o _ (zO HbT.o n9));go_wp2
        go_quiet (fail)
        go_wp2;go_ret;exact⟨ret_int He.o.symm,HbD.o _⟩
      ·obtain rfl:k=i:=by omega
       have HE3:=hI (HU2.o.trans (if_neg (by rw[Hno.o];decide)));have HCq:=hI (fun e:Later wr=>refTask_any j tk B e.w (HJ.o e.w (HbT.o.trans (e.b.mono (by omega)))) (HTi.o.below (Below.trans (Hb2.o.mono (by omega)) (e.b.mono (by omega)))) (by have:=e.b.size;omega) (by have:=Hn.o;omega) (by have:=Hm.o;omega));rw[Hjv.o,HTA.o] at HCq;generalize tskErr1 j.p tk.p=qe at HE3 HCq;have y0:=zV q0 (by omega);have y1:=zV q1 (by omega);have z0:=zV x0 (by omega);have z1:=zV x1 (by omega);have z2:=zV x2 (by omega);have z3:=zV x3 (by omega);clear q0 q1 x0 x1 x2 x3;cases hqz:(qe==0)
       ·have hqz':(qe != 0)=true:=by simp[bne,hqz]
        have He:=hI (HEnd.o qe HE3.o (fun h=>by rw[h] at hqz;cases hqz));go_upto_region 28 with fail;refine wp_region_later (by kernel_rfl) (by kernel_rfl) ?_
        repeat (any_goals (first | go_big_quiet_step ((go_at_call 101;exact later_call _ (HCq.o _))) | quiet_step ((go_at_call 101;exact later_call _ (HCq.o _)))))
        refine wpQuiet_nil ?_;rintro w' ⟨e8,rfl⟩;have Hb5:=hI (HbT.o.trans (e8.b.mono (by omega)));go_wp2;go_ret;exact⟨ret_int He.o.symm,HU0.o _ Hb5.o⟩
       ·have hqz':(qe != 0)=false:=by simp[bne,hqz]
        have HF2:=hI (show firstErr (tskErrAt j.p) (k+1)=0 by rw[firstErr_succ Hf.o,HE3.o];exact eq_of_beq hqz);go_upto_region 28 with fail;refine wp_region_later (by kernel_rfl) (by kernel_rfl) ?_
        repeat (any_goals (first | go_big_quiet_step ((go_at_call 101;exact later_call _ (HCq.o _))) | quiet_step ((go_at_call 101;exact later_call _ (HCq.o _)))))
        refine wpQuiet_nil ?_;rintro w' ⟨e8,rfl⟩;have Hb5:=hI (HbT.o.trans (e8.b.mono (by omega)));go_wp2;go_roundw;case rel=>exact⟨k+1,by omega,by go_num,HF2,Hb5⟩
        case measure=>simp[intOf];omega
    ·have HTz:=hI (show tsksErr j.p=0 by rw[HTs.o,show n=i by omega];exact Hf.o);have HE5:=hI (HE4.o.trans (if_neg (by rw[HTz.o];decide)));have hgd:=good_of0 (j:=j.p) HRz.o (by rw[j.nt,Hn.o];omega) HTz.o;have Hgd:=hI (task_good hgd)
     have Hlen:=hI (show(ordV j.p).length<=n by
      have h9:=ordGo_len (j:=j.p) j.p.tasks.length (List.replicate j.p.tasks.length false) [];unfold ordV;rw[j.nt,Hn.o] at h9 ⊢
      simpa using h9)
     have HSo:=hI (show ∀X:World,Bl wl X->Calls Tryz.prog 96 #[.agg #[.slice j.TA n j.tc,.slice j.RA m j.rc]] X fun e w'=>∃v,e= .returned v/\w'.ownsRow X.heap.size 3 1 v (ordV j.p).length ((ordV j.p).map (Value.int .i64))/\Bl X w' from fun X hX=>by
      have h9:=refSorted_any j B X (HJ.o X (Hb.o.trans (hX.mono hsz))) (by have:=hX.size;omega) (by rw[Hn.o];exact hn64) (fun t ht=>Hgd.o t ht)
      rwa [Hjv.o] at h9)
     obtain⟨ln,hln⟩:=eX ((ordV j.p).length);rw[hln] at HSo HE5 Hlen;have hq:=HX00.o wl Hb.o;have y0:=zV (kC 0 hq rfl) (by omega);have y1:=zV (kC 1 hq rfl) (by omega);clear hgd hln hq Hf;go_upto_region 31 with fail;clear q0 q1;obtain⟨C,hC⟩:∃C:(Nat->Bool)->(Nat->Value)->World->Prop,C=fun L V w'=>∃e:Later wl,w'=e.w/\(L 0=true->V 0= .agg #[.slice j.TA n j.tc,.slice j.RA m j.rc])/\(L 1=true->Hid (∃A9 c9,V 1= .slice A9 ln c9))/\(L 2=true->V 2= .int .i64 (ln:Int))/\(L 3=true->V 3= .pointer (some ⟨w.heap.size,0,none⟩))/\(L 4=true->V 4= .slice j.TA n j.tc)/\(L 5=true->V 5= .int .i64 (n:Int))/\(L 6=true->V 6= .bool ((ln:Int) != (n:Int))):=⟨_,rfl⟩
     have HC:=hI hC;clear hC;refine wp_region_opsA [102,103,104,105,106,107,108] C (by kernel_rfl) (by kernel_rfl) (by decide) (by kernel_rfl) (by kernel_rfl) ?_ ?_ ?_
     ·rw[HC.o];exact⟨⟨_,(zX wl.heap.size wl).drew⟩,rfl,nff,nff,nff,nff,nff,nff,nff⟩
     ·rintro L V w' ii o AA hii ho hLi haf hInv hAA hFF;rw[HC.o] at hInv;obtain⟨e,rfl,h0,h1,h2,h3,h4,h5,h6⟩:=hInv;rcases ii with _ | _ | _ | _ | _ | _ | _ | ii;case succ.succ.succ.succ.succ.succ.succ=>(simp at hii;try omega)
      all_goals (simp only[zR,zS,Option.some.injEq] at ho;subst ho)
      all_goals clear hii
      ·have f1:AA.tmps[1]?.getD undef= .pointer (some ⟨w.heap.size,0,none⟩):=hFF.out 1 (by decide);go_wp2;rw[HC.o];exact⟨_,rfl,e,rfl,fun _=>rfl,h1,h2,h3,h4,h5,h6⟩
      ·have a0:=(hAA.out 0 102 rfl).trans (h0 (haf ⟨0,.data⟩ (by simp) rfl));go_wp2_with (go_at_call 96;refine(HSo.o e.w e.b).mono ?_;rintro r w2 ⟨v,rfl,ho2,hb2⟩;have Hx2:=hI (And.intro (own_cap' ho2) hb2);clear ho2 hb2);rw[HC.o];obtain⟨A9,c9,hv9,_,_⟩:=Hx2.o.1;exact⟨_,rfl,⟨w2,e.b.trans (Hx2.o.2.mono e.b.size)⟩,rfl,h0,fun _=>hI ⟨A9,c9,hv9⟩,h2,h3,h4,h5,h6⟩
      ·obtain⟨A9,c9,hv9⟩:=(h1 (haf ⟨1,.data⟩ (by simp) rfl)).out;have a1:=(hAA.out 1 103 rfl).trans hv9;clear hv9;go_wp2;rw[HC.o];exact⟨_,rfl,e,rfl,h0,h1,fun _=>rfl,h3,h4,h5,h6⟩
      ·have f1:AA.tmps[1]?.getD undef= .pointer (some ⟨w.heap.size,0,none⟩):=hFF.out 1 (by decide);go_wp2;rw[HC.o];exact⟨_,rfl,e,rfl,h0,h1,h2,fun _=>rfl,h4,h5,h6⟩
      ·have a3:=(hAA.out 3 105 rfl).trans (h3 (haf ⟨3,.data⟩ (by simp) rfl));go_wp2;rw[HC.o];exact⟨_,rfl,e,rfl,h0,h1,h2,h3,fun _=>rfl,h5,h6⟩
      ·have a4:=(hAA.out 4 106 rfl).trans (h4 (haf ⟨4,.data⟩ (by simp) rfl));go_wp2;rw[HC.o];exact⟨_,rfl,e,rfl,h0,h1,h2,h3,h4,fun _=>rfl,h6⟩
      ·have a2:=(hAA.out 2 104 rfl).trans (h2 (haf ⟨2,.data⟩ (by simp) rfl));have a5:=(hAA.out 5 107 rfl).trans (h5 (haf ⟨5,.data⟩ (by simp) rfl));go_wp2;rw[HC.o];exact⟨_,rfl,e,rfl,h0,h1,h2,h3,h4,h5,fun _=>rfl⟩
     ·rintro L V w' hL hInv;rw[HC.o] at hInv;obtain⟨e,rfl,h0,h1,h2,h3,h4,h5,h6⟩:=hInv;have k6:=h6 (hL 6 (by simp));have HBe:=hI (HU0.o _ (Hb.o.trans (e.b.mono hsz)));simp only[putAll];rw[k6];clear h0 h1 h2 h3 h4 h5 h6 k6 hL y0 y1;go_frame;cases hl9:((ln:Int) != (n:Int))
      ·have He:=hI (show je=0 by
        have h9:(ln:Int)=n:=by simpa [bne] using hl9
        rw[HE5.o,if_neg (by omega)])
       go_wp2;go_ret;exact⟨ret_int He.o.symm,HBe.o⟩
      ·have He:=hI (show je=11 by
        have h9: ¬(ln:Int)=n:=by simpa [bne] using hl9
        rw[HE5.o,if_pos (by have:=Hlen.o;omega)])
       go_wp2;go_ret;exact⟨ret_int He.o.symm,HBe.o⟩
end Go.Proofs.YtjpgnfekbojcaaaGreat
