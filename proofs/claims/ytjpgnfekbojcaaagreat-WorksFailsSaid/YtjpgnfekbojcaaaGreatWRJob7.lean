/- The specification's test whether a task may start at a time. -/
import Derived.Test.YtjpgnfekbojcaaaGreatWFCl
set_option maxHeartbeats 8000000
set_option maxRecDepth 100000
namespace W8
open W7
def needFits (j:JobP) (b:Bd) (s:Int) (q:Int):Bool:= !(b.pl.getD q.toNat false&&decide (s<endV j b q.toNat))
def fitsR (j:JobP) (b:Bd) (k:Nat) (s:Int):Bool:=
 isTm s&&decide (s+(j.tasks.getD k default).takes<=100000)&&(j.tasks.getD k default).needs.all (needFits j b s) &&
  (decide ((j.tasks.getD k default).takes=0)||(j.tasks.getD k default).uses.all (fun u=>freeV j b u s (s+(j.tasks.getD k default).takes)))
def needFitsX (j:JobP) (b:Bd) (s:Int) (q:Int):Bool:= !(b.pl.getD q.toNat false&&decide (s<Go.RowKit.wrap64 (b.st.getD q.toNat 0+(j.tasks.getD q.toNat default).takes)))
def fitsX (j:JobP) (b:Bd) (k:Nat) (s:Int):Bool:=
 isTm s&&decide (s+(j.tasks.getD k default).takes<=100000)&&(j.tasks.getD k default).needs.all (needFitsX j b s) &&
  (decide ((j.tasks.getD k default).takes=0)||(j.tasks.getD k default).uses.all (fun u=>freeV j b u s (s+(j.tasks.getD k default).takes)))
theorem fitsX_eq {j:JobP} (hG:JGood j) {b:Bd} (hs:∀i,0<=b.st.getD i 0/\b.st.getD i 0<=100000) {k:Nat} (hk:k<j.tasks.length) {s:Int}:fitsX j b k s=fitsR j b k s:=by
 unfold fitsX fitsR
 have:(j.tasks.getD k default).needs.all (needFitsX j b s)=(j.tasks.getD k default).needs.all (needFits j b s):=by
  have hm:j.tasks.getD k default∈j.tasks:=by rw[getD_of hk];exact zC _
  rw[Bool.eq_iff_iff,List.all_eq_true,List.all_eq_true]
  have h:∀q∈(j.tasks.getD k default).needs,needFitsX j b s q=needFits j b s q:=fun q hq=>by
   have hq2:=hG.needs _ hm q hq;have htk:=hG.takes (j.tasks.getD q.toNat default) (by rw[getD_of (by omega)];exact zC _);have hst:=hs q.toNat;unfold needFitsX needFits endV;rw[show Go.RowKit.wrap64 (b.st.getD q.toNat 0+(j.tasks.getD q.toNat default).takes)=b.st.getD q.toNat 0+(j.tasks.getD q.toNat default).takes by unfold Go.RowKit.wrap64;omega]
  exact⟨fun h1 q hq=>by rw[<- h q hq];exact h1 q hq,fun h1 q hq=>by rw[h q hq];exact h1 q hq⟩
 rw[this]
theorem all_step {α:Type} {P:α->Bool} {l:List α} {i:Nat} (hi:i<l.length) (h:(l.take i).all P=true):(l.take (i+1)).all P=P l[i]:=by
 rw[zK hi,List.all_append,h];simp
theorem all_bad {α:Type} {P:α->Bool} {l:List α} {i:Nat} (hi:i<l.length) (h:P l[i]=false):l.all P=false:=by
 rw[Bool.eq_false_iff];intro ha;rw[List.all_eq_true.1 ha _ (zC hi)] at h;cases h
end W8
namespace Go.Proofs.YtjpgnfekbojcaaaGreat
open Go.RowKit W7 W8
attribute [local go_sem] Oper.semAt_some
theorem refFitsX_any (j:Job) (b:Bd) (SA:Option Addr) (sc pb n k:Nat) (s:Int) (B:Nat) (w:World) (hj:JIn w B j) (hB:B<=w.heap.size) (hR:RBd w SA pb n b) (hn:j.tasks.length=n) (hG:JGood j.p) (hs:∀i, -9223372036854775808<=b.st.getD i 0/\b.st.getD i 0<=9223372036854775807) (hk:k<n) :
  Calls Tryz.prog 137 #[jobV j,.slice SA n sc,.slice (some ⟨pb,0,none⟩) n n,.int .i64 (k:Int),.int .i64 s] w fun e w'=>e= .returned (.bool (fitsX j.p b k s))/\Bl w w':=by
 have hn64:n<=64:=by have:=hG.nt;rw[j.nt,hn] at this;exact this
 obtain⟨tb,off,hTA,htb⟩:=hj.ta (by omega);obtain⟨RA,hRA⟩:=eX j.RA;obtain⟨rn,hrn⟩:=eX j.res.length;have hjv:jobV j= .agg #[.slice (some ⟨tb,off,none⟩) n j.tc,.slice RA rn j.rc]:=by unfold jobV;rw[hn,hTA,hRA,hrn]
 rw[hjv];have hkl:k<j.tasks.length:=by omega
 have HFt:=hI (show fitsX j.p b k s=(isTm s&&decide (s+(j.T k).p.takes<=100000)&&(j.T k).p.needs.all (needFitsX j.p b s)&&(decide ((j.T k).p.takes=0)||(j.T k).p.uses.all (fun u=>W8.freeV j.p b u s (s+(j.T k).p.takes)))) by unfold fitsX;rw[j.pT]);have htk:=hG.takes _ (j.Tp_mem hkl);have Hnd:=hI (show ∀q∈(j.T k).p.needs,0<=q/\q<(n:Int) from fun q hq=>by have:=hG.needs _ (j.Tp_mem hkl) q hq;rw[j.nt,hn] at this;exact this);have Hud:=hI (show ∀u∈(j.T k).p.uses,0<=u.res/\u.res<(rn:Int)/\1<=u.many/\u.many<=1000 from fun u hu=>by have:=hG.uses _ (j.Tp_mem hkl) u hu;rw[j.nr,hrn] at this;omega);obtain⟨fr,hfr⟩:=eX (fitsX j.p b k s);rw[hfr] at HFt ⊢;have HTk:=hI (hj.tks _ (j.T_mem hkl));have hnl:=HTk.o.nl;have hnc:=HTk.o.nc;have hul:=HTk.o.ul;have huc:=HTk.o.uc;obtain⟨c0,c1,c2,c3⟩:=hj.tcells hTA hkl;obtain⟨t,ht⟩:=eX (j.T k);rw[ht] at HFt htk Hnd Hud HTk hnl hnc hul huc c0 c1 c2 c3
 obtain⟨nn,hnn⟩:=eX t.p.needs.length;obtain⟨un,hun⟩:=eX t.p.uses.length;rw[hnn] at c2 hnl;rw[hun] at c3 hul;obtain⟨tk,htk2⟩:=eX t.p.takes;rw[htk2] at HFt htk c1;obtain⟨W0,HW0,hs0,HB0,HX00,HU0⟩:=boxes1 w (.cells #[.slice (some ⟨tb,off,none⟩) n j.tc,.slice RA rn j.rc] 25);obtain⟨W1,hW1⟩:=eY (W0.alloc (.cells #[.string t.p.name,.int .i64 tk,.slice t.NA nn t.nc,.slice t.UA un t.uc] 46));have hs1:W1.heap.size=w.heap.size+2:=by rw[hW1];simp;omega
 have HB01:=hI (show Bl W0 W1 by rw[hW1];exact(zX _ _).alloc (zm _) _);have HX1:=hI (show W1.heap[W0.heap.size]? =some (.cells #[.string t.p.name,.int .i64 tk,.slice t.NA nn t.nc,.slice t.UA un t.uc] 46 (0,0)) by rw[hW1];exact zW _ _);rw[hs0] at HX1;have HU1:=hI (show ∀X:World,Bl W1 X->Bl w X from fun X hX=>HU0.o X (HB01.o.trans (hX.mono (by omega))));have HBx:=hI (show ∀X:World,Bl W1 X->X.heap[w.heap.size]? =some (.cells #[.slice (some ⟨tb,off,none⟩) n j.tc,.slice RA rn j.rc] 25 (0,0))/\X.heap[w.heap.size+1]? =some (.cells #[.string t.p.name,.int .i64 tk,.slice t.NA nn t.nc,.slice t.UA un t.uc] 46 (0,0)) from fun X hX=>⟨HX00.o X (HB01.o.trans (hX.mono (by omega))),(hX.block _ (by omega)).trans HX1.o⟩);have HJ:=hI (show ∀X:World,Bl W1 X->JIn X B j/\RBd X SA pb n b from fun X hX=>⟨hj.below ((HU1.o X hX).mono hB),hR.below (HU1.o X hX)⟩)
 have HT:=hI (show ∀X:World,Bl W1 X->TkIn X B t from fun X hX=>HTk.o.below ((HU1.o X hX).mono hB));have Hn:=hI hn;have HTA:=hI hTA;have Hjv:=hI hjv;have HG:=hI hG;have Hs:=hI hs;have Hnn:=hI hnn;have Hun:=hI hun;have Hrn:=hI hrn;have HRA:=hI hRA;have hrb0:=hR;obtain⟨sb,so,hse,hsB,_⟩:=hR.st (by rw[hR.ns];omega);subst hse;have hpb:=blk_lt hR.pl
 have HSc:=hI (show ∀X:World,Bl W1 X->∀i,i<n->X.cell? ⟨sb,so+i,none⟩=some (.int .i64 (b.st.getD i 0))/\X.cell? ⟨pb,i,none⟩=some (.bool (b.pl.getD i false)) from fun X hX i hi=>by
  obtain⟨_,hrb⟩:=HJ.o X hX;obtain⟨sb',so',hse',_,hsc⟩:=hrb.st (by rw[hrb.ns];omega);cases hse';have h:=hsc i (by rw[hrb.ns];exact hi) 0 _ rfl;rw[Nat.mul_one,Nat.add_zero] at h;refine⟨?_,bc hrb.pl (map_getD (by rw[hrb.np];exact hi))⟩;rw[h,zA,zB (by rw[hrb.ns];exact hi)]
  rfl)
 have HTc:=hI (show ∀X:World,Bl W1 X->∀i,i<n->X.cell? ⟨tb,off+i*4+1,none⟩=some (.int .i64 (j.T i).p.takes) from fun X hX i hi=>((HJ.o X hX).1.tcells HTA.o (by rw[Hn.o];exact hi)).2.1);have HW1:=hI hW1;have d0:=(HB0.o.cell (p:=⟨tb,off+k*4,none⟩) (by show tb<w.heap.size;omega)).trans c0;have d1:=(HB0.o.cell (p:=⟨tb,off+k*4+1,none⟩) (by show tb<w.heap.size;omega)).trans c1;have d2:=(HB0.o.cell (p:=⟨tb,off+k*4+2,none⟩) (by show tb<w.heap.size;omega)).trans c2;have d3:=(HB0.o.cell (p:=⟨tb,off+k*4+3,none⟩) (by show tb<w.heap.size;omega)).trans c3;have q0:=kC 0 (HX00.o W0 (zX _ _)) rfl;have q1:=kC 1 (HX00.o W0 (zX _ _)) rfl;clear hj hR hn hG hTA hjv hRA hrn hs hnn hun hW1 c0 c1 c2 c3 ht htk2 hfr hrb0;go_enter Tryz.func137,Tryz.ntmps137;go_upto_region 1 with fail;rw[<- HW0.o];go_upto_region 2 with fail;rw[<- HW1.o];clear d0 d1 d2 d3 q0 q1;obtain⟨ba0,ba1⟩:=HBx.o W1 (zX _ _)
 have t0:=kC 0 ba1 rfl;have t1:=kC 1 ba1 rfl;have t2:=kC 2 ba1 rfl;have t3:=kC 3 ba1 rfl;have HUa:=hI (HU1.o W1 (zX _ _));cases h1:isTm s
 ·have HE:=hI (show fr=false by rw[HFt.o,h1];rfl);go_wp2_with (go_at_call 77;refine(timed_any _ _).mono ?_;rintro e w' ⟨rfl,rfl⟩);go_ret;exact⟨ret_bool HE.o.symm,HUa.o⟩
 have hsb: -1000000<=s/\s<=1000000:=by have:=isTm_true.1 h1;omega
 cases h2:decide (s+tk>100000);rotate_left
 ·have HE:=hI (show fr=false by rw[HFt.o,zE (show ¬s+tk<=100000 by have:=zI h2;omega),Bool.and_false];rfl);go_wp2_with (go_at_call 77;refine(timed_any _ _).mono ?_;rintro e w' ⟨rfl,rfl⟩);go_ret;exact⟨ret_bool HE.o.symm,HUa.o⟩
 have hend:s+tk<=100000:=by have:=zH h2;omega
 have HF2:=hI (show fr=(t.p.needs.all (needFitsX j.p b s)&&(decide (tk=0)||t.p.uses.all (fun u=>W8.freeV j.p b u s (s+tk)))) by rw[HFt.o,h1,zD (show s+tk<=100000 by have:=zH h2;omega)];rfl);go_upto_region 6 with(go_at_call 77;refine(timed_any _ _).mono ?_;rintro e w' ⟨rfl,rfl⟩)
 clear t0 t1 t2 t3 ba0 ba1 h1 h2 HFt;go_loopw [13] (fun v13 wr=>∃i:Nat,i<=nn/\v13= .int .i64 i/\Hid ((t.p.needs.take i).all (needFitsX j.p b s)=true)/\Hid (Bl W1 wr)) (fun v13 _=>nn-(intOf v13).toNat);case atStart=>exact⟨0,by omega,rfl,hI (by simp),hI (zX _ _)⟩
 case round=>
  obtain⟨i,hi,rfl,Ha,Hb⟩:=hrel;have hsr:=Hb.o.size;obtain⟨ba0,ba1⟩:=HBx.o wr Hb.o
  by_cases hlt:i<nn
  ·have hil:i<t.p.needs.length:=by have:=Hnn.o;omega
   obtain⟨nb,no,hbe,hbB,hcells⟩:=(HT.o wr Hb.o).ns (by omega);have c0:wr.cell? ⟨nb,no+i,none⟩=some (.int .i64 t.p.needs[i]):=by have h:=hcells i hil 0 _ rfl;rwa [Nat.mul_one,Nat.add_zero] at h
   have hv:=Hnd.o _ (zC hil);have Hst:=hI (all_step (P:=needFitsX j.p b s) hil Ha.o);have Hbd:=hI (fun h=>all_bad (P:=needFitsX j.p b s) hil h);generalize t.p.needs[i]=v at c0 hv Hst Hbd;obtain⟨m,hm⟩:∃m:Nat,v=(m:Int):=⟨v.toNat,by omega⟩
   subst hm;have hmn:m<n:=by omega
   obtain⟨s0,p0⟩:=HSc.o wr Hb.o m hmn;have k0:=HTc.o wr Hb.o m hmn
   have HNf:=hI (show needFitsX j.p b s (m:Int)= !(b.pl.getD m false&&decide (s<wrap64 (b.st.getD m 0+(j.T m).p.takes))) by
    unfold needFitsX;rw[show((m:Int)).toNat=m from rfl,j.pT])
   have htm:=HG.o.takes _ (j.Tp_mem (n:=m) (by rw[Hn.o];exact hmn));generalize b.st.getD m 0=st at s0 HNf;generalize b.pl.getD m false=pi at p0 HNf;generalize (j.T m).p.takes=tm at k0 HNf htm;have y0:=zV (kC 0 ba0 rfl) (by omega);have zs:=zV s0 (by omega);have zp:=zV p0 (by omega);have zk:=zV k0 (by omega);have t0:=kC 0 ba1 rfl;have t1:=kC 1 ba1 rfl;have t2:=kC 2 ba1 rfl;have t3:=kC 3 ba1 rfl;rw[hbe] at t2;clear hcells hbe;go_upto_region 9 with fail;clear t0 t1 t2 t3 ba0 ba1 c0 s0 p0 k0;cases pi
   ·have HV:=hI (show(t.p.needs.take (i+1)).all (needFitsX j.p b s)=true from Hst.o.trans HNf.o);refine wp_region_later (by kernel_rfl) (by kernel_rfl) ?_
    repeat (any_goals (first | go_big_quiet_step ((fail)) | quiet_step ((fail))))
    refine wpQuiet_nil ?_;rintro w' ⟨e5,rfl⟩;have Hb5:=hI (Hb.o.trans (e5.b.mono hsr));go_wp2;go_roundw;case rel=>exact⟨i+1,by omega,by go_num,HV,Hb5⟩
    case measure=>simp[intOf];omega
   cases h3:decide (wrap64 (st+tm)>s)
   ·have HV:=hI (Hst.o.trans (by rw[HNf.o,zE (show ¬s<wrap64 (st+tm) by have:=zH h3;omega)];first | done | rfl));refine wp_region_later (by kernel_rfl) (by kernel_rfl) ?_
    repeat (any_goals (first | go_big_quiet_step ((fail)) | quiet_step ((fail))))
    refine wpQuiet_nil ?_;rintro w' ⟨e5,rfl⟩;have Hb5:=hI (Hb.o.trans (e5.b.mono hsr));go_wp2;go_roundw;case rel=>exact⟨i+1,by omega,by go_num,HV,Hb5⟩
    case measure=>simp[intOf];omega
   ·have HE:=hI (show fr=false by rw[HF2.o,Hbd.o (by rw[HNf.o,zD (show s<wrap64 (st+tm) by have:=zI h3;omega)];first | done | rfl)];first | done | rfl);refine wp_region_later (by kernel_rfl) (by kernel_rfl) ?_
    repeat (any_goals (first | go_big_quiet_step ((fail)) | quiet_step ((fail))))
    refine wpQuiet_nil ?_;rintro w' ⟨e5,rfl⟩;have Hb5:=hI (HU1.o _ (Hb.o.trans (e5.b.mono hsr)));go_wp2;go_ret;exact⟨ret_bool HE.o.symm,Hb5.o⟩
  ·have HNa:=hI (show t.p.needs.all (needFitsX j.p b s)=true by
    have h1:=Ha.o
    rwa [zG (by have:=Hnn.o;omega)] at h1)
   have HF3:=hI (show fr=(decide (tk=0)||t.p.uses.all (fun u=>W8.freeV j.p b u s (s+tk))) by rw[HF2.o,HNa.o];rfl);have Hb0:=hI Hb.o;have t0:=kC 0 ba1 rfl;have t1:=kC 1 ba1 rfl;have t2:=kC 2 ba1 rfl;have t3:=kC 3 ba1 rfl;go_upto_region 12 with fail;clear t0 t1 t2 t3 ba0 ba1 Ha Hb HF2;go_loopw [15] (fun v15 wy=>∃i2:Nat,i2<=un/\v15= .int .i64 i2/\Hid (tk=0\/(t.p.uses.take i2).all (fun u=>W8.freeV j.p b u s (s+tk))=true)/\Hid (Bl W1 wy)) (fun v15 _=>un-(intOf v15).toNat);case atStart=>exact⟨0,by omega,rfl,hI (.inr (by simp)),Hb0⟩
   case round=>
    obtain⟨i2,hi2,rfl,Ha,Hb⟩:=hrel;obtain⟨wy,hwy⟩:=eY wr;subst hwy;have hsy:=Hb.o.size;obtain⟨ba0,ba1⟩:=HBx.o wy Hb.o;have t0:=kC 0 ba1 rfl;have t1:=kC 1 ba1 rfl;have t2:=kC 2 ba1 rfl;have t3:=kC 3 ba1 rfl;have HUy:=hI (HU1.o wy Hb.o);cases hz:decide (tk>0)
    ·have hz0:tk=0:=by have:=zH hz;omega
     have HE:=hI (show fr=true by rw[HF3.o,zD hz0];rfl)
     by_cases hlt2:i2<un
     ·go_wp2;go_ret;exact⟨ret_bool HE.o.symm,HUy.o⟩
     ·go_wp2;go_ret;exact⟨ret_bool HE.o.symm,HUy.o⟩
    have htk0:=zI hz
    by_cases hlt2:i2<un
    rotate_left
    ·have HE:=hI (show fr=true by
      rw[HF3.o];have h1:=Ha.o.resolve_left (by omega);rw[zG (by have:=Hun.o;omega)] at h1;rw[h1,Bool.or_true])
     go_wp2;go_ret;exact⟨ret_bool HE.o.symm,HUy.o⟩
    have hil:i2<t.p.uses.length:=by have:=Hun.o;omega
    obtain⟨ub,uo,hbe,hbB,hcells⟩:=(HT.o wy Hb.o).us (by omega);have HUc:=hI (show ∀X:World,Bl wy X->X.cell? ⟨ub,uo+i2*2,none⟩=some (.int .i64 t.p.uses[i2].res)/\X.cell? ⟨ub,uo+i2*2+1,none⟩=some (.int .i64 t.p.uses[i2].many) from fun X hX=>⟨(hX.cell (p:=⟨ub,uo+i2*2,none⟩) (by show ub<wy.heap.size;omega)).trans (hcells i2 hil 0 _ rfl),(hX.cell (p:=⟨ub,uo+i2*2+1,none⟩) (by show ub<wy.heap.size;omega)).trans (hcells i2 hil 1 _ rfl)⟩);have hu:=Hud.o _ (zC hil);have Hst:=hI (all_step (P:=fun u=>W8.freeV j.p b u s (s+tk)) hil (Ha.o.resolve_left (by omega)));have Hbd:=hI (fun h=>all_bad (P:=fun u=>W8.freeV j.p b u s (s+tk)) hil h);generalize t.p.uses[i2]=u at HUc hu Hst Hbd;obtain⟨ur,um⟩:=u;dsimp only at HUc hu Hst Hbd;obtain⟨m,hm⟩:∃m:Nat,ur=(m:Int):=⟨ur.toNat,by omega⟩
    subst hm;have hmr:m<j.res.length:=by have:=Hrn.o;omega
    obtain⟨rb,ro,hre,hrB⟩:=(HJ.o wy Hb.o).1.ra (by omega);have hRe:RA=some ⟨rb,ro,none⟩:=by rw[<- HRA.o];exact hre
    subst hRe;obtain⟨r0,r1,r2⟩:=(HJ.o wy Hb.o).1.rcells hre hmr;have HRs:=hI ((HJ.o wy Hb.o).1.rss _ (j.R_mem hmr))
    have HFv:=hI (show W8.freeV j.p b ⟨(m:Int),um⟩ s (s+tk)=(!(j.R m).p.off.any (overB s (s+tk))&& !crowdB j.p b ⟨(m:Int),um⟩ s&& !(List.range n).any (fun i=>startsIn b s (s+tk) i&&crowdB j.p b ⟨(m:Int),um⟩ (b.st.getD i 0))) by
     unfold W8.freeV;rw[j.nt,Hn.o,show((⟨(m:Int),um⟩:JUse).res).toNat=m from rfl,j.pR])
    have HCw:=hI (show ∀mm,crowdB j.p b ⟨(m:Int),um⟩ mm=decide ((j.R m).p.many<usedV j.p b (m:Int) mm+um) from fun mm=>by
     unfold crowdB;rw[show((⟨(m:Int),um⟩:JUse).res).toNat=m from rfl,j.pR])
    have hmany:=HG.o.many _ (j.Rp_mem hmr);generalize j.R m=rs at r0 r1 r2 HRs HFv HCw hmany;obtain⟨on,hon⟩:=eX rs.p.off.length;have honl:=HRs.o.ol;have honc:=HRs.o.oc;rw[hon] at r2 honl;have y0:=zV (kC 0 ba0 rfl) (by omega);have y1:=zV (kC 1 ba0 rfl) (by omega);have yt:=zV t3 (by omega);have hcu:=HUc.o wy (zX _ _);have yu:=zV hcu.1 (by omega);have yr0:=zV r0 (by omega);have yr1:=zV r1 (by omega);have yr2:=zV r2 (by omega);clear hcells hcu;rw[hbe] at yt;go_upto_region 14 with fail;clear t0 t1 t2 t3
    obtain⟨C,hC⟩:∃C:(Nat->Bool)->(Nat->Value)->World->Prop,C=fun L V w'=>∃(e:Later wy) (ga:Nat),w'=e.w/\(L 10=true->Hid (wy.heap.size<=ga/\∃u0 u1 u2:Value,e.w.heap[ga]? =some (.cells #[u0,u1,u2] 43 (0,0))/\(L 11=true->u0= .string rs.p.name/\u1= .int .i64 rs.p.many/\u2= .slice rs.OA on rs.oc)))/\(L 11=true->L 10=true)/\(L 0=true->V 0= .pointer (some ⟨w.heap.size,1,none⟩))/\(L 1=true->V 1= .slice (some ⟨rb,ro,none⟩) rn j.rc)/\(L 2=true->V 2= .pointer (some ⟨w.heap.size+1,3,none⟩))/\(L 3=true->V 3= .slice (some ⟨ub,uo,none⟩) un t.uc)/\(L 4=true->V 4= .int .i64 (i2:Int))/\(L 5=true->V 5= .pointer (some ⟨ub,uo+i2*2,none⟩))/\(L 6=true->V 6= .pointer (some ⟨ub,uo+i2*2,none⟩))/\(L 7=true->V 7= .int .i64 (m:Int))/\(L 8=true->V 8= .pointer (some ⟨rb,ro+m*3,none⟩))/\(L 9=true->V 9= .agg #[.string rs.p.name,.int .i64 rs.p.many,.slice rs.OA on rs.oc])/\(L 10=true->V 10= .pointer (some ⟨ga,0,none⟩)):=⟨_,rfl⟩
    have HC:=hI hC;clear hC;refine wp_region_opsA [78,79,80,81,82,83,84,85,86,87,16] C (by kernel_rfl) (by kernel_rfl) (by decide) (by kernel_rfl) (by kernel_rfl) ?_ ?_ ?_
    ·rw[HC.o];exact⟨⟨_,(zX wy.heap.size wy).drew⟩,0,rfl,nff,nff,nff,nff,nff,nff,nff,nff,nff,nff,nff,nff,nff⟩
    ·rintro L V w' ii o AA hii ho hLi haf hInv hAA hFF;rw[HC.o] at hInv;obtain⟨e,ga,rfl,p0,p1,h0,h1,h2,h3,h4,h5,h6,h7,h8,h9,h10⟩:=hInv;rcases ii with _ | _ | _ | _ | _ | _ | _ | _ | _ | _ | _ | _ | ii;case succ.succ.succ.succ.succ.succ.succ.succ.succ.succ.succ.succ=>(simp at hii;try omega)
     all_goals (simp only[zR,zS,Option.some.injEq] at ho;subst ho)
     all_goals clear hii
     ·have f5:AA.tmps[5]?.getD undef= .pointer (some ⟨w.heap.size,0,none⟩):=hFF.out 5 (by decide);go_wp2;rw[HC.o];exact⟨_,rfl,e,ga,rfl,p0,p1,fun _=>rfl,h1,h2,h3,h4,h5,h6,h7,h8,h9,h10⟩
     ·have a0:=(hAA.out 0 78 rfl).trans (h0 (haf ⟨0,.data⟩ (by simp) rfl));go_wp2;rw[HC.o];exact⟨_,rfl,e,ga,rfl,p0,p1,h0,fun _=>rfl,h2,h3,h4,h5,h6,h7,h8,h9,h10⟩
     ·have f11:AA.tmps[11]?.getD undef= .pointer (some ⟨w.heap.size+1,0,none⟩):=hFF.out 11 (by decide);go_wp2;rw[HC.o];exact⟨_,rfl,e,ga,rfl,p0,p1,h0,h1,fun _=>rfl,h3,h4,h5,h6,h7,h8,h9,h10⟩
     ·have a2:=(hAA.out 2 80 rfl).trans (h2 (haf ⟨2,.data⟩ (by simp) rfl));go_wp2;rw[HC.o];exact⟨_,rfl,e,ga,rfl,p0,p1,h0,h1,h2,fun _=>rfl,h4,h5,h6,h7,h8,h9,h10⟩
     ·have f15:AA.tmps[15]?.getD undef= .int .i64 (i2:Int):=hFF.out 15 (by decide);go_wp2;rw[HC.o];exact⟨_,rfl,e,ga,rfl,p0,p1,h0,h1,h2,h3,fun _=>rfl,h5,h6,h7,h8,h9,h10⟩
     ·have a3:=(hAA.out 3 81 rfl).trans (h3 (haf ⟨3,.data⟩ (by simp) rfl));have a4:=(hAA.out 4 82 rfl).trans (h4 (haf ⟨4,.data⟩ (by simp) rfl));go_wp2;rw[HC.o];exact⟨_,rfl,e,ga,rfl,p0,p1,h0,h1,h2,h3,h4,fun _=>rfl,h6,h7,h8,h9,h10⟩
     ·have a5:=(hAA.out 5 83 rfl).trans (h5 (haf ⟨5,.data⟩ (by simp) rfl));go_wp2;rw[HC.o];exact⟨_,rfl,e,ga,rfl,p0,p1,h0,h1,h2,h3,h4,h5,fun _=>rfl,h7,h8,h9,h10⟩
     ·have a6:=(hAA.out 6 84 rfl).trans (h6 (haf ⟨6,.data⟩ (by simp) rfl));go_wp2;rw[HC.o];exact⟨_,rfl,e,ga,rfl,p0,p1,h0,h1,h2,h3,h4,h5,h6,fun _=>rfl,h8,h9,h10⟩
     ·have a1:=(hAA.out 1 79 rfl).trans (h1 (haf ⟨1,.data⟩ (by simp) rfl));have a7:=(hAA.out 7 85 rfl).trans (h7 (haf ⟨7,.data⟩ (by simp) rfl));go_wp2;rw[HC.o];exact⟨_,rfl,e,ga,rfl,p0,p1,h0,h1,h2,h3,h4,h5,h6,h7,fun _=>rfl,h9,h10⟩
     ·have a8:=(hAA.out 8 86 rfl).trans (h8 (haf ⟨8,.data⟩ (by simp) rfl));go_wp2;rw[HC.o];exact⟨_,rfl,e,ga,rfl,p0,p1,h0,h1,h2,h3,h4,h5,h6,h7,h8,fun _=>rfl,h10⟩
     ·have hse:wy.heap.size<=e.w.heap.size:=e.b.size;go_wp2;rw[HC.o];exact⟨_,rfl,⟨_,e.b.alloc hse _⟩,e.w.heap.size,rfl,fun _=>hI ⟨hse,_,_,_,zW _ _,fun z=>(by have h9:=p1 z;rw[h9] at hLi;cases hLi)⟩,fun _=>rfl,h0,h1,h2,h3,h4,h5,h6,h7,h8,h9,fun _=>rfl⟩
     ·have a9:=(hAA.out 9 87 rfl).trans (h9 (haf ⟨9,.data⟩ (by simp) rfl));have a10:=(hAA.out 10 16 rfl).trans (h10 (haf ⟨10,.data⟩ (by simp) rfl));have hl10:=haf ⟨10,.data⟩ (by simp) rfl;obtain⟨hga,u0,u1,u2,hblk,_⟩:=(p0 hl10).out;have HFi:=hI (fill3 hga hblk e.b (.string rs.p.name) (.int .i64 rs.p.many) (.slice rs.OA on rs.oc));have f0:=kF 0 hblk;have f1:=kF 1 hblk;have f2:=kF 2 hblk;have d0:=kC 0 hblk rfl;have d1:=kC 1 hblk rfl;have d2:=kC 2 hblk rfl;have Hga:=hI hga;have Hl10:=hI hl10;clear hblk hl10;go_wp2;rw[HC.o];exact⟨rfl,undef,⟨_,HFi.o.2⟩,ga,rfl,fun _=>hI ⟨Hga.o,_,_,_,HFi.o.1,fun _=>⟨rfl,rfl,rfl⟩⟩,fun _=>Hl10.o,h0,h1,h2,h3,h4,h5,h6,h7,h8,h9,h10⟩
    rintro L V w' hL hInv;rw[HC.o] at hInv;obtain⟨e,ga,rfl,p0,p1,h0,h1,h2,h3,h4,h5,h6,h7,h8,h9,h10⟩:=hInv;have k0:=h0 (hL 0 (by simp));have k1:=h1 (hL 1 (by simp));have k2:=h2 (hL 2 (by simp));have k3:=h3 (hL 3 (by simp));have k4:=h4 (hL 4 (by simp));have k5:=h5 (hL 5 (by simp));have k6:=h6 (hL 6 (by simp));have k7:=h7 (hL 7 (by simp));have k8:=h8 (hL 8 (by simp));have k9:=h9 (hL 9 (by simp));have k10:=h10 (hL 10 (by simp));obtain⟨hga,u0,u1,u2,hblk,hu9⟩:=(p0 (hL 10 (by simp))).out;obtain⟨rfl,rfl,rfl⟩:=hu9 (hL 11 (by simp));clear h0 h1 h2 h3 h4 h5 h6 h7 h8 h9 h10 hL HC p0 p1;skip;simp only[putAll];rw[k10];go_frame;have HB2:=hI e.b;have hs2:=e.b.size;have Hg2:=hI hblk;have Hbe:=hI hbe;clear k0 k1 k2 k3 k4 k5 k6 k7 k8 k9 k10 y0 y1 yt yu yr0 yr1 yr2 r0 r1 r2 hblk hre hbe hu9 ba0 ba1;generalize e.w=W2 at HB2 hs2 Hg2;have HbW:=hI (Hb.o.trans (HB2.o.mono hsy))
    have HFalse:=hI (show W8.freeV j.p b ⟨(m:Int),um⟩ s (s+tk)=false->fr=false from fun h=>by
     rw[HF3.o,zE (show ¬tk=0 by omega),Hbd.o h];rfl)
    have hgl:=blk_lt Hg2.o;go_upto_region 16 with fail;go_loopw [17] (fun v17 wz=>∃i3:Nat,i3<=on/\v17= .int .i64 i3/\Hid ((rs.p.off.take i3).any (overB s (s+tk))=false)/\Hid (Bl W2 wz)) (fun v17 _=>on-(intOf v17).toNat);case atStart=>exact⟨0,by omega,rfl,hI (by simp),hI (zX _ _)⟩
    case round=>
     obtain⟨i3,hi3,rfl,Hno,Hb3⟩:=hrel;obtain⟨wz,hwz⟩:=eY wr;subst hwz;have hsz:=Hb3.o.size;have HbZ:=hI (HbW.o.trans (Hb3.o.mono (by omega)));have hg3:=(Hb3.o.block _ hgl).trans Hg2.o;have HUz:=hI (HU1.o wz HbZ.o)
     by_cases hlt3:i3<on
     ·have hol:i3<rs.p.off.length:=by rw[hon];exact hlt3
      obtain⟨ob,oo,hoe,hoB,hoc⟩:=(HRs.o.below (B:=B) (w:=wy) (w':=wz) ((HB2.o.trans (Hb3.o.mono hs2)).mono (by omega))).os (by omega);have o0:wz.cell? ⟨ob,oo+i3*2,none⟩=some (.int .i64 rs.p.off[i3].lo):=hoc i3 hol 0 _ rfl;have o1:wz.cell? ⟨ob,oo+i3*2+1,none⟩=some (.int .i64 rs.p.off[i3].hi):=hoc i3 hol 1 _ rfl;have HN9:=hI (any_not (P:=overB s (s+tk)) hol Hno.o);have HY9:=hI (fun h=>any_yes (P:=overB s (s+tk)) (i:=on) hlt3 hol h);generalize rs.p.off[i3]=sp at o0 o1 HN9 HY9;obtain⟨lo,hi'⟩:=sp;have HOB:=hI (show overB s (s+tk) ⟨lo,hi'⟩=(decide (lo<s+tk)&&decide (s<=hi')) from rfl);dsimp only at o0 o1;have g0:=kC 0 hg3 rfl;have g1:=kC 1 hg3 rfl;have g2:=kC 2 hg3 rfl;rw[hoe] at g2;clear hoc hoe hg3;cases a1:decide (lo<s+tk)
      ·have HN2:=hI (HN9.o (by rw[HOB.o,a1];rfl));go_wp2;go_roundw;case rel=>exact⟨i3+1,by omega,by go_num,HN2,Hb3⟩
       case measure=>simp[intOf];omega
      cases a2:decide (s<=hi')
      ·have HN2:=hI (HN9.o (by rw[HOB.o,a1,a2];rfl));go_wp2;go_roundw;case rel=>exact⟨i3+1,by omega,by go_num,HN2,Hb3⟩
       case measure=>simp[intOf];omega
      ·have HE:=hI (HFalse.o (by
        have h9:=HY9.o (by rw[HOB.o,a1,a2];rfl);rw[zG (by omega)] at h9;rw[HFv.o,h9];rfl))
       go_wp2;go_ret;exact⟨ret_bool HE.o.symm,HUz.o⟩
     ·have HOv:=hI (show rs.p.off.any (overB s (s+tk))=false by
       have h9:=Hno.o
       rwa [zG (by omega)] at h9)
      have Hul:=hI (fun mm=>usedV_le HG.o b (m:Int) mm)
      have HLd0:=hI (show ∀(X:World),Bl wz X->∀mm:Int,mm<=1000000->Calls Tryz.prog 184 #[.agg #[.slice (some ⟨tb,off,none⟩) n j.tc,.slice (some ⟨rb,ro,none⟩) rn j.rc],.slice (some ⟨sb,so,none⟩) n sc,.slice (some ⟨pb,0,none⟩) n n,.int .i64 (m:Int),.int .i64 mm] X fun e w'=>e= .returned (.int .i64 (usedV j.p b (m:Int) mm))/\Bl X w' from fun X hX mm hmm=>by
       obtain⟨hj9,hr9⟩:=HJ.o X (HbZ.o.trans (hX.mono (by omega)));have h9:=refLoad_any j b (some ⟨sb,so,none⟩) sc pb n (m:Int) mm B X hj9 (by have:=hX.size;omega) hr9 Hn.o HG.o (fun i=>by have:=Hs.o i;omega) hmm
       rwa [Hjv.o] at h9)
      obtain⟨ba0,ba1⟩:=HBx.o wz HbZ.o;have hq3:wz.cell? ⟨w.heap.size+1,3,none⟩=some (.slice (some ⟨ub,uo,none⟩) un t.uc):=by rw[<- Hbe.o];exact kC 3 ba1 rfl
      have hcu:=HUc.o wz ((HB2.o.trans (Hb3.o.mono hs2)));have y0:=zV (kC 0 ba0 rfl) (by omega);have y1:=zV (kC 1 ba0 rfl) (by omega);have y3:=zV hq3 (by omega);have yu0:=zV hcu.1 (by omega);have yu1:=zV hcu.2 (by omega);have yg1:=zV (kC 1 hg3 rfl) (by omega);have g0:=kC 0 hg3 rfl;have g1:=kC 1 hg3 rfl;have g2:=kC 2 hg3 rfl;have hl9:=Hul.o s;have HLd:=hI (fun e:Later wz=>HLd0.o e.w e.b s (by omega));generalize hlv:usedV j.p b (m:Int) s=lv at HLd hl9;have Hlv:=hI hlv;clear hlv hq3 hcu;go_upto_region 20 with fail;clear g0 g1 g2 hg3;cases a3:decide (lv+um>rs.p.many);rotate_left
      ·have HE:=hI (HFalse.o (by rw[HFv.o,HOv.o,HCw.o,Hlv.o,zD (show rs.p.many<lv+um from zI a3)];rfl));refine wp_region_later (by kernel_rfl) (by kernel_rfl) ?_
       repeat (any_goals (first | go_big_quiet_step ((go_at_call 184;exact later_call _ (HLd.o _))) | quiet_step ((go_at_call 184;exact later_call _ (HLd.o _)))))
       refine wpQuiet_nil ?_;rintro w' ⟨e20,rfl⟩;have Hb5:=hI (HU1.o _ (HbZ.o.trans (e20.b.mono (by omega))));go_wp2;go_ret;exact⟨ret_bool HE.o.symm,Hb5.o⟩
      have Hc3:=hI (zH a3);refine wp_region_later (by kernel_rfl) (by kernel_rfl) ?_
      repeat (any_goals (first | go_big_quiet_step ((go_at_call 184;exact later_call _ (HLd.o _))) | quiet_step ((go_at_call 184;exact later_call _ (HLd.o _)))))
      refine wpQuiet_nil ?_;rintro w' ⟨e20,rfl⟩;have Hb5:=hI e20.b;have hs5:=e20.b.size;generalize e20.w=W5 at Hb5 hs5;have HbV:=hI (HbZ.o.trans (Hb5.o.mono (by omega)));have Hz5:=hI (Hb5.o);have Hg5:=hI ((Hb5.o.block _ (by omega)).trans ((Hb3.o.block _ hgl).trans Hg2.o));have HU5:=hI (show ∀X:World,Bl W5 X->Bl wy X from fun X hX=>HB2.o.trans ((Hb3.o.mono hs2).trans ((Hb5.o.mono (by omega)).trans (hX.mono (by omega)))));clear y0 y1 y3 yu0 yu1 yg1 HLd;go_upto_region 23 with fail;go_loopw [18] (fun v18 wq=>∃i4:Nat,i4<=n/\v18= .int .i64 i4/\Hid ((List.range i4).any (fun i=>startsIn b s (s+tk) i&&crowdB j.p b ⟨(m:Int),um⟩ (b.st.getD i 0))=false)/\Hid (Bl W5 wq)) (fun v18 _=>n-(intOf v18).toNat);case atStart=>exact⟨0,by omega,rfl,hI rfl,hI (zX _ _)⟩
      case round=>
       obtain⟨i4,hi4,rfl,Hno,HbQ5⟩:=hrel;obtain⟨wq,hwq⟩:=eY wr;subst hwq;have hsq:=HbQ5.o.size;have HbQ:=hI (HbV.o.trans (HbQ5.o.mono (by omega)));have HbQz:=hI (Hz5.o.trans (HbQ5.o.mono (by omega)));obtain⟨ba0,ba1⟩:=HBx.o wq HbQ.o;have q0:=kC 0 ba0 rfl;have q1:=kC 1 ba0 rfl
       by_cases hlt4:i4<n
       ·obtain⟨s0,p0⟩:=HSc.o wq HbQ.o i4 hlt4;have HStep:=hI (show(startsIn b s (s+tk) i4&&crowdB j.p b ⟨(m:Int),um⟩ (b.st.getD i4 0))=(b.pl.getD i4 false&&decide (s<b.st.getD i4 0)&&decide (b.st.getD i4 0<s+tk)&&decide (rs.p.many<usedV j.p b (m:Int) (b.st.getD i4 0)+um)) by rw[HCw.o];rfl)
        have HYes:=hI (show(startsIn b s (s+tk) i4&&crowdB j.p b ⟨(m:Int),um⟩ (b.st.getD i4 0))=true->fr=false from fun h=>HFalse.o (by
         have h9:(List.range n).any (fun i=>startsIn b s (s+tk) i&&crowdB j.p b ⟨(m:Int),um⟩ (b.st.getD i 0))=true:=List.any_eq_true.2 ⟨i4,List.mem_range.2 hlt4,h⟩;rw[HFv.o,h9,Bool.not_true,Bool.and_false]))
        have hl9:=Hul.o (b.st.getD i4 0);have HLd:=hI (fun(h9:b.st.getD i4 0<=1000000) (e:Later wq)=>HLd0.o e.w (HbQz.o.trans (e.b.mono (by omega))) (b.st.getD i4 0) h9);generalize usedV j.p b (m:Int) (b.st.getD i4 0)=lv2 at HLd hl9 HStep;obtain⟨st,hst2⟩:=eX (b.st.getD i4 0);rw[hst2] at s0 HLd;have HStep2:=hI (show(startsIn b s (s+tk) i4&&crowdB j.p b ⟨(m:Int),um⟩ (b.st.getD i4 0))=(b.pl.getD i4 false&&decide (s<st)&&decide (st<s+tk)&&decide (rs.p.many<lv2+um)) by rw[HStep.o,hst2]);obtain⟨pi,hpi⟩:=eX (b.pl.getD i4 false);rw[hpi] at p0 HStep2;clear hst2 hpi HStep;have hq3:wq.cell? ⟨w.heap.size+1,3,none⟩=some (.slice (some ⟨ub,uo,none⟩) un t.uc):=by rw[<- Hbe.o];exact kC 3 ba1 rfl
        have hcu:=HUc.o wq (HU5.o wq HbQ5.o);have hg6:=(HbQ5.o.block _ (blk_lt Hg5.o)).trans Hg5.o;have y0:=zV (kC 0 ba0 rfl) (by omega);have y1:=zV (kC 1 ba0 rfl) (by omega);have y3:=zV hq3 (by omega);have yu0:=zV hcu.1 (by omega);have yu1:=zV hcu.2 (by omega);have yg1:=zV (kC 1 hg6 rfl) (blk_lt hg6);have ys:=zV s0 (by omega);have yp:=zV p0 (by omega);go_upto_region 25 with fail;clear q0 q1 s0 p0 hq3 hcu hg6 ba0 ba1;cases pi
        ·have HN2:=hI (range_any_succ (p:=fun i=>startsIn b s (s+tk) i&&crowdB j.p b ⟨(m:Int),um⟩ (b.st.getD i 0)) Hno.o (by rw[HStep2.o];rfl));refine wp_region_later (by kernel_rfl) (by kernel_rfl) ?_
         repeat (any_goals (first | go_big_quiet_step ((fail)) | quiet_step ((fail))))
         refine wpQuiet_nil ?_;rintro w' ⟨e25,rfl⟩;have Hb6:=hI (HbQ5.o.trans (e25.b.mono (by omega)));go_wp2;go_roundw;case rel=>exact⟨i4+1,by omega,by go_num,HN2,Hb6⟩
         case measure=>simp[intOf];omega
        cases a4:decide (st>s)
        ·have HN2:=hI (range_any_succ (p:=fun i=>startsIn b s (s+tk) i&&crowdB j.p b ⟨(m:Int),um⟩ (b.st.getD i 0)) Hno.o (by rw[HStep2.o,zE (show ¬s<st from zH a4)];rfl));refine wp_region_later (by kernel_rfl) (by kernel_rfl) ?_
         repeat (any_goals (first | go_big_quiet_step ((fail)) | quiet_step ((fail))))
         refine wpQuiet_nil ?_;rintro w' ⟨e25,rfl⟩;have Hb6:=hI (HbQ5.o.trans (e25.b.mono (by omega)));go_wp2;go_roundw;case rel=>exact⟨i4+1,by omega,by go_num,HN2,Hb6⟩
         case measure=>simp[intOf];omega
        have a4':=zI a4;cases a5:decide (st<s+tk)
        ·have HN2:=hI (range_any_succ (p:=fun i=>startsIn b s (s+tk) i&&crowdB j.p b ⟨(m:Int),um⟩ (b.st.getD i 0)) Hno.o (by rw[HStep2.o,a5,Bool.and_false];rfl));refine wp_region_later (by kernel_rfl) (by kernel_rfl) ?_
         repeat (any_goals (first | go_big_quiet_step ((fail)) | quiet_step ((fail))))
         refine wpQuiet_nil ?_;rintro w' ⟨e25,rfl⟩;have Hb6:=hI (HbQ5.o.trans (e25.b.mono (by omega)));go_wp2;go_roundw;case rel=>exact⟨i4+1,by omega,by go_num,HN2,Hb6⟩
         case measure=>simp[intOf];omega
        have HLd2:=hI (HLd.o (by have:=zI a5;omega));cases a6:decide (lv2+um>rs.p.many)
        ·have HN2:=hI (range_any_succ (p:=fun i=>startsIn b s (s+tk) i&&crowdB j.p b ⟨(m:Int),um⟩ (b.st.getD i 0)) Hno.o (by rw[HStep2.o,zE (show ¬rs.p.many<lv2+um from zH a6),Bool.and_false]));refine wp_region_later (by kernel_rfl) (by kernel_rfl) ?_
         repeat (any_goals (first | go_big_quiet_step ((go_at_call 184;exact later_call _ (HLd2.o _))) | quiet_step ((go_at_call 184;exact later_call _ (HLd2.o _)))))
         refine wpQuiet_nil ?_;rintro w' ⟨e25,rfl⟩;have Hb6:=hI (HbQ5.o.trans (e25.b.mono (by omega)));go_wp2;go_roundw;case rel=>exact⟨i4+1,by omega,by go_num,HN2,Hb6⟩
         case measure=>simp[intOf];omega
        have HE:=hI (HYes.o (by rw[HStep2.o,a5,zD (show s<st from a4'),zD (show rs.p.many<lv2+um from zI a6)];rfl));refine wp_region_later (by kernel_rfl) (by kernel_rfl) ?_
        repeat (any_goals (first | go_big_quiet_step ((go_at_call 184;exact later_call _ (HLd2.o _))) | quiet_step ((go_at_call 184;exact later_call _ (HLd2.o _)))))
        refine wpQuiet_nil ?_;rintro w' ⟨e25,rfl⟩;have Hb6:=hI (HU1.o _ (HbQ.o.trans (e25.b.mono (by omega))));go_wp2;go_ret;exact⟨ret_bool HE.o.symm,Hb6.o⟩
       ·have HA:=hI (show(List.range n).any (fun i=>startsIn b s (s+tk) i&&crowdB j.p b ⟨(m:Int),um⟩ (b.st.getD i 0))=false by
         have h9:=Hno.o
         rwa [show i4=n by omega] at h9)
        have HFr:=hI (show W8.freeV j.p b ⟨(m:Int),um⟩ s (s+tk)=true by
         rw[HFv.o,HOv.o,HCw.o,Hlv.o,zE (show ¬rs.p.many<lv+um by have:=Hc3.o;omega),HA.o];rfl)
        have HV:=hI (show tk=0\/(t.p.uses.take (i2+1)).all (fun u=>W8.freeV j.p b u s (s+tk))=true from .inr (Hst.o.trans HFr.o));go_wp2;go_roundw;case rel=>exact⟨i2+1,by omega,by go_num,HV,HbQ⟩
        case measure=>simp[intOf];omega
theorem refFits_any (j:Job) (b:Bd) (SA:Option Addr) (sc pb n k:Nat) (s:Int) (B:Nat) (w:World) (hj:JIn w B j) (hB:B<=w.heap.size) (hR:RBd w SA pb n b) (hn:j.tasks.length=n) (hG:JGood j.p) (hs:BOk b) (hk:k<n) :
  Calls Tryz.prog 137 #[jobV j,.slice SA n sc,.slice (some ⟨pb,0,none⟩) n n,.int .i64 (k:Int),.int .i64 s] w fun e w'=>e= .returned (.bool (fitsR j.p b k s))/\Bl w w':=by
 have h:=refFitsX_any j b SA sc pb n k s B w hj hB hR hn hG (fun i=>by have:=hs i;omega) hk
 rwa [fitsX_eq hG hs (by rw[j.nt,hn];exact hk)] at h
end Go.Proofs.YtjpgnfekbojcaaaGreat
