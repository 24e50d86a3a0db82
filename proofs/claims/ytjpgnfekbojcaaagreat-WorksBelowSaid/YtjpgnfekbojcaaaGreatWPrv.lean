/- Which floors are proved: Proves of both sides. -/
import Derived.Test.YtjpgnfekbojcaaaGreatWHeavy
import Derived.Test.YtjpgnfekbojcaaaGreatWLen
set_option maxHeartbeats 8000000
set_option maxRecDepth 100000
namespace W8
open W7
def linkB (j:JobP) (c:List Int) (i:Nat):Bool:=
 withinB (c.getD i 0) 0 ((j.tasks.length:Int)-1)&&(decide (i=0)||(j.tasks.getD (c.getD i 0).toNat default).needs.any (fun y=>y==c.getD (i-1) 0))
def sumC (j:JobP) (c:List Int):Nat->Int
 | 0=>0
 | i+1=>sumC j c i+(j.tasks.getD (c.getD i 0).toNat default).takes
def provesB (j:JobP) (m:Int) (c:List Int) (r:Int):Bool:=
 if m<=0 then true else if c.length=0 then withinB r 0 ((j.res.length:Int)-1)&&decide (roomV (j.res.getD r.toNat default) (m-1)<workV j r)
  else(List.range c.length).all (linkB j c)&&decide (m<=sumC j c c.length)
def prvV (j:JobP) (m:Int) (c:List Int) (r:Int):Bool:=decide (jobErr j=0)&&provesB j m c r
theorem prv_pos {j:JobP} {m:Int} {c:List Int} {r:Int} (h:m<=0):provesB j m c r=true:=by unfold provesB;rw[if_pos h]
theorem prv_res {j:JobP} {m:Int} {c:List Int} {r:Int} (h: ¬m<=0) (hc:c.length=0):provesB j m c r=(withinB r 0 ((j.res.length:Int)-1)&&decide (roomV (j.res.getD r.toNat default) (m-1)<workV j r)):=by unfold provesB;rw[if_neg h,if_pos hc]
theorem prv_chain {j:JobP} {m:Int} {c:List Int} {r:Int} (h: ¬m<=0) (hc: ¬c.length=0):provesB j m c r=((List.range c.length).all (linkB j c)&&decide (m<=sumC j c c.length)):=by unfold provesB;rw[if_neg h,if_neg hc]
theorem range_all_bad {P:Nat->Bool} {i n:Nat} (hi:i<n) (h:P i=false):(List.range n).all P=false:=by
 rw[Bool.eq_false_iff];intro ha;rw[List.all_eq_true.1 ha i (List.mem_range.2 hi)] at h;cases h
theorem sumC_le {j:JobP} (hG:JGood j) {c:List Int}:∀i,(∀k,k<i->linkB j c k=true)->0<=sumC j c i/\sumC j c i<=100000*i
 | 0,_=>by simp[sumC]
 | i+1,h=>by
  have h1:=sumC_le hG i (fun k hk=>h k (by omega));have h2:=h i (by omega);unfold linkB at h2;rw[Bool.and_eq_true] at h2;have h3:=withinB_true.1 h2.1;have h4:=hG.takes (j.tasks.getD (c.getD i 0).toNat default) (by rw[getD_of (by omega)];exact List.getElem_mem _);simp only[sumC];omega
theorem off_far {m:Int} (hm:100001<=m):∀ {l:List JSpan},(∀s∈l,0<=s.lo/\s.lo<=s.hi/\s.hi<=100000)->offTo m l=offTo 100001 l
 | [],_=>rfl
 | s::l,h=>by
  have h1:=h s (List.mem_cons_self ..);simp only[offTo];rw[off_far hm (fun x hx=>h x (List.mem_cons_of_mem _ hx))];omega
theorem room_cut {j:JobP} (hG:JGood j) {r:ResP} (hr:r∈j.res) (m:Int):roomV r (min m 1099511627776)=roomV r m:=by
 by_cases h:m<=1099511627776
 ·rw[show min m 1099511627776=m by omega]
 ·have h1:=off_far (m:=m) (by omega) (hG.off r hr);have h2:=off_far (m:=1099511627776) (by omega) (hG.off r hr);rw[show min m 1099511627776=1099511627776 by omega];unfold roomV;rw[h1,h2,show min m 1099511627776=1099511627776 by omega,show min (1099511627776:Int) 1099511627776=1099511627776 by omega]
end W8
namespace Go.Proofs.YtjpgnfekbojcaaaGreat
open Go.RowKit W7 W8
attribute [local go_sem] Oper.semAt_some
theorem Proves_any (j:Job) (m r:Int) (c:List Int) (CA:Option Addr) (cn cc B:Nat) (w:World) (hj:JIn w B j) (hB:B<=w.heap.size) (hS:Slim j) (hc:StIn w B CA cn cc c) (hm:m<=9223372036854775807) :
  Calls Tryz.prog 53 #[jobV j,.agg #[.int .i64 m,.slice CA cn cc,.int .i64 r]] w fun e w'=>e= .returned (.tuple #[.bool (prvV j.p m c r),.int .i64 (jobErr j.p)])/\Bl w w':=by
 obtain⟨n,hn⟩:∃n,j.tasks.length=n:=⟨_,rfl⟩
 obtain⟨TA,hTA⟩:∃x,j.TA=x:=⟨_,rfl⟩
 obtain⟨RA,hRA⟩:∃x,j.RA=x:=⟨_,rfl⟩
 obtain⟨nr,hnr'⟩:∃x,j.res.length=x:=⟨_,rfl⟩
 have hjv:jobV j= .agg #[.slice TA n j.tc,.slice RA nr j.rc]:=by unfold jobV;rw[hn,hTA,hRA,hnr']
 obtain⟨W0,HW0,hs0,HB0,HX00,HX01,HU0⟩:=boxes2 w (.cells #[.slice TA n j.tc,.slice RA nr j.rc] 25) (.cells #[.int .i64 m,.slice CA cn cc,.int .i64 r] 92);have HJ:=hI (show ∀X:World,Bl W0 X->JIn X B j/\StIn X B CA cn cc c from fun X hX=>⟨hj.below ((HU0.o X hX).mono hB),hc.below ((HU0.o X hX).mono hB)⟩);have HC:=hI (Check_any j B W0 (HJ.o W0 (Below.refl _ _)).1 (by omega) hS);have hlc:=hj.tl;have hc2:=hj.tc;have hlr:=hj.rl;have hcr:=hj.rc;rw[hn] at hlc;rw[hnr'] at hlr;have hnt:=hS.nt;have hnr:=hS.nr;rw[hn] at hnt;rw[hnr'] at hnr;have Hlen:=hI hc.len;have hsm:=hc.small;have hcn:=hc.le;have hcc:=hc.cap;have Hn:=hI hn;have HTA:=hI hTA;have HRA:=hI hRA;have Hnr:=hI hnr';have Hjv:=hI hjv;rw[hjv] at HC ⊢;obtain⟨je,hje⟩:∃x,jobErr j.p=x:=⟨_,rfl⟩
 rw[hje] at HC;have Hje:=hI hje;have HPv:=hI (show prvV j.p m c r=(decide (je=0)&&provesB j.p m c r) by unfold prvV;rw[hje]);obtain⟨pv,hpv⟩:∃x,prvV j.p m c r=x:=⟨_,rfl⟩
 rw[hpv] at HPv;rw[hje,hpv];have q0:=W7.bc (j:=0) (HX00.o W0 (Below.refl _ _)) rfl;have q1:=W7.bc (j:=1) (HX00.o W0 (Below.refl _ _)) rfl;clear hj hS hc hn hjv hje hTA hRA hnr' hpv;go_enter Tryz.func53,Tryz.ntmps53;go_upto_region 1 with fail;rw[<- HW0.o];go_upto_region 2 with(go_at_call 37;refine HC.o.mono ?_;rintro e w1 ⟨rfl,hb1⟩;have hs1:=hb1.size;have Hb1:=hI hb1;clear hb1)
 clear q0 q1 HC;cases h0:(je==0)
 ·have h0':(je != 0)=true:=by simp[bne,h0]
  have HR:=hI (show pv=false by rw[HPv.o,decide_eq_false (fun h=>by rw[h] at h0;cases h0)];rfl);go_wp2;go_ret2;rw[HR.o];exact⟨rfl,HU0.o _ Hb1.o⟩
 have h0':(je != 0)=false:=by simp[bne,h0]
 obtain rfl:=eq_of_beq h0;have HG:=hI (good_of Hje.o);have h64:n<=64:=by have:=HG.o.nt;rw[j.nt,Hn.o] at this;exact this
 have HP2:=hI (show pv=provesB j.p m c r by rw[HPv.o];simp);clear HPv;have q0:=W7.bc (j:=0) (HX00.o w1 Hb1.o) rfl;have q1:=W7.bc (j:=1) (HX00.o w1 Hb1.o) rfl;have g0:=W7.bc (j:=0) (HX01.o w1 Hb1.o) rfl;have g1:=W7.bc (j:=1) (HX01.o w1 Hb1.o) rfl;have g2:=W7.bc (j:=2) (HX01.o w1 Hb1.o) rfl;cases hm0:decide (m<=0);rotate_left
 ·have HR:=hI (show pv=true by rw[HP2.o,prv_pos (of_decide_eq_true hm0)]);go_wp2;go_ret2;rw[HR.o];exact⟨rfl,HU0.o _ Hb1.o⟩
 have hmp:=of_decide_eq_false hm0;have hm1:1<=m:=by omega
 by_cases hcz:cn=0
 ·have HR:=hI (show pv=(withinB r 0 ((nr:Int)-1)&&decide (roomV (j.p.res.getD r.toNat default) (m-1)<workV j.p r)) by rw[HP2.o,prv_res hmp (by rw[<- Hlen.o];exact hcz),j.nr,Hnr.o]);subst hcz;have yj0:=later_cell (bc (j:=0) (HX00.o w1 Hb1.o) rfl) (by omega);have yj1:=later_cell (bc (j:=1) (HX00.o w1 Hb1.o) rfl) (by omega);have yf0:=later_cell (bc (j:=0) (HX01.o w1 Hb1.o) rfl) (by omega);have yf2:=later_cell (bc (j:=2) (HX01.o w1 Hb1.o) rfl) (by omega);cases hwb:withinB r 0 ((nr:Int)-1)
  ·have HR2:=hI (show pv=false by rw[HR.o,hwb];rfl);go_upto_region 7 with fail;clear q0 q1 g0 g1 g2;have HWi:=hI (fun e:Later w1=>show Calls Tryz.prog 62 #[.int .i64 r,.int .i64 0,.int .i64 ((nr:Int)-1)] e.w fun r' w'=>r'= .returned (.bool false)/\e.w=w' from by have h:=within_any r 0 ((nr:Int)-1) e.w;rwa [hwb] at h);refine wp_region_later (by kernel_rfl) (by kernel_rfl) ?_
   repeat (any_goals (first | go_big_quiet_step ((go_at_call 62;exact later_call_same _ (HWi.o _))) | quiet_step ((go_at_call 62;exact later_call_same _ (HWi.o _)))))
   refine wpQuiet_nil ?_;rintro w' ⟨e5,rfl⟩;have Hb5:=hI (HU0.o _ (Hb1.o.trans (e5.b.mono hs1)));go_wp2;go_ret2;rw[HR2.o];exact⟨rfl,Hb5.o⟩
  have hrb:=withinB_true.1 hwb;have HWi:=hI (fun e:Later w1=>show Calls Tryz.prog 62 #[.int .i64 r,.int .i64 0,.int .i64 ((nr:Int)-1)] e.w fun r' w'=>r'= .returned (.bool true)/\e.w=w' from by have h:=within_any r 0 ((nr:Int)-1) e.w;rwa [hwb] at h);rw[hwb] at HR;obtain⟨q,hq⟩:∃q:Nat,r=(q:Int):=⟨r.toNat,by omega⟩
  subst hq;rw[Int.toNat_natCast] at HR;have hqr:q<nr:=by omega
  have hql:q<j.res.length:=by have:=Hnr.o;omega
  have hjn:=(HJ.o w1 Hb1.o).1;obtain⟨rb,roff,hRb,hrb2⟩:=hjn.ra (by omega);have hRe:RA=some ⟨rb,roff,none⟩:=by rw[<- HRA.o];exact hRb
  obtain⟨r0,r1,r2⟩:=hjn.rcells hRb hql;have HWk:=hI (fun e:Later w1=>work_any j (q:Int) B e.w (HJ.o e.w (Hb1.o.trans (e.b.mono hs1))).1 (by have:=e.b.size;omega) HG.o);have HRo:=hI (fun e:Later w1=>room_any j.p (j.R q) (m-1) B e.w ((HJ.o e.w (Hb1.o.trans (e.b.mono hs1))).1.rss _ (j.R_mem hql)) (by have:=e.b.size;omega) HG.o (j.Rp_mem hql) (by omega));rw[Hjv.o] at HWk;unfold resV at HRo;rw[j.pR] at HR;generalize j.R q=rs at r0 r1 r2 HRo HR;generalize workV j.p (q:Int)=WV at HWk HR;generalize roomV rs.p (m-1)=RV at HRo HR;have z0:=later_cell r0 (by omega);have z1:=later_cell r1 (by omega);have z2:=later_cell r2 (by omega);subst hRe;clear r0 r1 r2 hjn hRb hwb hrb;go_upto_region 7 with fail;clear q0 q1 g0 g1 g2;cases hd:decide (WV>RV)
  ·have HR2:=hI (show pv=false by rw[HR.o,decide_eq_false (show ¬RV<WV from of_decide_eq_false hd)];rfl);refine wp_region_later (by kernel_rfl) (by kernel_rfl) ?_
   repeat (any_goals (first | go_big_quiet_step ((first | (go_at_call 62;exact later_call_same _ (HWi.o _)) | (go_at_call 115;exact later_call _ (HWk.o _)) | (go_at_call 116;exact later_call _ (HRo.o _)))) | quiet_step ((first | (go_at_call 62;exact later_call_same _ (HWi.o _)) | (go_at_call 115;exact later_call _ (HWk.o _)) | (go_at_call 116;exact later_call _ (HRo.o _))))))
   refine wpQuiet_nil ?_;rintro w' ⟨e5,rfl⟩;have Hb5:=hI (HU0.o _ (Hb1.o.trans (e5.b.mono hs1)));go_wp2;go_ret2;rw[HR2.o];exact⟨rfl,Hb5.o⟩
  ·have HR2:=hI (show pv=true by rw[HR.o,decide_eq_true (show RV<WV from of_decide_eq_true hd)];rfl);refine wp_region_later (by kernel_rfl) (by kernel_rfl) ?_
   repeat (any_goals (first | go_big_quiet_step ((first | (go_at_call 62;exact later_call_same _ (HWi.o _)) | (go_at_call 115;exact later_call _ (HWk.o _)) | (go_at_call 116;exact later_call _ (HRo.o _)))) | quiet_step ((first | (go_at_call 62;exact later_call_same _ (HWi.o _)) | (go_at_call 115;exact later_call _ (HWk.o _)) | (go_at_call 116;exact later_call _ (HRo.o _))))))
   refine wpQuiet_nil ?_;rintro w' ⟨e5,rfl⟩;have Hb5:=hI (HU0.o _ (Hb1.o.trans (e5.b.mono hs1)));go_wp2;go_ret2;rw[HR2.o];exact⟨rfl,Hb5.o⟩
 have HR:=hI (show pv=((List.range cn).all (linkB j.p c)&&decide (m<=sumC j.p c cn)) by rw[HP2.o,prv_chain hmp (by rw[<- Hlen.o];exact hcz),<-Hlen.o]);have hcz':((cn:Int)==0)=false:=beq_false_of_ne (by omega);have HBad:=hI (fun(i:Nat) (hi:i<cn) (h:linkB j.p c i=false)=>show pv=false from by rw[HR.o,range_all_bad hi h];rfl);have HSb:=hI (fun i h=>sumC_le HG.o (c:=c) i h);go_wp2;clear q0 q1 g0 g1 g2 HP2;go_loopw [7,49] (fun v7 v49 wr=>∃i:Nat,i<=cn/\v49= .int .i64 i/\v7= .int .i64 (sumC j.p c i)/\Hid (∀k,k<i->linkB j.p c k=true)/\Hid (Bl W0 wr)) (fun _ v49 _=>cn-(intOf v49).toNat);case atStart=>exact⟨0,by omega,rfl,rfl,hI (fun k hk=>absurd hk (by omega)),Hb1⟩
 case round=>
  obtain⟨i,hi,rfl,rfl,HA,Hb⟩:=hrel;have hsr:=Hb.o.size;have hq:=HX00.o wr Hb.o;have hf:=HX01.o wr Hb.o;have hsb:=HSb.o i HA.o
  by_cases hlt:i<cn
  rotate_left
  ·have HE:=hI (show pv=decide (m<=sumC j.p c i) by rw[HR.o,List.all_eq_true.2 (fun k hk=>HA.o k (by have:=List.mem_range.1 hk;omega)),Bool.true_and,show cn=i by omega]);have HUx:=hI (HU0.o wr Hb.o);generalize sumC j.p c i=S at HE hsb;have g0:=W7.bc (j:=0) hf rfl;have g1:=W7.bc (j:=1) hf rfl;have g2:=W7.bc (j:=2) hf rfl;clear hf hq;go_wp2;go_ret2;rw[HE.o];exact⟨rfl,HUx.o⟩
  have hci:i<c.length:=by have:=Hlen.o;omega
  obtain⟨hjn,hst⟩:=HJ.o wr Hb.o;obtain⟨cb,co,hce,hcb,hcs⟩:=hst.sl (by omega)
  have HCc:=hI (show ∀k (hk:k<cn),wr.cell? ⟨cb,co+k,none⟩=some (.int .i64 (c.getD k 0)) from fun k hk=>by
   have hkl:k<c.length:=by have:=Hlen.o;omega
   have h:=hcs k hkl 0 _ rfl;rw[Nat.mul_one,Nat.add_zero] at h;rw[h,List.getD_eq_getElem?_getD,List.getElem?_eq_getElem hkl]
   rfl)
  have c0:=HCc.o i hlt;have HLk:=hI (show linkB j.p c i=(withinB (c.getD i 0) 0 ((n:Int)-1)&&(decide (i=0)||(j.p.tasks.getD (c.getD i 0).toNat default).needs.any (fun y=>y==c.getD (i-1) 0))) by unfold linkB;rw[j.nt,Hn.o]);have HSn:=hI (show sumC j.p c (i+1)=sumC j.p c i+(j.p.tasks.getD (c.getD i 0).toNat default).takes from rfl);have HBi:=hI (HBad.o i hlt);generalize c.getD i 0=x at c0 HLk HSn;generalize sumC j.p c i=S at hsb HSn;have hcbw:cb<wr.heap.size:=by omega
  have yc:=later_cell c0 hcbw;have yj0:=later_cell (bc (j:=0) hq rfl) (by omega);have yf1:=later_cell (bc (j:=1) hf rfl) (by omega);subst hce;clear hcs;cases hwb:withinB x 0 ((n:Int)-1)
  ·have HE:=hI (HBi.o (by rw[HLk.o,hwb];rfl));have HWi:=hI (fun e:Later wr=>show Calls Tryz.prog 62 #[.int .i64 x,.int .i64 0,.int .i64 ((n:Int)-1)] e.w fun r' w'=>r'= .returned (.bool false)/\e.w=w' from by have h:=within_any x 0 ((n:Int)-1) e.w;rwa [hwb] at h);clear hf hq;go_upto_region 12 with fail;clear c0;refine wp_region_later (by kernel_rfl) (by kernel_rfl) ?_
   repeat (any_goals (first | go_big_quiet_step ((go_at_call 62;exact later_call_same _ (HWi.o _))) | quiet_step ((go_at_call 62;exact later_call_same _ (HWi.o _)))))
   refine wpQuiet_nil ?_;rintro w' ⟨e5,rfl⟩;have Hb5:=hI (HU0.o _ (Hb.o.trans (e5.b.mono hsr)));go_wp2;go_ret2;rw[HE.o];exact⟨rfl,Hb5.o⟩
  have HWi:=hI (fun e:Later wr=>show Calls Tryz.prog 62 #[.int .i64 x,.int .i64 0,.int .i64 ((n:Int)-1)] e.w fun r' w'=>r'= .returned (.bool true)/\e.w=w' from by have h:=within_any x 0 ((n:Int)-1) e.w;rwa [hwb] at h);have hxb:=withinB_true.1 hwb;obtain⟨q,hqx⟩:∃q:Nat,x=(q:Int):=⟨x.toNat,by omega⟩
  subst hqx;have hql:q<j.tasks.length:=by have:=Hn.o;omega
  have hqn:q<n:=by omega
  obtain⟨tb,off,hTb,htb⟩:=hjn.ta (by omega);have hTe:TA=some ⟨tb,off,none⟩:=by rw[<- HTA.o];exact hTb
  obtain⟨_,t1,t2,_⟩:=hjn.tcells hTb hql;have HTn:=hI (show ∀X:World,Bl W0 X->X.cell? ⟨tb,off+q*4+1,none⟩=some (.int .i64 (j.T q).p.takes)/\Sl X B 1 encInt1 (j.T q).NA (j.T q).p.needs from fun X hX=>⟨((HJ.o X hX).1.tcells (by rw[<- hTb]) hql).2.1,((HJ.o X hX).1.tks _ (j.T_mem hql)).ns⟩);have htk:=HG.o.takes _ (j.Tp_mem hql);have hnn64:=needs_len HG.o (j.Tp_mem hql);have hnl:=(hjn.tks _ (j.T_mem hql)).nl;have hnc:=(hjn.tks _ (j.T_mem hql)).nc;rw[hwb,Int.toNat_natCast,j.pT,Bool.true_and] at HLk;rw[Int.toNat_natCast,j.pT] at HSn;generalize j.T q=t at t1 t2 HTn htk hnn64 hnl hnc HLk HSn;obtain⟨tk,htk'⟩:∃x,t.p.takes=x:=⟨_,rfl⟩
  rw[htk'] at t1 HTn htk HSn;obtain⟨NA,hNA⟩:∃x,t.NA=x:=⟨_,rfl⟩
  obtain⟨nn,hnn⟩:∃x,t.p.needs.length=x:=⟨_,rfl⟩
  rw[hNA,hnn] at t2;rw[hNA] at HTn;rw[hnn] at hnl hnn64;have z2:=later_cell t2 (by omega);subst hTe
  have HOk:=hI (show linkB j.p c i=true->∀k,k<i+1->linkB j.p c k=true from fun h k hk=>by
   by_cases e:k=i
   ·rw[e];exact h
   ·exact HA.o k (by omega))
  clear hjn hTb htk' hNA hf hq t1 t2 hxb hwb
  by_cases hi0:i=0
  ·have HV:=hI (HOk.o (by rw[HLk.o,decide_eq_true hi0];rfl));have Hi0:=hI hi0;clear hi0;go_upto_region 12 with fail;clear c0;obtain⟨iv,hiv⟩:∃iv:Int,(i:Int)=iv:=⟨_,rfl⟩
   rw[hiv];have hipos:decide (iv>0)=false:=decide_eq_false (by have:=Hi0.o;omega);have Hiv:=hI hiv;clear hiv;refine wp_region_later (by kernel_rfl) (by kernel_rfl) ?_
   repeat (any_goals (first | go_big_quiet_step ((go_at_call 62;exact later_call_same _ (HWi.o _))) | quiet_step ((go_at_call 62;exact later_call_same _ (HWi.o _)))))
   refine wpQuiet_nil ?_;rintro w' ⟨e5,rfl⟩;obtain rfl:=Hiv.o;clear hipos;have Hb5:=hI (Hb.o.trans (e5.b.mono hsr));have t1:=(HTn.o _ Hb5.o).1;have q0:=W7.bc (j:=0) (HX00.o _ Hb5.o) rfl;go_wp2;go_roundw;case rel=>exact⟨i+1,by omega,by go_num,by rw[HSn.o],HV,Hb5⟩
   case measure=>simp[intOf];omega
  have c1:=HCc.o (i-1) (by omega);rw[decide_eq_false hi0,Bool.false_or] at HLk;generalize c.getD (i-1) 0=y at c1 HLk;have HCt:=hI (fun e:Later wr=>containsI_any t.p.needs y nn hnn.symm NA t.nc B e.w (HTn.o e.w (Hb.o.trans (e.b.mono hsr))).2 (by have:=e.b.size;omega) (by omega));rw[any_comm] at HCt;generalize t.p.needs.any (fun z=>z==y)=cb2 at HCt HLk;have yc1:=later_cell c1 hcbw;clear hnn;cases cb2
  ·have HE:=hI (HBi.o HLk.o);go_upto_region 12 with fail;clear c0 c1;obtain⟨iv,hiv⟩:∃iv:Int,(i:Int)=iv:=⟨_,rfl⟩
   rw[hiv];obtain⟨i1,hi1e⟩:∃i1:Nat,i-1=i1:=⟨_,rfl⟩
   have hi1:iv-1=(i1:Int):=by omega
   have hipos:decide (iv>0)=true:=decide_eq_true (by omega);have hi1l:i1<cn:=by omega
   have hivb:0<=iv/\iv<=1000:=by omega
   rw[hi1e] at yc1;have Hiv:=hI hiv;clear hiv hi1e hi0;refine wp_region_later (by kernel_rfl) (by kernel_rfl) ?_
   repeat (any_goals (first | go_big_quiet_step ((first | (go_at_call 62;exact later_call_same _ (HWi.o _)) | (go_at_call 121;exact later_call _ (HCt.o _)))) | quiet_step ((first | (go_at_call 62;exact later_call_same _ (HWi.o _)) | (go_at_call 121;exact later_call _ (HCt.o _))))))
   refine wpQuiet_nil ?_;rintro w' ⟨e5,rfl⟩;obtain rfl:=Hiv.o;clear hipos hi1;have Hb5:=hI (HU0.o _ (Hb.o.trans (e5.b.mono hsr)));go_wp2;go_ret2;rw[HE.o];exact⟨rfl,Hb5.o⟩
  ·have HV:=hI (HOk.o HLk.o);go_upto_region 12 with fail;clear c0 c1;obtain⟨iv,hiv⟩:∃iv:Int,(i:Int)=iv:=⟨_,rfl⟩
   rw[hiv];obtain⟨i1,hi1e⟩:∃i1:Nat,i-1=i1:=⟨_,rfl⟩
   have hi1:iv-1=(i1:Int):=by omega
   have hipos:decide (iv>0)=true:=decide_eq_true (by omega);have hi1l:i1<cn:=by omega
   have hivb:0<=iv/\iv<=1000:=by omega
   rw[hi1e] at yc1;have Hiv:=hI hiv;clear hiv hi1e hi0;refine wp_region_later (by kernel_rfl) (by kernel_rfl) ?_
   repeat (any_goals (first | go_big_quiet_step ((first | (go_at_call 62;exact later_call_same _ (HWi.o _)) | (go_at_call 121;exact later_call _ (HCt.o _)))) | quiet_step ((first | (go_at_call 62;exact later_call_same _ (HWi.o _)) | (go_at_call 121;exact later_call _ (HCt.o _))))))
   refine wpQuiet_nil ?_;rintro w' ⟨e5,rfl⟩;obtain rfl:=Hiv.o;clear hipos hi1;have Hb5:=hI (Hb.o.trans (e5.b.mono hsr));have t1:=(HTn.o _ Hb5.o).1;have q0:=W7.bc (j:=0) (HX00.o _ Hb5.o) rfl;go_wp2;go_roundw;case rel=>exact⟨i+1,by omega,by go_num,by rw[HSn.o],HV,Hb5⟩
   case measure=>simp[intOf];omega
end Go.Proofs.YtjpgnfekbojcaaaGreat
