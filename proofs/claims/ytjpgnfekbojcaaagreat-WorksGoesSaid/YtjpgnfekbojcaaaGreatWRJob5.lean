/- The specification's permutation and uses. -/
import Derived.Test.YtjpgnfekbojcaaaGreatWRJob3
set_option maxHeartbeats 8000000
set_option maxRecDepth 100000
namespace W8
open W7
theorem permB_len {l:List Int} {n:Nat} (h:l.length≠n):permB l n=false:=by unfold permB;rw[decide_eq_false h];rfl
theorem permB_out {l:List Int} {n i:Nat} (hi:i<l.length) (h:withinB l[i] 0 ((n:Int)-1)=false):permB l n=false:=by
 have h1:l.all (fun k=>withinB k 0 ((n:Int)-1))=false:=by
  rw[Bool.eq_false_iff];intro ha;rw[List.all_eq_true.1 ha _ (List.getElem_mem hi)] at h;cases h
 unfold permB;rw[h1,Bool.and_false,Bool.false_and]
theorem permB_twice {l:List Int} {n i k:Nat} (hki:k<i) (hi:i<l.length) (h:l[k]'(by omega)=l[i]):permB l n=false:=by
 have h1: ¬l.Nodup:=fun hn=>by
  have h2:=(List.nodup_iff_pairwise_ne.1 hn)
  rw[List.pairwise_iff_getElem] at h2;exact h2 k i (by omega) hi hki h
 unfold permB;rw[decide_eq_false h1,Bool.and_false]
theorem permB_yes {l:List Int} {n:Nat} (hl:l.length=n) (h:∀k,k<n->withinB (l.getD k default) 0 ((n:Int)-1)=true/\(l.take k).any (fun z=>z==l.getD k default)=false):permB l n=true:=by
 have h1:l.all (fun k=>withinB k 0 ((n:Int)-1))=true:=List.all_eq_true.2 fun x hx=>by
  obtain⟨i,hi,rfl⟩:=List.getElem_of_mem hx;have:=(h i (by omega)).1
  rwa [getD_of hi] at this
 have h2:l.Nodup:=by
  have h3:=nodup_of_prefix (f:=fun x:Int=>x) (l:=l) (fun i hi=>by have:=(h i (by omega)).2;rwa [getD_of hi] at this)
  simpa using h3
 unfold permB;rw[decide_eq_true hl,h1,decide_eq_true h2]
 rfl
def usesV (r:Int) (l:List JUse):Int:=match l.find? (fun u=>u.res==r) with
 | some u=>u.many
 | none=>0
theorem usesV_hit {r:Int} {l:List JUse} {i:Nat} (hi:i<l.length) (hno:(l.take i).any (fun u=>u.res==r)=false) (h:(l[i].res==r)=true):usesV r l=l[i].many:=by
 have h1:l.find? (fun u=>u.res==r)=some l[i]:=by
  rw[List.find?_eq_some_iff_getElem];refine⟨h,i,hi,rfl,fun k hk=> ?_⟩;rw[List.any_eq_false] at hno;have:=hno l[k] (List.mem_take_iff_getElem.2 ⟨k,by omega,rfl⟩)
  simpa using this
 unfold usesV;rw[h1]
theorem usesV_none {r:Int} {l:List JUse} (hno:l.any (fun u=>u.res==r)=false):usesV r l=0:=by
 have h1:l.find? (fun u=>u.res==r)=none:=by
  rw[List.find?_eq_none];rw[List.any_eq_false] at hno;exact hno
 unfold usesV;rw[h1]
theorem pieces_no {r:Int}:∀ {l:List JUse},l.any (fun u=>u.res==r)=false->pieces r l=0
 | [],_=>rfl
 | u::l,h=>by
  rw[List.any_cons,Bool.or_eq_false_iff] at h
  show(if u.res==r then u.many else 0)+pieces r l=0
  rw[h.1,pieces_no h.2]
  rfl
theorem pieces_uses {r:Int}:∀ {l:List JUse},(l.map (·.res)).Nodup->pieces r l=usesV r l
 | [],_=>rfl
 | u::l,h=>by
  rw[List.map_cons,List.nodup_cons] at h
  show(if u.res==r then u.many else 0)+pieces r l=_
  unfold usesV;rw[List.find?_cons];cases hu:(u.res==r)
  ·rw[pieces_uses h.2];simp[usesV]
  ·have hn:l.any (fun v=>v.res==r)=false:=by
    rw[List.any_eq_false];intro v hv he;have e1:u.res=r:=eq_of_beq hu;have e2:v.res=r:=eq_of_beq he;exact h.1 (List.mem_map.2 ⟨v,hv,by rw[e1,e2]⟩)
   rw[pieces_no hn];simp
end W8
namespace Go.Proofs.YtjpgnfekbojcaaaGreat
open Go.RowKit W7 W8
attribute [local go_sem] Oper.semAt_some
theorem refPerm_any (l:List Int) (A:Option Addr) (n c B N:Nat) (w:World) (hn:n=l.length) (hA:Sl w B 1 encInt1 A l) (hB:B<=w.heap.size) (hnl:n<=1000000) (hN:N<=1000000) :
  Calls Tryz.prog 66 #[.slice A n c,.int .i64 (N:Int)] w fun e w'=>e= .returned (.bool (permB l N))/\Bl w w':=by
 have HA:=hI (show ∀X:World,Bl w X->Sl X B 1 encInt1 A l from fun X hX=>hA.below (hX.mono hB));have Hn:=hI hn;have HL:=hI (show l.length≠N->permB l N=false from permB_len);have HY:=hI (fun h1 h2=>permB_yes (l:=l) (n:=N) h1 h2);have HO:=hI (fun i hi h=>permB_out (l:=l) (n:=N) (i:=i) hi h);have HT:=hI (fun k i (hki:k<i) (hi:i<l.length) h=>permB_twice (l:=l) (n:=N) (k:=k) hki hi h);obtain⟨pb,hpb⟩:∃x,permB l N=x:=⟨_,rfl⟩
 rw[hpb] at HL HY HO HT ⊢;clear hA hn hpb;go_enter Tryz.func66,Tryz.ntmps66
 by_cases hne:n=N
 rotate_left
 ·have HE:=hI (HL.o (by rw[<- Hn.o];exact hne));have hne':((n:Int) != (N:Int))=true:=by simp[bne];omega
  go_wp2;go_ret;exact⟨ret_bool HE.o.symm,Below.refl _ _⟩
 subst hne;have hnn:((n:Int) != (n:Int))=false:=by simp
 go_upto_region 4 with fail;clear hnn;go_loopw [5] (fun v5 wr=>∃i:Nat,i<=n/\v5= .int .i64 i/\Hid (∀k,k<i->withinB (l.getD k default) 0 ((n:Int)-1)=true/\(l.take k).any (fun z=>z==l.getD k default)=false)/\Hid (Bl w wr)) (fun v5 _=>n-(intOf v5).toNat);case atStart=>exact⟨0,by omega,rfl,hI (fun k h=>by omega),hI (Below.refl _ _)⟩
 case round=>
  obtain⟨i,hi,rfl,Hf,Hb⟩:=hrel;obtain⟨wl,hwl⟩:∃z,z=wr:=⟨_,rfl⟩
  subst hwl;have hsz:=Hb.o.size
  by_cases hlt:i<n
  ·have hil:i<l.length:=by have:=Hn.o;omega
   obtain⟨b,off,hbe,hbB,hcells⟩:=HA.o wl Hb.o (by omega);subst hbe;have hbw:b<wl.heap.size:=by omega
   have HCl:=hI (show ∀k (hk:k<l.length),wl.cell? ⟨b,off+k,none⟩=some (.int .i64 l[k]) from fun k hk=>by have h:=hcells k hk 0 _ rfl;rwa [Nat.mul_one,Nat.add_zero] at h);have c0:=HCl.o i hil;have HOi:=hI (HO.o i hil);have HTi:=hI (fun k (hk:k<i)=>HT.o k i hk hil)
   have HSu:=hI (fun(h1:withinB l[i] 0 ((n:Int)-1)=true) (h2:(l.take i).any (fun z=>z==l[i])=false)=>show ∀k,k<i+1->withinB (l.getD k default) 0 ((n:Int)-1)=true/\(l.take k).any (fun z=>z==l.getD k default)=false from fun k hk=>by
    by_cases e:k=i
    ·rw[e,getD_of hil];exact⟨h1,h2⟩
    ·exact Hf.o k (by omega))
   generalize l[i]=v at c0 HOi HTi HSu;have Hc0:=hI c0;clear hcells;cases h1:decide (v<0);rotate_left
   ·have He:=hI (HOi.o (by rw[Bool.eq_false_iff];intro h;have:=withinB_true.1 h;have:=of_decide_eq_true h1;omega));go_wp2;go_ret;exact⟨ret_bool He.o.symm,Hb.o⟩
   cases h2:decide (v>=(n:Int));rotate_left
   ·have He:=hI (HOi.o (by rw[Bool.eq_false_iff];intro h;have:=withinB_true.1 h;have:=of_decide_eq_true h2;omega));go_wp2;go_ret;exact⟨ret_bool He.o.symm,Hb.o⟩
   have HW:=hI (show withinB v 0 ((n:Int)-1)=true from withinB_true.2 (by have:=of_decide_eq_false h1;have:=of_decide_eq_false h2;omega));go_upto_region 9 with fail;clear h1 h2 c0;go_loopw [6] (fun v6 wx=>∃k:Nat,k<=i/\v6= .int .i64 k/\Hid ((l.take k).any (fun z=>z==v)=false)/\Hid (Bl wl wx)) (fun v6 _=>i-(intOf v6).toNat);case atStart=>exact⟨0,by omega,rfl,hI (by simp),hI (Below.refl _ _)⟩
   case round=>
    obtain⟨k,hk,rfl,Hno,Hb2⟩:=hrel;have hsz2:=Hb2.o.size;have HbT:=hI (Hb.o.trans (Hb2.o.mono hsz));have ci:wr.cell? ⟨b,off+i,none⟩=some (.int .i64 v):=(Hb2.o.cell (p:=⟨b,off+i,none⟩) hbw).trans Hc0.o
    by_cases hlk:k<i
    ·have hkl:k<l.length:=by omega
     have ck:wr.cell? ⟨b,off+k,none⟩=some (.int .i64 l[k]):=(Hb2.o.cell (p:=⟨b,off+k,none⟩) hbw).trans (HCl.o k hkl);have HN9:=hI (any_not (P:=fun z=>z==v) hkl Hno.o);have HTk:=hI (HTi.o k hlk);generalize l[k]=y at ck HN9 HTk;cases he:(y==v)
     ·have HN2:=hI (HN9.o he);go_wp2
      go_quiet (fail)
      go_wp2;go_roundw;case rel=>exact⟨k+1,by omega,by go_num,HN2,hI (below_drewN Hb2.o _)⟩
      case measure=>simp[intOf];omega
     ·have He:=hI (HTk.o (eq_of_beq he));have HbD:=hI (fun n9=>below_drewN (n:=n9) HbT.o);go_wp2
      go_quiet (fail)
      go_wp2;go_ret;exact⟨ret_bool He.o.symm,below_drewN HbT.o _⟩
    ·obtain rfl:k=i:=by omega
     have HF2:=hI (HSu.o HW.o Hno.o);go_wp2;go_roundw;case rel=>exact⟨k+1,by omega,by go_num,HF2,HbT⟩
     case measure=>simp[intOf];omega
  ·have He:=hI (HY.o Hn.o.symm (fun k hk=>Hf.o k (by omega)));go_wp2;go_ret;exact⟨ret_bool He.o.symm,Hb.o⟩
theorem refUses_any (x:Task) (r:Int) (B:Nat) (w:World) (hx:TkIn w B x) (hB:B<=w.heap.size) :
  Calls Tryz.prog 79 #[.agg #[.string x.p.name,.int .i64 x.p.takes,.slice x.NA x.p.needs.length x.nc,.slice x.UA x.p.uses.length x.uc],.int .i64 r] w fun e w'=>e= .returned (.int .i64 (usesV r x.p.uses))/\Bl w w':=by
 obtain⟨un,hun⟩:∃z,x.p.uses.length=z:=⟨_,rfl⟩
 have hb1:=hx.ul;have hb2:=hx.uc;rw[hun] at hb1;rw[hun];obtain⟨W0,HW0,hs0,HB0,HX00,HU0⟩:=boxes1 w (.cells #[.string x.p.name,.int .i64 x.p.takes,.slice x.NA x.p.needs.length x.nc,.slice x.UA un x.uc] 46);have HN:=hI (show ∀X:World,Bl W0 X->Sl X B 2 encUse x.UA x.p.uses from fun X hX=>hx.us.below ((HB0.o.mono hB).trans (hX.mono (by omega))));have Hun:=hI hun;clear hx hun;go_enter Tryz.func79,Tryz.ntmps79;go_upto_region 2 with fail;rw[<- HW0.o];go_loopw [5] (fun v5 wr=>∃i:Nat,i<=un/\v5= .int .i64 i/\Hid ((x.p.uses.take i).any (fun u=>u.res==r)=false)/\Hid (Bl W0 wr)) (fun v5 _=>un-(intOf v5).toNat);case atStart=>exact⟨0,by omega,rfl,hI (by simp),hI (Below.refl _ _)⟩
 case round=>
  obtain⟨i,hi,rfl,Ha,Hb⟩:=hrel;have hsr:=Hb.o.size;have t0:=W7.bc (j:=0) (HX00.o wr Hb.o) rfl;have t1:=W7.bc (j:=1) (HX00.o wr Hb.o) rfl;have t2:=W7.bc (j:=2) (HX00.o wr Hb.o) rfl;have t3:=W7.bc (j:=3) (HX00.o wr Hb.o) rfl;have HU:=hI (HU0.o wr Hb.o)
  by_cases hlt:i<un
  ·have hil:i<x.p.uses.length:=by have:=Hun.o;omega
   obtain⟨b,off,hbe,hbB,hcells⟩:=HN.o wr Hb.o (by omega);rw[hbe] at t3;have c0:wr.cell? ⟨b,off+i*2,none⟩=some (.int .i64 x.p.uses[i].res):=hcells i hil 0 _ rfl;have c1:wr.cell? ⟨b,off+i*2+1,none⟩=some (.int .i64 x.p.uses[i].many):=hcells i hil 1 _ rfl;have HH:=hI (fun h=>usesV_hit (r:=r) hil Ha.o h);have HN9:=hI (any_not (P:=fun u:JUse=>u.res==r) hil Ha.o);generalize x.p.uses[i]=u at c0 c1 HH HN9;obtain⟨ur,um⟩:=u;dsimp only at c0 c1;clear hcells hbe;cases he:(ur==r)
   ·have HN2:=hI (HN9.o he);go_wp2;go_roundw;case rel=>exact⟨i+1,by omega,by go_num,HN2,Hb⟩
    case measure=>simp[intOf];omega
   ·have HE:=hI (show usesV r x.p.uses=um from HH.o he);go_wp2;go_ret;exact⟨ret_int HE.o.symm,HU.o⟩
  ·have HE:=hI (show usesV r x.p.uses=0 from usesV_none (by
    have h1:=Ha.o
    rwa [List.take_of_length_le (by have:=Hun.o;omega)] at h1))
   go_wp2;go_ret;exact⟨ret_int HE.o.symm,HU.o⟩
structure RBd (X:World) (SA:Option Addr) (pb n:Nat) (b:Bd):Prop where
 st:Sl X X.heap.size 1 encInt1 SA b.st
 pl:X.heap[pb]? =some (.cells (b.pl.map Value.bool).toArray 4 (0,0))
 ns:b.st.length=n
 np:b.pl.length=n
theorem RBd.below {X Y:World} {SA:Option Addr} {pb n:Nat} {b:Bd} (h:RBd X SA pb n b) (hb:Bl X Y):RBd Y SA pb n b:=
 ⟨(h.st.below hb).mono hb.size,(hb.block _ (blk_lt h.pl)).trans h.pl,h.ns,h.np⟩
theorem refLoad_any (j:Job) (b:Bd) (SA:Option Addr) (sc pb n:Nat) (r m:Int) (B:Nat) (w:World) (hj:JIn w B j) (hB:B<=w.heap.size) (hR:RBd w SA pb n b) (hn:j.tasks.length=n) (hG:JGood j.p) (hs:∀i, -9223372036854775808<=b.st.getD i 0/\b.st.getD i 0<=9223372036854775807) (hm:m<=1000000) :
  Calls Tryz.prog 184 #[jobV j,.slice SA n sc,.slice (some ⟨pb,0,none⟩) n n,.int .i64 r,.int .i64 m] w fun e w'=>e= .returned (.int .i64 (usedV j.p b r m))/\Bl w w':=by
 have hn64:n<=64:=by have:=hG.nt;rw[j.nt,hn] at this;exact this
 obtain⟨TA,hTA⟩:∃x,j.TA=x:=⟨_,rfl⟩
 have hjv:jobV j= .agg #[.slice TA n j.tc,.slice j.RA j.res.length j.rc]:=by unfold jobV;rw[hn,hTA]
 rw[hjv];obtain⟨W0,HW0,hs0,HB0,HX00,HU0⟩:=boxes1 w (.cells #[.slice TA n j.tc,.slice j.RA j.res.length j.rc] 25);have HJ:=hI (show ∀X:World,Bl W0 X->JIn X B j/\RBd X SA pb n b from fun X hX=>⟨hj.below ((HU0.o X hX).mono hB),hR.below (HU0.o X hX)⟩);have Hn:=hI hn;have HTA:=hI hTA;have Hs:=hI hs;have Hus:=hI (fun i=>usedTo_le hG b r m i);have Htk:=hI hG.takes;have Hnu:=hI hG.nuses;have HV:=hI (show usedV j.p b r m=usedTo j.p b r m n by unfold usedV;rw[j.nt,hn]);obtain⟨uv,huv⟩:∃x,usedV j.p b r m=x:=⟨_,rfl⟩
 rw[huv] at HV ⊢;clear hj hR hn hG hTA hjv hs huv;go_enter Tryz.func184,Tryz.ntmps184;go_upto_region 3 with fail;rw[<- HW0.o];go_loopw [11,12] (fun v11 v12 wr=>∃(i:Nat) (S:Int),i<=n/\v12= .int .i64 i/\v11= .int .i64 S/\Hid (usedTo j.p b r m i=S)/\Hid (Bl W0 wr)) (fun _ v12 _=>n-(intOf v12).toNat);case atStart=>exact⟨0,0,by omega,rfl,rfl,hI rfl,hI (Below.refl _ _)⟩
 case round=>
  obtain⟨i,S,hi,rfl,rfl,HS,Hb⟩:=hrel;have hsr:=Hb.o.size;have hq:=HX00.o wr Hb.o
  by_cases hlt:i<n
  ·have hil:i<j.tasks.length:=by have:=Hn.o;omega
   obtain⟨hjn,hrb⟩:=HJ.o wr Hb.o;obtain⟨tb,off,hTb,htb⟩:=hjn.ta (by omega);have hTe:TA=some ⟨tb,off,none⟩:=by rw[<- HTA.o];exact hTb
   subst hTe;obtain⟨c0,c1,c2,c3⟩:=hjn.tcells hTb hil;obtain⟨sb,so,hse,hsB,hsc⟩:=hrb.st (by rw[hrb.ns];omega);subst hse
   have s0:wr.cell? ⟨sb,so+i,none⟩=some (.int .i64 (b.st.getD i 0)):=by
    have h:=hsc i (by rw[hrb.ns];exact hlt) 0 _ rfl;rw[Nat.mul_one,Nat.add_zero] at h;rw[h,List.getD_eq_getElem?_getD,List.getElem?_eq_getElem (by rw[hrb.ns];exact hlt)]
    rfl
   have p0:wr.cell? ⟨pb,i,none⟩=some (.bool (b.pl.getD i false)):=bc hrb.pl (map_getD (by rw[hrb.np];exact hlt));have hpb:=blk_lt hrb.pl;have HRu:=hI (show runsB j.p b m i=(b.pl.getD i false&&decide (b.st.getD i 0<=m)&&decide (m<b.st.getD i 0+(j.T i).p.takes)) by unfold runsB endV;rw[j.pT])
   have HSu:=hI (show usedTo j.p b r m (i+1)=S+if runsB j.p b m i then usesV r (j.T i).p.uses else 0 by
    show usedTo j.p b r m i+(if runsB j.p b m i then pieces r (j.p.tasks.getD i default).uses else 0)=_
    rw[HS.o,j.pT,pieces_uses (Hnu.o _ (j.Tp_mem hil))])
   have hus:=Hus.o (i+1) (by rw[j.nt];omega);have hus0:=Hus.o i (by rw[j.nt];omega);rw[HS.o] at hus0;have hst:=Hs.o i;have htk:=Htk.o _ (j.Tp_mem hil);have HTk:=hI (hjn.tks _ (j.T_mem hil));generalize b.st.getD i 0=st at s0 HRu hst;generalize b.pl.getD i false=pi at p0 HRu;generalize j.T i=t at c0 c1 c2 c3 HRu HSu htk HTk;clear hsc hjn hrb hTb;have y0:=later_cell (bc (j:=0) hq rfl) (by omega);have y1:=later_cell (bc (j:=1) hq rfl) (by omega);have z0:=later_cell c0 (by omega);have z1:=later_cell c1 (by omega);have z2:=later_cell c2 (by omega);have z3:=later_cell c3 (by omega);have zs:=later_cell s0 (by omega);have zp:=later_cell p0 hpb;have q0:=W7.bc (j:=0) hq rfl;have q1:=W7.bc (j:=1) hq rfl;have HUs:=hI (fun X hX=>refUses_any t r B X (HTk.o.below (Below.trans (Below.refl B wr) (hX.mono (by omega)))) (by have:=hX.size;omega):∀X:World,Bl wr X->_);go_upto_region 5 with fail
   clear q0 q1 hq c0 c1 c2 c3 s0 p0;cases pi
   ·have HG:=hI (show usedTo j.p b r m (i+1)=S by rw[HSu.o,HRu.o];simp);refine wp_region_later (by kernel_rfl) (by kernel_rfl) ?_
    repeat (any_goals (first | go_big_quiet_step ((fail)) | quiet_step ((fail))))
    refine wpQuiet_nil ?_;rintro w' ⟨e5,rfl⟩;have Hb5:=hI (Hb.o.trans (e5.b.mono hsr));go_wp2;go_roundw;case rel=>exact⟨i+1,S,by omega,by go_num,rfl,HG,Hb5⟩
    case measure=>simp[intOf];omega
   cases h1:decide (st<=m)
   ·have HG:=hI (show usedTo j.p b r m (i+1)=S by rw[HSu.o,HRu.o];rw[h1];simp);refine wp_region_later (by kernel_rfl) (by kernel_rfl) ?_
    repeat (any_goals (first | go_big_quiet_step ((fail)) | quiet_step ((fail))))
    refine wpQuiet_nil ?_;rintro w' ⟨e5,rfl⟩;have Hb5:=hI (Hb.o.trans (e5.b.mono hsr));go_wp2;go_roundw;case rel=>exact⟨i+1,S,by omega,by go_num,rfl,HG,Hb5⟩
    case measure=>simp[intOf];omega
   have h1':=of_decide_eq_true h1;cases h2:decide (m<st+t.p.takes)
   ·have HG:=hI (show usedTo j.p b r m (i+1)=S by rw[HSu.o,HRu.o];rw[h1,h2];simp);refine wp_region_later (by kernel_rfl) (by kernel_rfl) ?_
    repeat (any_goals (first | go_big_quiet_step ((fail)) | quiet_step ((fail))))
    refine wpQuiet_nil ?_;rintro w' ⟨e5,rfl⟩;have Hb5:=hI (Hb.o.trans (e5.b.mono hsr));go_wp2;go_roundw;case rel=>exact⟨i+1,S,by omega,by go_num,rfl,HG,Hb5⟩
    case measure=>simp[intOf];omega
   have HG:=hI (show usedTo j.p b r m (i+1)=S+usesV r t.p.uses by rw[HSu.o,HRu.o,h1,h2];rfl);rw[HG.o] at hus;generalize usesV r t.p.uses=uu at HG HUs hus;have hu1:=hus.1;have hu2:=hus.2;refine wp_region_later (by kernel_rfl) (by kernel_rfl) ?_
   repeat (any_goals (first | go_big_quiet_step ((fail)) | quiet_step ((fail))))
   refine wpQuiet_nil ?_;rintro w' ⟨e5,rfl⟩;have Hb5:=hI (Hb.o.trans (e5.b.mono hsr));have hs5:=e5.b.size;go_wp2_with (go_at_call 79;refine(HUs.o e5.w e5.b).mono ?_;rintro e w5 ⟨rfl,hb5⟩;have Hb6:=hI (Hb5.o.trans (hb5.mono (by omega)));clear hb5);go_roundw;case rel=>exact⟨i+1,S+uu,by omega,by go_num,rfl,HG,Hb6⟩
   case measure=>simp[intOf];omega
  ·have HE:=hI (show uv=S by rw[HV.o,show n=i by omega];exact HS.o);have HU:=hI (HU0.o wr Hb.o);have q0:=W7.bc (j:=0) hq rfl;have q1:=W7.bc (j:=1) hq rfl;go_wp2;go_ret;exact⟨ret_int HE.o.symm,HU.o⟩
end Go.Proofs.YtjpgnfekbojcaaaGreat
