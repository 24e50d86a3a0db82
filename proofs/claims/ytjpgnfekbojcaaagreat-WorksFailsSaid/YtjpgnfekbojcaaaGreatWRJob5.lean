/- The specification's permutation and uses. -/
import Derived.Test.YtjpgnfekbojcaaaGreatWRJob3
import Derived.Test.YtjpgnfekbojcaaaGreatWQue2
set_option maxHeartbeats 8000000
set_option maxRecDepth 100000
namespace W8
open W7
def usesV (r:Int) (l:List JUse):Int:=match l.find? (fun u=>u.res==r) with
 | some u=>u.many
 | none=>0
theorem usesV_hit {r:Int} {l:List JUse} {i:Nat} (hi:i<l.length) (hno:(l.take i).any (fun u=>u.res==r)=false) (h:(l[i].res==r)=true):usesV r l=l[i].many:=by
 have h1:l.find? (fun u=>u.res==r)=some l[i]:=by
  rw[List.find?_eq_some_iff_getElem];refine⟨h,i,hi,rfl,fun k hk=> ?_⟩;rw[List.any_eq_false] at hno;have:=hno l[k] (List.mem_take_iff_getElem.2 ⟨k,by omega,rfl⟩)
  simpa using this
 unfold usesV;rw[h1]
theorem usesV_none {r:Int} {l:List JUse} (hno:l.any (fun u=>u.res==r)=false):usesV r l=0:=by
 have h1:l.find? (fun u=>u.res==r)=none:=by
  rw[List.find?_eq_none];rw[List.any_eq_false] at hno;exact hno
 unfold usesV;rw[h1]
theorem pieces_no {r:Int}:∀ {l:List JUse},l.any (fun u=>u.res==r)=false->pieces r l=0
 | [],_=>rfl
 | u::l,h=>by
  rw[List.any_cons,Bool.or_eq_false_iff] at h
  show(if u.res==r then u.many else 0)+pieces r l=0
  rw[h.1,pieces_no h.2]
  rfl
theorem pieces_uses {r:Int}:∀ {l:List JUse},(l.map (·.res)).Nodup->pieces r l=usesV r l
 | [],_=>rfl
 | u::l,h=>by
  rw[List.map_cons,List.nodup_cons] at h
  show(if u.res==r then u.many else 0)+pieces r l=_
  unfold usesV;rw[List.find?_cons];cases hu:(u.res==r)
  ·rw[pieces_uses h.2];simp[usesV]
  ·have hn:l.any (fun v=>v.res==r)=false:=by
    rw[List.any_eq_false];intro v hv he;have e1:u.res=r:=eq_of_beq hu;have e2:v.res=r:=eq_of_beq he;exact h.1 (List.mem_map.2 ⟨v,hv,by rw[e1,e2]⟩)
   rw[pieces_no hn];simp
end W8
namespace Go.Proofs.YtjpgnfekbojcaaaGreat
open Go.RowKit W7 W8
attribute [local go_sem] Oper.semAt_some
theorem refUses_any (x:Task) (r:Int) (B:Nat) (w:World) (hx:TkIn w B x) (hB:B<=w.heap.size) :
  Calls Tryz.prog 79 #[.agg #[.string x.p.name,.int .i64 x.p.takes,.slice x.NA x.p.needs.length x.nc,.slice x.UA x.p.uses.length x.uc],.int .i64 r] w fun e w'=>e= .returned (.int .i64 (usesV r x.p.uses))/\Bl w w':=by
 obtain⟨un,hun⟩:∃z,x.p.uses.length=z:=⟨_,rfl⟩
 have hb1:=hx.ul;have hb2:=hx.uc;rw[hun] at hb1;rw[hun];obtain⟨W0,HW0,hs0,HB0,HX00,HU0⟩:=boxes1 w (.cells #[.string x.p.name,.int .i64 x.p.takes,.slice x.NA x.p.needs.length x.nc,.slice x.UA un x.uc] 46);have HN:=hI (show ∀X:World,Bl W0 X->Sl X B 2 encUse x.UA x.p.uses from fun X hX=>hx.us.below ((HB0.o.mono hB).trans (hX.mono (by omega))));have Hun:=hI hun;clear hx hun;go_enter Tryz.func79,Tryz.ntmps79;go_upto_region 2 with fail;rw[<- HW0.o];go_loopw [5] (fun v5 wr=>∃i:Nat,i<=un/\v5= .int .i64 i/\Hid ((x.p.uses.take i).any (fun u=>u.res==r)=false)/\Hid (Bl W0 wr)) (fun v5 _=>un-(intOf v5).toNat);case atStart=>exact⟨0,by omega,rfl,hI (by simp),hI (Below.refl _ _)⟩
 case round=>
  obtain⟨i,hi,rfl,Ha,Hb⟩:=hrel;have hsr:=Hb.o.size;have t0:=W7.bc (j:=0) (HX00.o wr Hb.o) rfl;have t1:=W7.bc (j:=1) (HX00.o wr Hb.o) rfl;have t2:=W7.bc (j:=2) (HX00.o wr Hb.o) rfl;have t3:=W7.bc (j:=3) (HX00.o wr Hb.o) rfl;have HU:=hI (HU0.o wr Hb.o)
  by_cases hlt:i<un
  ·have hil:i<x.p.uses.length:=by have:=Hun.o;omega
   obtain⟨b,off,hbe,hbB,hcells⟩:=HN.o wr Hb.o (by omega);rw[hbe] at t3;have c0:wr.cell? ⟨b,off+i*2,none⟩=some (.int .i64 x.p.uses[i].res):=hcells i hil 0 _ rfl;have c1:wr.cell? ⟨b,off+i*2+1,none⟩=some (.int .i64 x.p.uses[i].many):=hcells i hil 1 _ rfl;have HH:=hI (fun h=>usesV_hit (r:=r) hil Ha.o h);have HN9:=hI (any_not (P:=fun u:JUse=>u.res==r) hil Ha.o);generalize x.p.uses[i]=u at c0 c1 HH HN9;obtain⟨ur,um⟩:=u;dsimp only at c0 c1;clear hcells hbe;cases he:(ur==r)
   ·have HN2:=hI (HN9.o he);go_wp2;go_roundw;case rel=>exact⟨i+1,by omega,by go_num,HN2,Hb⟩
    case measure=>simp[intOf];omega
   ·have HE:=hI (show usesV r x.p.uses=um from HH.o he);go_wp2;go_ret;exact⟨ret_int HE.o.symm,HU.o⟩
  ·have HE:=hI (show usesV r x.p.uses=0 from usesV_none (by
    have h1:=Ha.o
    rwa [List.take_of_length_le (by have:=Hun.o;omega)] at h1))
   go_wp2;go_ret;exact⟨ret_int HE.o.symm,HU.o⟩
structure RBd (X:World) (SA:Option Addr) (pb n:Nat) (b:Bd):Prop where
 st:Sl X X.heap.size 1 encInt1 SA b.st
 pl:X.heap[pb]? =some (.cells (b.pl.map Value.bool).toArray 4 (0,0))
 ns:b.st.length=n
 np:b.pl.length=n
theorem RBd.below {X Y:World} {SA:Option Addr} {pb n:Nat} {b:Bd} (h:RBd X SA pb n b) (hb:Bl X Y):RBd Y SA pb n b:=
 ⟨(h.st.below hb).mono hb.size,(hb.block _ (blk_lt h.pl)).trans h.pl,h.ns,h.np⟩
theorem refLoad_any (j:Job) (b:Bd) (SA:Option Addr) (sc pb n:Nat) (r m:Int) (B:Nat) (w:World) (hj:JIn w B j) (hB:B<=w.heap.size) (hR:RBd w SA pb n b) (hn:j.tasks.length=n) (hG:JGood j.p) (hs:∀i, -9223372036854775808<=b.st.getD i 0/\b.st.getD i 0<=9223372036854775807) (hm:m<=1000000) :
  Calls Tryz.prog 184 #[jobV j,.slice SA n sc,.slice (some ⟨pb,0,none⟩) n n,.int .i64 r,.int .i64 m] w fun e w'=>e= .returned (.int .i64 (usedV j.p b r m))/\Bl w w':=by
 have hn64:n<=64:=by have:=hG.nt;rw[j.nt,hn] at this;exact this
 obtain⟨TA,hTA⟩:∃x,j.TA=x:=⟨_,rfl⟩
 have hjv:jobV j= .agg #[.slice TA n j.tc,.slice j.RA j.res.length j.rc]:=by unfold jobV;rw[hn,hTA]
 rw[hjv];obtain⟨W0,HW0,hs0,HB0,HX00,HU0⟩:=boxes1 w (.cells #[.slice TA n j.tc,.slice j.RA j.res.length j.rc] 25);have HJ:=hI (show ∀X:World,Bl W0 X->JIn X B j/\RBd X SA pb n b from fun X hX=>⟨hj.below ((HU0.o X hX).mono hB),hR.below (HU0.o X hX)⟩);have Hn:=hI hn;have HTA:=hI hTA;have Hs:=hI hs;have Hus:=hI (fun i=>usedTo_le hG b r m i);have Htk:=hI hG.takes;have Hnu:=hI hG.nuses;have HV:=hI (show usedV j.p b r m=usedTo j.p b r m n by unfold usedV;rw[j.nt,hn]);obtain⟨uv,huv⟩:∃x,usedV j.p b r m=x:=⟨_,rfl⟩
 rw[huv] at HV ⊢;clear hj hR hn hG hTA hjv hs huv;go_enter Tryz.func184,Tryz.ntmps184;go_upto_region 3 with fail;rw[<- HW0.o];go_loopw [11,12] (fun v11 v12 wr=>∃(i:Nat) (S:Int),i<=n/\v12= .int .i64 i/\v11= .int .i64 S/\Hid (usedTo j.p b r m i=S)/\Hid (Bl W0 wr)) (fun _ v12 _=>n-(intOf v12).toNat);case atStart=>exact⟨0,0,by omega,rfl,rfl,hI rfl,hI (Below.refl _ _)⟩
 case round=>
  obtain⟨i,S,hi,rfl,rfl,HS,Hb⟩:=hrel;have hsr:=Hb.o.size;have hq:=HX00.o wr Hb.o
  by_cases hlt:i<n
  ·have hil:i<j.tasks.length:=by have:=Hn.o;omega
   obtain⟨hjn,hrb⟩:=HJ.o wr Hb.o;obtain⟨tb,off,hTb,htb⟩:=hjn.ta (by omega);have hTe:TA=some ⟨tb,off,none⟩:=by rw[<- HTA.o];exact hTb
   subst hTe;obtain⟨c0,c1,c2,c3⟩:=hjn.tcells hTb hil;obtain⟨sb,so,hse,hsB,hsc⟩:=hrb.st (by rw[hrb.ns];omega);subst hse
   have s0:wr.cell? ⟨sb,so+i,none⟩=some (.int .i64 (b.st.getD i 0)):=by
    have h:=hsc i (by rw[hrb.ns];exact hlt) 0 _ rfl;rw[Nat.mul_one,Nat.add_zero] at h;rw[h,List.getD_eq_getElem?_getD,List.getElem?_eq_getElem (by rw[hrb.ns];exact hlt)]
    rfl
   have p0:wr.cell? ⟨pb,i,none⟩=some (.bool (b.pl.getD i false)):=bc hrb.pl (map_getD (by rw[hrb.np];exact hlt));have hpb:=blk_lt hrb.pl;have HRu:=hI (show runsB j.p b m i=(b.pl.getD i false&&decide (b.st.getD i 0<=m)&&decide (m<b.st.getD i 0+(j.T i).p.takes)) by unfold runsB endV;rw[j.pT])
   have HSu:=hI (show usedTo j.p b r m (i+1)=S+if runsB j.p b m i then usesV r (j.T i).p.uses else 0 by
    show usedTo j.p b r m i+(if runsB j.p b m i then pieces r (j.p.tasks.getD i default).uses else 0)=_
    rw[HS.o,j.pT,pieces_uses (Hnu.o _ (j.Tp_mem hil))])
   have hus:=Hus.o (i+1) (by rw[j.nt];omega);have hus0:=Hus.o i (by rw[j.nt];omega);rw[HS.o] at hus0;have hst:=Hs.o i;have htk:=Htk.o _ (j.Tp_mem hil);have HTk:=hI (hjn.tks _ (j.T_mem hil));generalize b.st.getD i 0=st at s0 HRu hst;generalize b.pl.getD i false=pi at p0 HRu;generalize j.T i=t at c0 c1 c2 c3 HRu HSu htk HTk;clear hsc hjn hrb hTb;have y0:=later_cell (bc (j:=0) hq rfl) (by omega);have y1:=later_cell (bc (j:=1) hq rfl) (by omega);have z0:=later_cell c0 (by omega);have z1:=later_cell c1 (by omega);have z2:=later_cell c2 (by omega);have z3:=later_cell c3 (by omega);have zs:=later_cell s0 (by omega);have zp:=later_cell p0 hpb;have q0:=W7.bc (j:=0) hq rfl;have q1:=W7.bc (j:=1) hq rfl;have HUs:=hI (fun X hX=>refUses_any t r B X (HTk.o.below (Below.trans (Below.refl B wr) (hX.mono (by omega)))) (by have:=hX.size;omega):∀X:World,Bl wr X->_);go_upto_region 5 with fail
   clear q0 q1 hq c0 c1 c2 c3 s0 p0;cases pi
   ·have HG:=hI (show usedTo j.p b r m (i+1)=S by rw[HSu.o,HRu.o];simp);refine wp_region_later (by kernel_rfl) (by kernel_rfl) ?_
    repeat (any_goals (first | go_big_quiet_step ((fail)) | quiet_step ((fail))))
    refine wpQuiet_nil ?_;rintro w' ⟨e5,rfl⟩;have Hb5:=hI (Hb.o.trans (e5.b.mono hsr));go_wp2;go_roundw;case rel=>exact⟨i+1,S,by omega,by go_num,rfl,HG,Hb5⟩
    case measure=>simp[intOf];omega
   cases h1:decide (st<=m)
   ·have HG:=hI (show usedTo j.p b r m (i+1)=S by rw[HSu.o,HRu.o];rw[h1];simp);refine wp_region_later (by kernel_rfl) (by kernel_rfl) ?_
    repeat (any_goals (first | go_big_quiet_step ((fail)) | quiet_step ((fail))))
    refine wpQuiet_nil ?_;rintro w' ⟨e5,rfl⟩;have Hb5:=hI (Hb.o.trans (e5.b.mono hsr));go_wp2;go_roundw;case rel=>exact⟨i+1,S,by omega,by go_num,rfl,HG,Hb5⟩
    case measure=>simp[intOf];omega
   have h1':=of_decide_eq_true h1;cases h2:decide (m<st+t.p.takes)
   ·have HG:=hI (show usedTo j.p b r m (i+1)=S by rw[HSu.o,HRu.o];rw[h1,h2];simp);refine wp_region_later (by kernel_rfl) (by kernel_rfl) ?_
    repeat (any_goals (first | go_big_quiet_step ((fail)) | quiet_step ((fail))))
    refine wpQuiet_nil ?_;rintro w' ⟨e5,rfl⟩;have Hb5:=hI (Hb.o.trans (e5.b.mono hsr));go_wp2;go_roundw;case rel=>exact⟨i+1,S,by omega,by go_num,rfl,HG,Hb5⟩
    case measure=>simp[intOf];omega
   have HG:=hI (show usedTo j.p b r m (i+1)=S+usesV r t.p.uses by rw[HSu.o,HRu.o,h1,h2];rfl);rw[HG.o] at hus;generalize usesV r t.p.uses=uu at HG HUs hus;have hu1:=hus.1;have hu2:=hus.2;refine wp_region_later (by kernel_rfl) (by kernel_rfl) ?_
   repeat (any_goals (first | go_big_quiet_step ((fail)) | quiet_step ((fail))))
   refine wpQuiet_nil ?_;rintro w' ⟨e5,rfl⟩;have Hb5:=hI (Hb.o.trans (e5.b.mono hsr));have hs5:=e5.b.size;go_wp2_with (go_at_call 79;refine(HUs.o e5.w e5.b).mono ?_;rintro e w5 ⟨rfl,hb5⟩;have Hb6:=hI (Hb5.o.trans (hb5.mono (by omega)));clear hb5);go_roundw;case rel=>exact⟨i+1,S+uu,by omega,by go_num,rfl,HG,Hb6⟩
   case measure=>simp[intOf];omega
  ·have HE:=hI (show uv=S by rw[HV.o,show n=i by omega];exact HS.o);have HU:=hI (HU0.o wr Hb.o);have q0:=W7.bc (j:=0) hq rfl;have q1:=W7.bc (j:=1) hq rfl;go_wp2;go_ret;exact⟨ret_int HE.o.symm,HU.o⟩
theorem SrIn.keptS {X Y:World} {d:SrD} {l:Line} {tab:List (List TCall)} {stops:List Int} {S:Nat->Prop} (h:SrIn X d l tab stops) (g:KeptS X Y S) (hS:∀i,S i->d.B<=i/\Alien X i):SrIn Y d l tab stops:=by
 have hne:∀(i:Nat) (o:Obj),X.heap[i]? =some o->(∀cs T,o=Obj.cells cs T (0,0)->T=133\/T=190\/T=195\/T=191\/T=3)->(∃cs T,o=Obj.cells cs T (0,0))->Y.heap[i]? =some o:=fun i o hi ht ⟨cs,T,ho⟩=>by
  refine(g.block i (blk_lt hi) (fun hs=> ?_)).trans hi;have h1:=ht cs T ho;have h2:=(hS i hs).2 cs T (by rw[hi,ho]);rcases h1 with h1 | h1 | h1 | h1 | h1
  ·exact h2.1 h1
  ·exact h2.2.1 h1
  ·exact h2.2.2.1 h1
  ·exact h2.2.2.2.1 h1
  ·exact h2.2.2.2.2 h1
 have hmin:∀c f,MinIn X c f->MinIn Y c f:=fun c f ⟨cs,h1,h2⟩=>⟨cs,hne c _ h1 (fun cs T e=>by cases e;exact .inr (.inr (.inl rfl))) ⟨_,_,rfl⟩,h2⟩
 have hown:∀ {T:TypeId} {v:Value} {n:Nat} {xs:List Value},X.ownsRow d.base T 1 v n xs->(T=133\/T=190\/T=195\/T=191\/T=3)->Y.ownsRow d.base T 1 v n xs:=fun{T v n xs} hr hT=>
  ⟨hr.1,hr.2.imp id fun⟨c,cap,cur,h1,h2,h3,h4⟩=>⟨c,cap,cur,h1,h2,hne c _ h3 (fun cs T' e=>by cases e;exact hT) ⟨_,_,rfl⟩,h4⟩⟩
 have hbl:Below d.B X Y:=g.below h.hB (fun i hi=>(hS i hi).1)
 exact⟨hne _ _ h.blk (fun cs T e=>by cases e;exact .inl rfl) ⟨_,_,rfl⟩,
  ⟨hne _ _ h.trk.blk (fun cs T e=>by cases e;exact .inr (.inl rfl)) ⟨_,_,rfl⟩,hown h.trk.sr (.inr (.inr (.inr (.inl rfl)))),hown h.trk.kr (.inr (.inr (.inr (.inl rfl)))),fun i hi=>hmin _ _ (h.trk.st i hi),fun i hi=>hmin _ _ (h.trk.se i hi),h.trk.nd,h.trk.ge,h.trk.ne⟩,
  h.ln.below hbl,Nat.le_trans h.hB g.size,hown h.sp (.inr (.inr (.inr (.inr rfl)))),h.sl,h.kl,h.ok,h.st⟩
structure RIn (X:World) (d:SrD) (l:Line) (tab:List (List TCall)) (stops:List Int) (base qb:Nat) (v:Value) (s:RSt):Prop where
 sr:SrIn X d l tab stops
 mp:MapIn X d.mb s.seen (fun _ _=>true)
 q:QIn X base qb v s.q
 hm:d.B<=d.mb
 hb:d.B<=base
 hbq:base<=qb
 hbs:base<=X.heap.size
section
variable {X Y:World} {d:SrD} {l:Line} {tab:List (List TCall)} {stops:List Int} {base qb:Nat} {v:Value} {s:RSt}
theorem QIn.kept {ms:List (Nat×Int)} (h:QIn X base qb v ms) (h1:Y.heap[qb]? =X.heap[qb]?) (h2:∀g,v.ownBlock=some g->Y.heap[g]? =X.heap[g]?):QIn Y base qb v ms:=⟨h1.trans h.blk,h.row.kept h2⟩
theorem RIn.below (h:RIn X d l tab stops base qb v s) (hb:Bl X Y):RIn Y d l tab stops base qb v s:=
 ⟨h.sr.below hb,h.mp.below hb,h.q.kept (hb.block _ (blk_lt h.q.blk)) (fun _ hg=>hb.block _ (h.q.row.lt hg).2.1),h.hm,h.hb,h.hbq,Nat.le_trans h.hbs hb.size⟩
theorem RIn.mq (h:RIn X d l tab stops base qb v s):d.mb≠qb/\∀g,v.ownBlock=some g->g≠d.mb:=by
 obtain⟨es,c,h1⟩:=h.mp.is;refine⟨fun e=> ?_,fun g hg e=> ?_⟩
 ·rw[e,h.q.blk] at h1;cases h1
 ·obtain⟨_,_,cs,h2⟩:=h.q.row.lt hg;rw[e,h1] at h2;cases h2
theorem RIn.alien (h:RIn X d l tab stops base qb v s):Alien X qb/\∀g,v.ownBlock=some g->Alien X g:=by
 refine⟨fun cs T hc=> ?_,fun g hg cs T hc=> ?_⟩
 ·rw[h.q.blk] at hc;cases hc
  decide
 ·obtain⟨_,_,cs',h2⟩:=h.q.row.lt hg;rw[h2] at hc;cases hc
  decide
end
structure VisR (d:SrD) (l:Line) (tab:List (List TCall)) (stops:List Int) (base qb:Nat) (v:Value) (s:RSt) (w:World) (e:Ending) (w':World):Prop where
 val:e= .returned (.tuple #[])
 ex:∃v',RIn w' d l tab stops base qb v' s/\(v'.ownBlock=v.ownBlock\/∃g,v'.ownBlock=some g/\w.heap.size<=g)
 k:KeptS w w' (fun i=>i=d.mb\/i=qb\/v.ownBlock=some i)
theorem visit_any (d:SrD) (l:Line) (tab:List (List TCall)) (stops:List Int) (base qb sbx:Nat) (v:Value) (s:RSt) (ready:Int) (k:Nat) (t:Int) (w:World) (h:RIn w d l tab stops base qb v s) (hi:RInv l tab stops ready s) (hk:k<stops.length) (ht: -1000<=t/\t<=1000000)
  (hql:s.q.length<=10000000) (hsb:w.cell? ⟨sbx,0,none⟩=some (.pointer (some ⟨d.sg,0,none⟩))) (hsl:sbx<w.heap.size) :
  Calls Tryz.prog 154 #[moV k t,.pointer (some ⟨sbx,0,none⟩),.pointer (some ⟨qb,0,none⟩)] w (VisR d l tab stops base qb v (visV l tab stops s k t) w):=by
 obtain⟨W0,hW0⟩:∃W0,W0=w.alloc (.cells #[.int .i64 (k:Int),.int .i64 t] 136):=⟨_,rfl⟩
 have hs0:W0.heap.size=w.heap.size+1:=by rw[hW0];simp
 have hB0:Bl w W0:=by rw[hW0];exact(Below.refl _ _).alloc (Nat.le_refl _) _
 have hX0:W0.heap[w.heap.size]? =some (.cells #[.int .i64 (k:Int),.int .i64 t] 136 (0,0)):=by rw[hW0];exact heap_alloc_new _ _
 have H0:=hI (h.below hB0);have hs16:=h.sr.st.len;have Hkb:=hI (show KeyB k t from⟨by omega,by omega,by omega⟩);have hseen:=hi.len
 have hsl2:s.seen.length<1000000000:=by
  have h3:stops.length*100001<=16*100001:=Nat.mul_le_mul_right _ hs16;omega
 obtain⟨rm,hrm⟩:∃x,roomB l tab stops k t=x:=⟨_,rfl⟩
 have HRo:=hI (fun(e:Later W0)=>by have h5:=sroom_any d l tab stops k t e.w (H0.o.below e.b).sr hk;rw[hrm] at h5;exact h5);obtain⟨ct,hct⟩:∃x,s.seen.contains (k,t)=x:=⟨_,rfl⟩
 have yl:∀e:Later W0,(Instr.lookup 131 (.map (some d.mb)) (.agg #[.int .i64 (k:Int),.int .i64 t]) false).run Tryz.prog e.w= .ok (.bool ct) e.w:=fun e=>by
  have h5:=(H0.o.mp.below e.b).look Hkb.o;rw[hct,Bool.and_true] at h5;exact h5
 have hblk:=H0.o.sr.blk;have y0:=later_cell ((hB0.cell (p:=⟨sbx,0,none⟩) hsl).trans hsb) (by omega);have y1:=later_cell (bc (j:=2) hblk rfl) (blk_lt hblk);have y2:=later_cell (bc (j:=0) hX0 rfl) (by omega);have y3:=later_cell (bc (j:=1) hX0 rfl) (by omega);have HV:=hI (show visV l tab stops s k t=if rm&& !ct then⟨(k,t)::s.seen,s.q++[(k,t)],s.best⟩ else s by unfold visV;rw[hrm,hct]);have HSame:=hI (show ∀X,visV l tab stops s k t=s->Bl w X->VisR d l tab stops base qb v (visV l tab stops s k t) w (.returned (.tuple #[])) X from fun X hv hX=>⟨rfl,⟨v,by rw[hv];exact h.below hX,.inl rfl⟩,KeptS.of_below hX⟩);have HB0:=hI hB0;have HX0:=hI hX0;have HW0:=hI hW0;have Hct:=hI hct;have Hw:=hI h;have Hsb:=hI hsb;have hsmb:=h.sr.blk;unfold moV;clear hW0 hB0 hX0 h hi hrm hct hblk hsmb hsb;go_enter Tryz.func154,Tryz.ntmps154;go_upto_region 1 with fail;rw[<- HW0.o];cases rm
 ·have HR:=hI (show visV l tab stops s k t=s by rw[HV.o];rfl);refine wp_region_later (by kernel_rfl) (by kernel_rfl) ?_
  repeat (any_goals (first | go_big_quiet_step ((go_at_call 155;exact later_call _ (HRo.o _))) | quiet_step ((go_at_call 155;exact later_call _ (HRo.o _)))))
  refine wpQuiet_nil ?_;rintro w' ⟨e,rfl⟩;have HRr:=hI (HSame.o e.w HR.o (HB0.o.trans (e.b.mono (by omega))));go_wp2;go_end0;exact HRr.o
 cases ct;rotate_left
 ·have HR:=hI (show visV l tab stops s k t=s by rw[HV.o];rfl);refine wp_region_later (by kernel_rfl) (by kernel_rfl) ?_
  repeat (any_goals (first | go_big_quiet_step ((go_at_call 155;exact later_call _ (HRo.o _))) | quiet_step ((go_at_call 155;exact later_call _ (HRo.o _)))))
  refine wpQuiet_nil ?_;rintro w' ⟨e,rfl⟩;have HRr:=hI (HSame.o e.w HR.o (HB0.o.trans (e.b.mono (by omega))));go_wp2;go_end0;exact HRr.o
 have HR:=hI (show visV l tab stops s k t=⟨(k,t)::s.seen,s.q++[(k,t)],s.best⟩ by rw[HV.o];rfl);refine wp_region_later (by kernel_rfl) (by kernel_rfl) ?_
 repeat (any_goals (first | go_big_quiet_step ((go_at_call 155;exact later_call _ (HRo.o _))) | quiet_step ((go_at_call 155;exact later_call _ (HRo.o _)))))
 refine wpQuiet_nil ?_;rintro w' ⟨e,rfl⟩;obtain⟨W1,hW1⟩:∃W1,W1=e.w:=⟨_,rfl⟩
 have HB1:=hI (show Bl W0 W1 by rw[hW1];exact e.b);have H1:=hI (H0.o.below HB1.o);have hX1:=(HB1.o.block _ (by omega)).trans HX0.o;have hb1:=H1.o.sr.blk;have z0:=later_cell ((HB1.o.cell (p:=⟨sbx,0,none⟩) (show sbx<W0.heap.size by omega)).trans ((HB0.o.cell (p:=⟨sbx,0,none⟩) hsl).trans Hsb.o)) (by have:=HB1.o.size;omega);have z1:=later_cell (bc (j:=2) hb1 rfl) (blk_lt hb1);have z2:=later_cell (bc (j:=0) hX1 rfl) (blk_lt hX1);have z3:=later_cell (bc (j:=1) hX1 rfl) (blk_lt hX1);go_upto_region 2 with fail;rw[<- hW1];clear hW1 y0 y1 y2 y3 yl hX1 hb1;refine wp_region_later_tail 5 (by kernel_rfl) (by kernel_rfl) ?_;simp only[List.take_succ_cons,List.take_zero,List.drop_succ_cons,List.drop_zero]
 repeat (any_goals (first | go_big_quiet_step ((fail)) | quiet_step ((fail))))
 refine wpQuiet_nil ?_;rintro w' ⟨e2,rfl⟩;obtain⟨W2,hW2⟩:∃W2,W2=e2.w:=⟨_,rfl⟩
 have HB2:=hI (show Bl W1 W2 by rw[hW2];exact e2.b);have H2:=hI (H1.o.below HB2.o);rw[<- hW2];clear hW2 z0 z1 z2 z3;have hs2:w.heap.size+1<=W2.heap.size:=by have:=HB1.o.size;have:=HB2.o.size;omega
 go_upto_region 3 with(at_mapUpdate;go_loud (refine wpList_mapIn_put rfl rfl _ _ _ rfl d.mb s.seen (fun _ _=>true) k t H2.o.mp rfl rfl rfl Hkb.o hsl2 ?_);intro w3 hm3 hg3;have Hm3:=hI hm3;have Hg3:=hI hg3;have hs3:=hg3.size;clear hm3 hg3)
 have HX2:=hI ((HB2.o.block w.heap.size (by have:=HB1.o.size;omega)).trans ((HB1.o.block _ (by omega)).trans HX0.o));have hmq:=H2.o.mq;have hmw:d.mb≠w.heap.size:=by have:=Hw.o.mp.lt;omega
 have hX3:=(Hg3.o.block w.heap.size (by omega) (fun e9=>hmw (Option.some.inj e9).symm)).trans HX2.o;have HQ3:=hI (show QIn w3 base qb v s.q from H2.o.q.kept (Hg3.o.block _ (blk_lt H2.o.q.blk) (fun e9=>hmq.1 (Option.some.inj e9).symm)) (fun g hg=>Hg3.o.block _ (H2.o.q.row.lt hg).2.1 (fun e9=>hmq.2 g hg (Option.some.inj e9))));have HS3:=hI (show SrIn w3 d l tab stops from H2.o.sr.grown Hg3.o H2.o.hm H2.o.mp.alien);have HPu:=hI (by have h5:=put_any base qb v s.q k t w3 HQ3.o (by omega) (by have:=H2.o.hbs;omega);unfold moV at h5;exact h5);have x0:=W7.bc (j:=0) hX3 rfl;have x1:=W7.bc (j:=1) hX3 rfl;clear hX3 hmq;go_wp2_with (go_at_call 156;go_loud (refine HPu.o.mono ?_);rintro e4 w4 ⟨rfl,hx4,hk4⟩;have Hx4:=hI hx4;have Hk4:=hI hk4;clear hx4 hk4);go_end0;have hmq:=H2.o.mq;have hal:=H2.o.alien;obtain⟨v',hq4,ho4⟩:=Hx4.o;have hk4:=Hk4.o
 have hal3:Alien w3 qb/\∀g,v.ownBlock=some g->Alien w3 g:=by
  refine⟨fun cs T hc=> ?_,fun g hg cs T hc=> ?_⟩
  ·rw[HQ3.o.blk] at hc;cases hc;decide
  ·obtain⟨_,_,cs',h2⟩:=HQ3.o.row.lt hg;rw[h2] at hc;cases hc;decide
 have hS4:SrIn w4 d l tab stops:=HS3.o.keptS hk4 (fun i hi=>by
  rcases hi with hi | hi
  ·rw[hi];exact⟨by have:=H2.o.hb;have:=H2.o.hbq;omega,hal3.1⟩
  ·exact⟨by have:=(HQ3.o.row.lt hi).1;have:=H2.o.hb;omega,hal3.2 i hi⟩)
 have hm4:MapIn w4 d.mb ((k,t)::s.seen) (fun _ _=>true):=by
  have h5:=Hm3.o;unfold insK at h5;rw[Hct.o,if_neg (by decide)] at h5
  exact h5.kept (hk4.block _ h5.lt (fun hs=>by
   rcases hs with hs | hs
   ·exact hmq.1 hs
   ·exact hmq.2 _ hs rfl))
 have hBw2:Bl w W2:=HB0.o.trans ((HB1.o.trans (HB2.o.mono HB1.o.size)).mono (by omega));refine⟨rfl,⟨v',by rw[HR.o];exact⟨hS4,hm4,hq4,H2.o.hm,H2.o.hb,H2.o.hbq,Nat.le_trans H2.o.hbs (Nat.le_trans hs3 hk4.size)⟩,ho4.imp id (fun⟨g,h1,h2⟩=>⟨g,h1,by omega⟩)⟩,?_⟩;exact((KeptS.of_below hBw2).trans (KeptS.of_grown Hg3.o (fun i hi=> .inl (Option.some.inj hi).symm))).trans (hk4.mono (fun i hi=> .inr hi))
end Go.Proofs.YtjpgnfekbojcaaaGreat
