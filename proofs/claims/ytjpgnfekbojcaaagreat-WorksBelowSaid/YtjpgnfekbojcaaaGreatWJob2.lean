/- A board: how much of a resource is used in a minute. -/
import Derived.Test.YtjpgnfekbojcaaaGreatWJSpec
import Derived.RangeFuncFrom
import Derived.RangeFuncCalls
import Derived.OrdersIn
import Derived.TacticsIn
set_option maxHeartbeats 4000000
set_option maxRecDepth 100000
namespace W8
open W7
theorem pieces_le {r:Int}:∀ {l:List JUse},(∀u∈l,1<=u.many/\u.many<=1000)->(l.map (·.res)).Nodup->0<=pieces r l/\pieces r l<=1000
 | [],_,_=>by simp[pieces]
 | u::l,h,hn=>by
  have h1:=pieces_le (r:=r) (l:=l) (fun x hx=>h x (List.mem_cons_of_mem _ hx)) (by simp only[List.map_cons,List.nodup_cons] at hn;exact hn.2);have h2:=h u (List.mem_cons_self ..);simp only[pieces]
  by_cases he:(u.res==r)=true
  ·rw[if_pos he]
   have hz:pieces r l=0:=by
    simp only[List.map_cons,List.nodup_cons] at hn
    have hno:∀x∈l,(x.res==r)=false:=fun x hx=>by
     cases hxr:(x.res==r)
     ·rfl
     ·have e1:=eq_of_beq hxr;have e2:=eq_of_beq he;exact absurd (List.mem_map.2 ⟨x,hx,by rw[e1,e2]⟩) hn.1
    clear h hn h1
    induction l with
    | nil=>rfl
    | cons y l ih=>
     simp only[pieces];rw[hno y (List.mem_cons_self ..),if_neg (by decide),ih (fun x hx=>hno x (List.mem_cons_of_mem _ hx))]
     rfl
   omega
  ·rw[if_neg he];omega
theorem pieces_snoc (r:Int):∀(l:List JUse) (u:JUse),pieces r (l++[u])=pieces r l+if u.res==r then u.many else 0
 | [],u=>by simp[pieces]
 | x::l,u=>by simp only[List.cons_append,pieces];rw[pieces_snoc r l u];omega
theorem pieces_pre {r:Int} {l:List JUse} (h:∀u∈l,1<=u.many/\u.many<=1000) (hn:(l.map (·.res)).Nodup) (k:Nat):0<=pieces r (l.take k)/\pieces r (l.take k)<=1000:=
 pieces_le (fun u hu=>h u (List.mem_of_mem_take hu)) (hn.sublist ((List.take_sublist _ _).map _))
theorem pieces_good {j:JobP} (hG:JGood j) {t:TaskP} (ht:t∈j.tasks) (r:Int) (k:Nat):0<=pieces r (t.uses.take k)/\pieces r (t.uses.take k)<=1000:=
 pieces_pre (fun u hu=>⟨(hG.uses t ht u hu).2.2.1,(hG.uses t ht u hu).2.2.2.1⟩) (hG.nuses t ht) k
theorem usedTo_le {j:JobP} (hG:JGood j) (b:Bd) (r m:Int):∀i,i<=j.tasks.length->0<=usedTo j b r m i/\usedTo j b r m i<=1000*i
 | 0,_=>by simp[usedTo]
 | i+1,hi=>by
  have h1:=usedTo_le hG b r m i (by omega);have h2:=pieces_good hG (t:=j.tasks.getD i default) (by rw[getD_of (by omega)];exact List.getElem_mem _) r (j.tasks.getD i default).uses.length;rw[List.take_length] at h2;simp only[usedTo]
  split<;>omega
theorem usedV_le {j:JobP} (hG:JGood j) (b:Bd) (r m:Int):0<=usedV j b r m/\usedV j b r m<=64000:=by
 have h1:=usedTo_le hG b r m j.tasks.length (Nat.le_refl _);have h2:=hG.nt;unfold usedV;omega
end W8
namespace Go.Proofs.YtjpgnfekbojcaaaGreat
open Go.RowKit W7 W8
attribute [local go_sem] Oper.semAt_some
theorem used_any (j:Job) (b:Bd) (fr r m:Int) (g sb pb B:Nat) (w:World) (hb:BdIn w g sb pb j b fr) (hj:JIn w B j) (hB:B<=w.heap.size) (hG:JGood j.p) (hs:BOk b) :
  Calls Tryz.prog 214 #[.pointer (some ⟨g,0,none⟩),.int .i64 r,.int .i64 m] w fun e w'=>e= .returned (.int .i64 (usedV j.p b r m))/\Bl w w':=by
 obtain⟨n,hn⟩:∃n,j.tasks.length=n:=⟨_,rfl⟩
 obtain⟨TA,hTA⟩:∃x,j.TA=x:=⟨_,rfl⟩
 have h64:n<=64:=by have:=hG.nt;rw[j.nt] at this;omega
 have hlc:=hj.tl;have hc2:=hj.tc;rw[hn] at hlc;have HB:=hI (show ∀X:World,Bl w X->BdIn X g sb pb j b fr/\JIn X B j from fun X hX=>⟨hb.below hX,hj.below (hX.mono hB)⟩);have HG:=hI hG;have HS:=hI hs;have Hn:=hI hn;have HTA:=hI hTA;have HU:=hI (show usedV j.p b r m=usedTo j.p b r m n by unfold usedV;rw[j.nt,hn]);have q0:=bc (j:=0) hb.hg rfl;rw[hTA,hn] at q0;clear hb hj hG hs hn hTA;go_enter Tryz.func214,Tryz.ntmps214;go_wp2;clear q0;go_loopw [7,18] (fun v7 v18 wr=>∃i:Nat,i<=n/\v18= .int .i64 i/\v7= .int .i64 (usedTo j.p b r m i)/\Hid (Bl w wr)) (fun _ v18 _=>n-(intOf v18).toNat);case atStart=>exact⟨0,by omega,rfl,rfl,hI (Below.refl _ _)⟩
 case round=>
  obtain⟨i,hi,rfl,rfl,Hb⟩:=hrel;have hsz:=Hb.o.size
  by_cases hlt:i<n
  ·have hil:i<j.tasks.length:=by have:=Hn.o;omega
   obtain⟨hbd,hjn⟩:=HB.o wr Hb.o;obtain⟨tb,off,hTb,htb⟩:=hjn.ta (by omega);have hTe:TA=some ⟨tb,off,none⟩:=by rw[<- HTA.o];exact hTb
   subst hTe;obtain⟨c0,c1,c2,c3⟩:=hjn.tcells hTb hil;have p2:=bc (j:=2) hbd.hg rfl;have p1:=bc (j:=3) hbd.hg rfl;rw[Hn.o] at p1 p2;have cs:=hbd.st hil;have cp:=hbd.pl hil;have HE:=hI (fun(X:World) (hX:Bl w X)=>end_any j b fr g sb pb B i X (HB.o X hX).1 (HB.o X hX).2 HG.o hil (HS.o i));have hu1:=usedTo_le HG.o b r m i (by rw[j.nt];omega);have HStep:=hI (show usedTo j.p b r m (i+1)=usedTo j.p b r m i+if runsB j.p b m i then pieces r (j.T i).p.uses else 0 by rw[<- j.pT];rfl);have HRun:=hI (show runsB j.p b m i=(b.pl.getD i false&&decide (b.st.getD i 0<=m)&&decide (m<endV j.p b i)) from rfl);have HPs:=hI (fun k=>pieces_good HG.o (j.Tp_mem hil) r k);have hTk:=hjn.tks _ (j.T_mem hil);have HTk:=hI (fun(X:World) (hX:Bl wr X)=>((HB.o X (Hb.o.trans (hX.mono hsz))).2.tks _ (j.T_mem hil)).us);have hul:=hTk.ul;have huc:=hTk.uc;generalize j.T i=t at c0 c1 c2 c3 HStep HPs HTk hul huc
   obtain⟨s,hs'⟩:∃x,b.st.getD i 0=x:=⟨_,rfl⟩
   obtain⟨pl,hp'⟩:∃x,b.pl.getD i false=x:=⟨_,rfl⟩
   rw[hs'] at cs HRun;rw[hp'] at cp HRun;have Hs':=hI hs';have Hp':=hI hp';clear hs' hp';generalize endV j.p b i=ev at HE HRun;generalize usedTo j.p b r m i=S at hu1 HStep;have hS2:S<=100000:=by omega
   obtain⟨UA,hUA⟩:∃x,t.UA=x:=⟨_,rfl⟩
   obtain⟨nu,hnu⟩:∃x,t.p.uses.length=x:=⟨_,rfl⟩
   rw[hUA,hnu] at c3;rw[hUA] at HTk;rw[hnu] at hul;have Hnu:=hI hnu;clear hTk hbd hjn hTb hUA hnu;go_upto_region 5 with fail;obtain⟨W2,hW2⟩:∃W2,W2=wr.alloc (.cells #[.string t.p.name,.int .i64 t.p.takes,.slice t.NA t.p.needs.length t.nc,.slice UA nu t.uc] 46):=⟨_,rfl⟩
   have HB2:=hI (show Bl wr W2 by rw[hW2];exact(Below.refl _ _).alloc (Nat.le_refl _) _);have hs2:wr.heap.size+1<=W2.heap.size:=by rw[hW2];simp
   have HX2:=hI (show ∀X:World,Bl W2 X->X.heap[wr.heap.size]? =some (.cells #[.string t.p.name,.int .i64 t.p.takes,.slice t.NA t.p.needs.length t.nc,.slice UA nu t.uc] 46 (0,0)) from fun X hX=>(hX.block _ (by omega)).trans (by rw[hW2];exact heap_alloc_new _ _));rw[<- hW2];have HA2:=hI (Hb.o.trans (HB2.o.mono hsz));clear hW2 c0 c1 c2 c3 p1 p2 cs cp;obtain⟨hbd,hjn⟩:=HB.o W2 HA2.o;have p2:=bc (j:=2) hbd.hg rfl;have p1:=bc (j:=3) hbd.hg rfl;rw[Hn.o] at p1 p2;have cs:W2.cell? ⟨sb,i,none⟩=some (.int .i64 s):=by rw[hbd.st hil,Hs'.o]
   have cp:W2.cell? ⟨pb,i,none⟩=some (.bool pl):=by rw[hbd.pl hil,Hp'.o]
   have HUsz:=hI (show Bl w W2 from HA2.o);clear hbd hjn;cases pl
   ·have HN:=hI (show usedTo j.p b r m (i+1)=S by rw[HStep.o,HRun.o];simp);go_wp2;go_roundw;case rel=>exact⟨i+1,by omega,by go_num,by rw[HN.o],HA2⟩
    case measure=>simp[intOf];omega
   by_cases h1:m<s
   ·have HN:=hI (show usedTo j.p b r m (i+1)=S by rw[HStep.o,HRun.o,decide_eq_false (show ¬s<=m by omega)];simp);go_wp2;go_roundw;case rel=>exact⟨i+1,by omega,by go_num,by rw[HN.o],HA2⟩
    case measure=>simp[intOf];omega
   have HE2:=hI (HE.o W2 HA2.o)
   by_cases h2:ev<=m
   ·have HN:=hI (show usedTo j.p b r m (i+1)=S by rw[HStep.o,HRun.o,decide_eq_false (show ¬m<ev by omega)];simp);go_wp2_with (go_at_call 138;refine HE2.o.mono ?_;rintro e w' ⟨rfl,kk,rfl⟩);go_roundw;case rel=>exact⟨i+1,by omega,by go_num,by rw[HN.o],hI (below_drewN HA2.o _)⟩
    case measure=>simp[intOf];omega
   have HN:=hI (show usedTo j.p b r m (i+1)=S+pieces r t.p.uses by rw[HStep.o,HRun.o,decide_eq_true (show s<=m by omega),decide_eq_true (show m<ev by omega)];simp);obtain⟨wo,rfl⟩:∃wo:World,wo=wr:=⟨_,rfl⟩
   go_upto_region 6 with(go_at_call 138;refine HE2.o.mono ?_;rintro e w' ⟨rfl,kk,rfl⟩)
   obtain⟨W3,hW3⟩:∃W3,W3=W2.drewN kk:=⟨_,rfl⟩
   have HB3:=hI (show Bl W2 W3 by rw[hW3];exact below_drewN (Below.refl _ _) _);have hs3:W2.heap.size<=W3.heap.size:=HB3.o.size;rw[<- hW3];have HA3:=hI (HA2.o.trans (HB3.o.mono (by omega)));have d3:=bc (j:=3) (HX2.o W3 HB3.o) rfl;clear hW3 p1 p2 cs cp HE2;go_wp2;clear d3;go_loopw [7,52] (fun v7 v52 wq=>∃k:Nat,k<=nu/\v52= .int .i64 k/\v7= .int .i64 (S+pieces r (t.p.uses.take k))/\Hid (Bl W3 wq)) (fun _ v52 _=>nu-(intOf v52).toNat);case atStart=>exact⟨0,by omega,rfl,by simp[pieces],hI (Below.refl _ _)⟩
   case round=>
    obtain⟨k,hk,rfl,rfl,Hq⟩:=hrel;have hsq:=Hq.o.size;have HAq:=hI (HA3.o.trans (Hq.o.mono (by omega)))
    by_cases hlt2:k<nu
    ·have hkl:k<t.p.uses.length:=by have:=Hnu.o;omega
     obtain⟨ub,uoff,hue,hub,hcells⟩:=(HTk.o wr ((HB2.o.trans (HB3.o.mono (by omega))).trans (Hq.o.mono (by omega)))) (by omega)
     subst hue;have c0:wr.cell? ⟨ub,uoff+k*2,none⟩=some (.int .i64 t.p.uses[k].res):=hcells k hkl 0 _ rfl;have c1:wr.cell? ⟨ub,uoff+k*2+1,none⟩=some (.int .i64 t.p.uses[k].many):=hcells k hkl 1 _ rfl;have HPn:=hI (show pieces r (t.p.uses.take (k+1))=pieces r (t.p.uses.take k)+if t.p.uses[k].res==r then t.p.uses[k].many else 0 by rw[List.take_succ_eq_append_getElem hkl,pieces_snoc]);have hpk:=HPs.o k;have hpk1:=HPs.o (k+1);rw[HPn.o] at hpk1;generalize t.p.uses[k]=u at c0 c1 HPn hpk1;generalize pieces r (t.p.uses.take k)=pk at hpk HPn hpk1;clear hcells;cases hu:(u.res==r)
     ·have HQ:=hI (show pieces r (t.p.uses.take (k+1))=pk by rw[HPn.o,hu];simp);clear hpk1;go_wp2;go_roundw;case rel=>exact⟨k+1,by omega,by go_num,by rw[HQ.o],hI (Hq.o.alloc (by omega) _)⟩
      case measure=>simp[intOf];omega
     ·have HQ:=hI (show pieces r (t.p.uses.take (k+1))=pk+u.many by rw[HPn.o,hu];simp);rw[hu] at hpk1;simp only[if_true] at hpk1;have b1: -100000<=u.many:=by omega
      have b2:u.many<=100000:=by omega
      clear hpk1;go_wp2;go_roundw;case rel=>exact⟨k+1,by omega,by go_num,by rw[HQ.o];go_num,hI (Hq.o.alloc (by omega) _)⟩
      case measure=>simp[intOf];omega
    ·have HPe:=hI (show pieces r (t.p.uses.take k)=pieces r t.p.uses by rw[List.take_of_length_le (by have:=Hnu.o;omega)]);go_wp2;go_roundw;case rel=>exact⟨i+1,by omega,by go_num,by rw[HN.o,HPe.o],HAq⟩
     case measure=>simp[intOf];omega
  ·obtain rfl:i=n:=by omega
   go_wp2;go_ret;exact⟨ret_int HU.o.symm,Hb.o⟩
end Go.Proofs.YtjpgnfekbojcaaaGreat
namespace W7
open Go Go.RowKit
section round
variable {P:Program} {l n:Nat}
end round
def onlyN (K:Act->World->Prop):Exit->Act->World->Prop
 | .normal,a,w=>K a w
 | _,_,_=>False
theorem onlyN_out {K:Act->World->Prop}: ¬LetsOut (onlyN K):=fun⟨_,_,h⟩=>h
def cntL:Nat->(Nat->Bool)->Nat
 | 0,_=>0
 | n+1,L=>cntL n L+if L n then 0 else 1
theorem cntL_false:∀n,cntL n (fun _=>false)=n
 | 0=>rfl
 | n+1=>by simp[cntL,cntL_false n]
theorem cntL_same {L:Nat->Bool} {i:Nat}:∀n,n<=i->cntL n (fun j=>j==i||L j)=cntL n L
 | 0,_=>rfl
 | n+1,h=>by
  have:(n==i)=false:=by simp;omega
  have h2:=cntL_same (L:=L) (i:=i) n (by omega);simp only[cntL,h2,this,Bool.false_or]
theorem cntL_set {L:Nat->Bool} {i:Nat} (hL:L i=false):∀n,i<n->cntL n (fun j=>j==i||L j)+1=cntL n L
 | 0,h=>absurd h (by omega)
 | n+1,h=>by
  by_cases hi:i=n
  ·subst hi;simp[cntL,hL,cntL_same]
  ·have:(n==i)=false:=by simp;omega
   have:=cntL_set hL n (by omega);simp only[cntL, ‹(n==i)=false›,Bool.false_or];omega
theorem cntL_zero {L:Nat->Bool}:∀n,cntL n L=0->∀j,j<n->L j=true
 | 0,_,_,h=>absurd h (by omega)
 | n+1,h,j,hj=>by
  simp only[cntL] at h
  by_cases hjn:j=n
  ·subst hjn;cases hL:L j<;>simp[hL] at h ⊢
  ·exact cntL_zero n (by omega) j (by omega)
theorem cntL_pos {L:Nat->Bool}:∀n,0<cntL n L->∃i,i<n/\L i=false/\∀j,j<i->L j=true
 | 0,h=>absurd h (by simp[cntL])
 | n+1,h=>by
  by_cases h0:0<cntL n L
  ·obtain⟨i,h1,h2,h3⟩:=cntL_pos n h0;exact⟨i,by omega,h2,h3⟩
  ·have h1:=cntL_zero (L:=L) n (by omega);simp only[cntL] at h;cases hL:L n
   ·exact⟨n,by omega,hL,h1⟩
   ·simp[hL] at h;omega
def backB (ops:List Oper):Bool:=(List.range ops.length).all fun i=>match ops[i]? with | none=>true | some o=>o.after.all fun e=> !Region.binds .any e||decide (e.on<i)
section inv
variable {P:Program} {ops:Array Oper} {md:Region.Mode}
theorem oper_onlyN {o:Oper} {a:Act} {w:World} {K:Act->World->Prop} {Q:Exit->Act->World->Prop} (h:o.wp P a w K (onlyN K)):o.wp P a w K Q:=by
 unfold Oper.wp at h ⊢;generalize (execOp a.eval o).run P w=r at h ⊢;cases r with
 | ok x w'=>
  cases x with
  | enter f args=>exact Calls.mono h fun e w2 he=>by cases e<;>first | exact he | exact(onlyN_out he).elim | exact he.elim
  | _=>exact h
 | halt x w'=>cases x<;>first | exact h | exact h.elim
theorem wpOp_of_list {i:Nat} {o:Oper} {a:Act} {w:World} {K:Act->World->Prop} {Q:Exit->Act->World->Prop} (ho:ops[i]? =some o) (h:wpList P ops (onlyN K) [o] a w):wpOp P ops Q i K a w:=by
 unfold wpOp;simp only[ho];unfold wpList at h
 split
 ·rename_i hw
  simp only[hw,if_true] at h;rcases h with h | h
  ·exact .inl (oper_onlyN h)
  ·exact(onlyN_out h.2).elim
 ·rename_i hw
  simp only[hw] at h;exact h
theorem wpAny_inv {n g:Nat} {fin:Array Bool} {Inv:(Nat->Bool)->Act->World->Prop} {Q':Exit->Act->World->Prop} (hs:Region.sinkB md ops n=true) (hc:Region.chainB md ops n=true) (hn:n<ops.size)
  (hback:∀(i:Nat) (o:Oper),ops[i]? =some o->∀e∈o.after,Region.binds md e=true->e.on<i) (hfin:fin.size=ops.size) (hfin1:∀j,fin[j]? =if j<ops.size then some (decide (j<n)) else none)
  (hstep:∀(L:Nat->Bool) a w i o,i<n->ops[i]? =some o->L i=false->(∀e∈o.after,Region.binds md e=true->L e.on=true)->Inv L a w->wpList P ops (onlyN fun a' w'=>Inv (fun j=>j==i||L j) a' w') [o] a w)
  (htail:∀(L:Nat->Bool) a w,(∀j,j<n->L j=true)->Inv L a w->wpAny P md ops Q' g fin a w) :
  ∀(f:Nat) (listed:Array Bool) (a:Act) (w:World),HeadInv md ops n listed->cntL n (fun j=>listed.getD j false)=f->Inv (fun j=>listed.getD j false) a w->wpAny P md ops Q' (f+g) listed a w
 | 0,listed,a,w,inv,hcnt,hI=>by
  have h1:=cntL_zero n hcnt
  have:listed=fin:=by
   apply Array.ext
   ·rw[inv.size,hfin]
   ·intro j hj hj';have h2:=hfin1 j;rw[Array.getElem?_eq_getElem hj',if_pos (by rw[<- hfin];exact hj')] at h2;rw[Option.some.inj h2]
    by_cases hjn:j<n
    ·have:=h1 j hjn;simp only[Array.getD,hj,dite_true] at this;rw[decide_eq_true hjn];exact this
    ·have:=inv.tail j (by omega) (by rw[<- inv.size];exact hj);simp only[Array.getD,hj,dite_true] at this;rw[decide_eq_false hjn];exact this
  rw[Nat.zero_add,this];rw[this] at hI;exact htail _ a w (by rw[<- this];exact h1) hI
 | f+1,listed,a,w,inv,hcnt,hI=>by
  obtain⟨i0,hi0,hL0,hlow⟩:=cntL_pos n (by rw[hcnt];omega);have hin0:i0<listed.size:=by rw[inv.size];omega
  have hun0:listed.getD i0 true=false:=by simp only[Array.getD,hin0,dite_true] at hL0 ⊢;exact hL0
  rw[show f+1+g=(f+g)+1 by omega];refine⟨fun h0=>absurd (mem_ready.2 ⟨hun0,ops[i0]'(by omega),Array.getElem?_eq_getElem (by omega),fun e he hbd=>hlow _ (hback i0 _ (Array.getElem?_eq_getElem (by omega)) e he hbd)⟩) (by rw[h0];simp),fun i hi=> ?_⟩
  have hin:i<n:=by
   rcases Nat.lt_or_ge i n with h | h
   ·exact h
   ·exact absurd hi (tail_waits hs hc hn inv _ i0 rfl hi0 hun0 i h)
  obtain⟨hun,o,ho,hall⟩:=mem_ready.1 hi;have hsz:i<listed.size:=by rw[inv.size];omega
  have hLi:listed.getD i false=false:=by simp only[Array.getD,hsz,dite_true] at hun ⊢;exact hun
  have e:(fun j=>(listed.setIfInBounds i true).getD j false)=fun j=>j==i||listed.getD j false:=by
   funext j
   by_cases hj:j=i
   ·subst hj;simp[Array.getD,hsz]
   ·simp only[Array.getD,Array.size_setIfInBounds]
    by_cases hjs:j<listed.size
    ·simp[hjs,hj,Ne.symm hj]
    ·simp[hjs,hj]
  refine wpOp_mono (fun a' w' h=>wpAny_inv hs hc hn hback hfin hfin1 hstep htail f _ a' w' (inv.set hi hin) ?_ ?_) (wpOp_of_list ho (hstep _ a w i o hin ho hLi hall hI))
  ·rw[e];have:=cntL_set (L:=fun j=>listed.getD j false) hLi n hin;omega
  ·rw[e];exact h
theorem backB_spec {l:List Oper} (h:backB l=true):∀(i:Nat) (o:Oper),l.toArray[i]? =some o->∀e∈o.after,Region.binds .any e=true->e.on<i:=fun i o ho e he hbd=>by
 have hi:i<l.length:=by
  rcases Nat.lt_or_ge i l.length with h1 | h1
  ·exact h1
  ·rw[Array.getElem?_eq_none (by simpa using h1)] at ho;cases ho
 have:=List.all_eq_true.1 h i (List.mem_range.2 hi);simp only[List.getElem?_toArray] at ho;rw[ho] at this;have h2:=Array.all_eq_true'.1 this e he
 simpa [hbd] using h2
theorem wpAny_region_inv {Q:Exit->Act->World->Prop} {a:Act} {w:World} {l:List Oper} (n:Nat) (Inv:(Nat->Bool)->Act->World->Prop) (hs:Region.sinkB .any l.toArray n=true) (hc:Region.chainB .any l.toArray n=true) (hb:backB l=true) (hn:n<l.toArray.size)
  (hseq:Region.seqB .any l.toArray (l.drop n).length n ((List.range l.length).map (fun j=>decide (j<n))).toArray=true)
  (h0:Inv (fun _=>false) a { w with drawn:=w.drawn+1 })
  (hstep:∀(L:Nat->Bool) a w i o,i<n->l[i]? =some o->L i=false->(∀e∈o.after,Region.binds .any e=true->L e.on=true)->Inv L a w->wpList P l.toArray (onlyN fun a' w'=>Inv (fun j=>j==i||L j) a' w') [o] a w)
  (htail:∀(L:Nat->Bool) a w,(∀j,j<n->L j=true)->Inv L a w->wpList P l.toArray Q (l.drop n) a w):wpAny P .any l.toArray Q l.toArray.size (Array.replicate l.toArray.size false) a { w with drawn:=w.drawn+1 }:=by
 have inv0:HeadInv .any l.toArray n (Array.replicate l.toArray.size false):=
  ⟨by simp,fun j oj _ hl=>(by rw[getD_replicate_false] at hl;cases hl),fun t _ ht=>getD_in (by simpa using ht) (getD_replicate_false _ _)⟩
 have e0:(fun j=>(Array.replicate l.toArray.size false).getD j false)=fun _=>false:=funext fun j=>getD_replicate_false _ _
 have h:=wpAny_inv (P:=P) (ops:=l.toArray) (md:= .any) (n:=n) (g:=(l.drop n).length) (Inv:=Inv) (Q':=Q) (fin:=((List.range l.length).map (fun j=>decide (j<n))).toArray) hs hc hn (backB_spec hb)
  (by simp) (fun j=>by simp only[List.getElem?_toArray,List.getElem?_map,List.size_toArray];split<;>rename_i h1<;>simp[h1])
  (fun L a w i o hi ho=>hstep L a w i o hi (by simpa using ho))
  (fun L a w hL hI=>wpAny_of_seq (l.drop n) n _ a w (fun j=>by simp) hseq (htail _ a w hL hI)) n (Array.replicate l.toArray.size false) a { w with drawn:=w.drawn+1 } inv0
  (by rw[e0];exact cntL_false n) (by rw[e0];exact h0)
 have hlen:n+(l.drop n).length=l.toArray.size:=by have:=hn;simp at this ⊢;omega
 rwa [hlen] at h
theorem wp_region_inv {id:Nat} {Q:Exit->Act->World->Prop} {a:Act} {w:World} {l:List Oper} (n:Nat) (Inv:(Nat->Bool)->Act->World->Prop) (hm:P.follows .mixedOrders=true)
  (hs:Region.sinkB .any l.toArray n=true) (hc:Region.chainB .any l.toArray n=true) (hb:backB l=true) (hn:n<l.toArray.size)
  (hseq:Region.seqB .any l.toArray (l.drop n).length n ((List.range l.length).map (fun j=>decide (j<n))).toArray=true)
  (h0:Inv (fun _=>false) a { w with drawn:=w.drawn+1 })
  (hstep:∀(L:Nat->Bool) a w i o,i<n->l[i]? =some o->L i=false->(∀e∈o.after,Region.binds .any e=true->L e.on=true)->Inv L a w->wpList P l.toArray (onlyN fun a' w'=>Inv (fun j=>j==i||L j) a' w') [o] a w)
  (htail:∀(L:Nat->Bool) a w,(∀j,j<n->L j=true)->Inv L a w->wpList P l.toArray Q (l.drop n) a w):(Code.region id l.toArray true).wp P Q a w:=
 wp_region_any hm (wpAny_region_inv n Inv hs hc hb hn hseq h0 hstep htail)
end inv
def SeqR {α:Type} (P:Program) (g:Nat) (lb:Array Value) (encs:α->Array Value) (R:α->World->Prop) (Kp:World->World->Prop) (S Sp:List α->Prop) (N:Nat) (w:World):Prop:=
 ∀(l:Nat) (J Jx:List α->World->Prop) (W:World),Bl w W →
  (∀s A B,J s A->Bl A B->J s B)->(∀s A B,Jx s A->Bl A B->Jx s B) →
  (∀m pre x W1,J pre W1->pre.length<N->R x W1->YieldAt Fence.wide m P l (encs x) W1 fun e W'=>
   (e= .returned (.bool true)/\J (pre++[x]) W'/\Kp W1 W')\/(e= .returned (.bool false)/\Jx (pre++[x]) W')) →
  J [] W →
  Calls P g (#[.func (.yield l) #[] #[]]++lb) W fun e W'=>(∃v,e= .returned v)/\((∃xs,S xs/\J xs W')\/(∃pre,Sp pre/\Jx pre W'))
theorem OwnFrom.later {β:Type} {B:Nat} {I:β->World->Prop} (h:OwnFrom B I) {s:β} {A C:World} (hs:I s A) (hb:Bl A C):I s C:=
 h s A C none hs ⟨hb.os,hb.tape,hb.output,hb.size,fun i hi _=>hb.block i hi⟩ (fun _ e=>by cases e)
theorem wide_depth {n:Nat}:Fence.wide.depth.isSome=true->1<=n:=fun h=>by cases h
theorem wpIn_rangeFunc_R {P:Program} {n:Nat} {α:Type} {g:Operand} {ps:Array Tmp} {assign body:Code} {Q:Exit->Act->World->Prop} {a:Act} {w:World}
  {gf:Nat} {lb:Array Value} (hg:a.eval g= .func (.func gf) #[] lb) (eg:∀args w,(callFunc gf args).run P w= .ok (.enter gf args) w)
  {encs:α->Array Value} {R:α->World->Prop} {Kp:World->World->Prop} {S Sp:List α->Prop} {N:Nat} {w0:World} (hseq:SeqR P gf lb encs R Kp S Sp N w0)
  (hKt:∀ {A B C:World},Kp A B->Kp B C->Kp A C) (hKb:∀(W:World) (l:Nat) (o o':Obj),w.heap.size<=l->W.heap[l]? =some o->o.isCells=false->Kp W (W.putObj l o'))
  (hRb:∀(x:α) (W:World) (l:Nat) (o o':Obj),w.heap.size<=l->W.heap[l]? =some o->o.isCells=false->R x W->R x (W.putObj l o'))
  (hb0:Bl w0 w) (hps:∀x,(encs x).size=ps.size)
  (I:List α->World->Prop) (Ix:Code->List α->World->Prop) (hI:OwnFrom w.heap.size I) (hIx:∀c,OwnFrom w.heap.size (Ix c)) (h0:I [] w) (a₁:α->Act)
  (hassign:∀(l m:Nat) (x:α) (W:World) (K:Act->World->Prop),K (a₁ x) W →
   assign.wpIn (Fence.wide.inRound l) m P (Exit.then K (fun _ _ _=>False)) { tmps:=(ps.zip (encs x)).foldl (fun t (p,v)=>t.setIfInBounds p v) a.tmps,defers:=[] } W)
  (hbody:∀(l m:Nat) (pre:List α) (x:α) (W:World),I pre W->pre.length<N->R x W->body.wpIn (Fence.wide.inRound l) m P (ownPostK Kp I Ix (pre++[x]) W) (a₁ x) W)
  (hdone:∀(D:Nat) (xs:List α) (W:World),w.heap.size<=D->S xs->I xs W->W.heap[D]? =some (.deferred (some []))->Q .normal { a with defers:={ target:= .collected D,args:= #[] }::a.defers } W)
  (hstop:∀(D:Nat) (c:Code) (pre:List α) (W:World),w.heap.size<=D->Sp pre->Ix c pre W->W.heap[D]? =some (.deferred (some []))->c.wpIn Fence.wide n P Q { a with defers:={ target:= .collected D,args:= #[] }::a.defers } W) :
  (Code.rangeFunc g ps assign body).wpIn Fence.wide n P Q a w:=by
 refine wpIn_rangeFunc fun fn _=> ?_
 obtain⟨rec,hrec⟩:∃rec:LoopState->Option Code->Loop,rec=fun st pe=>{ state:=st,pending:=pe,fn,tmps:=a.tmps,params:=ps,assign,body,defers:=w.heap.size }:=⟨_,rfl⟩
 obtain⟨W1,hW1⟩:∃W1,(w.alloc (.deferred (some []))).alloc (.loop (rec .ready none))=W1:=⟨_,rfl⟩
 have hL1:W1.heap[w.heap.size+1]? =some (.loop (rec .ready none)):=by
  rw[<- hW1];have:=World.alloc_heap_new (w.alloc (.deferred (some []))) (.loop (rec .ready none));rwa [World.size_alloc] at this
 have hK1:W1.heap[w.heap.size]? =some (.deferred (some [])):=by
  rw[<- hW1];exact(Below.heap_alloc _ _ _ (by simp)).trans (World.alloc_heap_new w _)
 have hI1:I [] W1:=by rw[<- hW1];exact hI.alloc _ (hI.alloc _ h0)
 have hb1:Bl w0 W1:=by
  rw[<- hW1];exact hb0.trans ((((Below.refl _ w).alloc (Nat.le_refl _) _).alloc (by simp) _).mono hb0.size)
 have same:∀ {A C:World} {k:Nat} {o:Obj},Bl A C->A.heap[k]? =some o->C.heap[k]? =some o:=fun hb h=>(hb.block _ (Array.getElem?_eq_some_iff.1 h).1).trans h
 refine⟨w.heap.size+1,[{ target:= .collected w.heap.size,args:= #[] }],W1, { target:= .fn (.func gf) lb,args:= #[.func (.yield (w.heap.size+1)) #[] #[]] },W1,gf,
  #[.func (.yield (w.heap.size+1)) #[] #[]]++lb,W1,?_,?_,?_,?_,wide_depth,callsIn_wide.2 ?_⟩
 ·rw[<- hW1,hrec];exact run_enterLoop_outer _ _ _ _ _
 ·simp only[resolve,hg];simp[go_sem]
 ·intro _ _;trivial
 ·simp[invoke,go_sem,eg]
 ·refine(hseq (w.heap.size+1)
   (fun pre W=>I pre W/\W.heap[w.heap.size+1]? =some (.loop (rec .ready none))/\W.heap[w.heap.size]? =some (.deferred (some [])))
   (fun pre W=>∃c,Ix c pre W/\W.heap[w.heap.size+1]? =some (.loop (rec .done (some c)))/\W.heap[w.heap.size]? =some (.deferred (some [])))
   W1 hb1
   (fun s A B hs hb=>⟨OwnFrom.later hI hs.1 hb,same hb hs.2.1,same hb hs.2.2⟩)
   (fun s A B ⟨c,hc,hl,hk⟩ hb=>⟨c,OwnFrom.later (hIx c) hc hb,same hb hl,same hb hk⟩)
   ?_ ⟨hI1,hL1,hK1⟩).mono ?_
  ·rintro m pre x W ⟨hi,hl,hk⟩ hlen hRx;have hlt:w.heap.size+1<W.heap.size:=(Array.getElem?_eq_some_iff.1 hl).1;have hy:=run_yield (P:=P) (args:=encs x) hl (by rw[hrec];exact hps x);rw[hrec] at hy;refine⟨fn,_,assign,body,hy,roundIn_of_wpIn trivial (hassign _ _ x W _ ⟨_,run_beginRound hl (by rw[hrec]),?_⟩)⟩;have hl2:(W.putObj (w.heap.size+1) (.loop { rec .ready none with state:= .busy })).heap[w.heap.size+1]? =some (.loop { rec .ready none with state:= .busy }):=World.putObj_heap_same hlt;have hk2:(W.putObj (w.heap.size+1) (.loop { rec .ready none with state:= .busy })).heap[w.heap.size]? =some (.deferred (some [])):=(World.putObj_heap_other (by omega)).trans hk;have hw2:Kp W (W.putObj (w.heap.size+1) (.loop { rec .ready none with state:= .busy })):=hKb _ _ _ _ (by omega) hl rfl;refine wpIn_mono (hbody _ _ pre x _ (hI.putObj _ hi (by omega) hl rfl) hlen (hRb x W _ _ _ (by omega) hl rfl hRx)) ?_
   have fin:∀(jump:Option Code) (W3:World),KeepsOthers (W.putObj (w.heap.size+1) (.loop { rec .ready none with state:= .busy })) W3 →
     (Instr.endRound (w.heap.size+1) jump).run P W3= .ok (.bool jump.isNone) (W3.putObj (w.heap.size+1) (.loop (rec (if jump.isNone then .ready else .done) jump))) ∧
     W3.heap[w.heap.size+1]? =some (.loop { rec .ready none with state:= .busy }) ∧
     (W3.putObj (w.heap.size+1) (.loop (rec (if jump.isNone then .ready else .done) jump))).heap[w.heap.size+1]? =some (.loop (rec (if jump.isNone then .ready else .done) jump)) ∧
     (W3.putObj (w.heap.size+1) (.loop (rec (if jump.isNone then .ready else .done) jump))).heap[w.heap.size]? =some (.deferred (some [])):=fun jump W3 hk3=>by
    have hl3:=hk3.same _ _ hl2 rfl;have:=run_endRound (P:=P) jump hl3;rw[hrec] at this ⊢;exact⟨this,by rw[hrec] at hl3;exact hl3,World.putObj_heap_same (Array.getElem?_eq_some_iff.1 hl3).1,(World.putObj_heap_other (by omega)).trans (hk3.same _ _ hk2 rfl)⟩
   rintro e a3 W3 hp;cases e with
   | normal=>
    obtain⟨hk3,hkp3,hi3⟩:=hp;obtain⟨hr,hl3,hl4,hk4⟩:=fin none W3 hk3;exact⟨_,_,hr,.inl ⟨rfl,⟨hI.putObj _ hi3 (by omega) hl3 rfl,hl4,hk4⟩,hKt (hKt hw2 hkp3) (hKb _ _ _ _ (by omega) hl3 rfl)⟩⟩
   | ret=>
    obtain⟨hk3,hi3⟩:=hp;obtain⟨hr,hl3,hl4,hk4⟩:=fin (some .ret) W3 hk3;exact⟨_,_,hr,.inr ⟨rfl,.ret,(hIx _).putObj _ hi3 (by omega) hl3 rfl,hl4,hk4⟩⟩
   | exit id=>
    obtain⟨hk3,hi3⟩:=hp;obtain⟨hr,hl3,hl4,hk4⟩:=fin (some (.exit id)) W3 hk3;exact⟨_,_,hr,.inr ⟨rfl,.exit id,(hIx _).putObj _ hi3 (by omega) hl3 rfl,hl4,hk4⟩⟩
   | goto t=>
    obtain⟨hk3,hi3⟩:=hp;obtain⟨hr,hl3,hl4,hk4⟩:=fin (some (.goto t)) W3 hk3;exact⟨_,_,hr,.inr ⟨rfl,.goto t,(hIx _).putObj _ hi3 (by omega) hl3 rfl,hl4,hk4⟩⟩
   | panic ch=>exact hp.elim
   | outgrown=>exact hp.elim
  ·rintro e W2 ⟨⟨v,rfl⟩,(⟨xs,hS,hi,hl,hk⟩ | ⟨pre,hSp,c,hi,hl,hk⟩)⟩
   ·exact⟨none,_,by have:=run_endLoop (P:=P) hl (by rw[hrec];simp);rw[hrec] at this;exact this,hdone _ xs _ (Nat.le_refl _) hS (hI.putObj _ hi (by omega) hl rfl) ((World.putObj_heap_other (by omega)).trans hk)⟩
   ·exact⟨some c,_,by have:=run_endLoop (P:=P) hl (by rw[hrec];simp);rw[hrec] at this;exact this,hstop _ c pre _ (Nat.le_refl _) hSp ((hIx c).putObj _ hi (by omega) hl rfl) ((World.putObj_heap_other (by omega)).trans hk)⟩
def DsOk (N:Nat) (Ds:List Nat) (W:World):Prop:=Ds.Nodup/\∀D∈Ds,N<=D/\W.heap[D]? =some (.deferred (some []))
theorem DsOk.below {Ds:List Nat} {N:Nat} {W W':World} (h:DsOk N Ds W) (hb:Bl W W'):DsOk N Ds W':=
 ⟨h.1,fun D hD=>⟨(h.2 D hD).1,(hb.block D (Array.getElem?_eq_some_iff.1 (h.2 D hD).2).1).trans (h.2 D hD).2⟩⟩
theorem DsOk.cons {Ds:List Nat} {N B D:Nat} {W W':World} (h:DsOk N Ds W) (hb:Below B W W') (hW:W.heap.size<=B) (hD:W.heap.size<=D) (hN:N<=W.heap.size) (hk:W'.heap[D]? =some (.deferred (some []))):DsOk N (D::Ds) W':=by
 refine⟨List.nodup_cons.2 ⟨fun hm=> ?_,h.1⟩,fun D' hD'=> ?_⟩
 ·have:=(Array.getElem?_eq_some_iff.1 (h.2 D hm).2).1;omega
 ·rcases List.mem_cons.1 hD' with rfl | hm
  ·exact⟨by omega,hk⟩
  ·have:=(Array.getElem?_eq_some_iff.1 (h.2 D' hm).2).1;exact⟨(h.2 D' hm).1,(hb.block D' (by omega)).trans (h.2 D' hm).2⟩
def Sep (a b:Value):Prop:=∀k,a.ownBlock=some k->b.ownBlock≠some k
theorem own_other {w w':World} {base e size n:Nat} {a b:Value} {xs:List Value} (h:w.ownsRow base e size b n xs) (hg:w.grownBy w' a.ownBlock) (hs:Sep a b):w'.ownsRow base e size b n xs:=
 h.kept hg (by
  cases hb:b.ownBlock with
  | none=>exact .inl rfl
  | some k=>exact .inr fun e=>hs k e.symm hb)
theorem Sep.symm {a b:Value} (h:Sep a b):Sep b a:=fun k h1 h2=>h k h2 h1
theorem Sep.grow {w:World} {base e size n:Nat} {a a' b:Value} {xs:List Value} (h:Sep a b) (hb:w.ownsRow base e size b n xs) (ha:a'.ownBlock=a.ownBlock\/∃k,a'.ownBlock=some k/\w.heap.size<=k):Sep a' b:=by
 intro k h1 h2;rcases ha with h3 | ⟨k',h3,h4⟩
 ·exact h k (h3▸h1) h2
 ·rw[h3] at h1;cases h1;rcases hb.2 with⟨rfl,_⟩ | ⟨g,cap,cur,rfl,_,hc,_⟩
  ·simp[Value.ownBlock] at h2
  ·simp[Value.ownBlock] at h2;subst h2;have:=(Array.getElem?_eq_some_iff.1 hc).1;omega
section
variable {P:Program} {ops:Array Oper} {md:Region.Mode}
theorem wpAny_allK {Inv:(Nat->Bool)->Act->World->Prop} {Q:Exit->Act->World->Prop}
  (hback:∀(i:Nat) (o:Oper),ops[i]? =some o->∀e∈o.after,Region.binds md e=true->e.on<i)
  (hstep:∀(L:Nat->Bool) a w i o,ops[i]? =some o->L i=false->(∀e∈o.after,Region.binds md e=true->L e.on=true)->Inv L a w->∃K:Act->World->Prop,(∀a' w',K a' w'->Inv (fun j=>j==i||L j) a' w')/\wpList P ops (onlyN K) [o] a w)
  (hfin:∀(L:Nat->Bool) a w,(∀j,j<ops.size->L j=true)->Inv L a w->Q .normal a w) :
  ∀(f:Nat) (listed:Array Bool) (a:Act) (w:World),listed.size=ops.size->cntL ops.size (fun j=>listed.getD j false)=f->Inv (fun j=>listed.getD j false) a w->wpAny P md ops Q f listed a w
 | 0,listed,a,w,hsz,hcnt,hI=>by
  have h1:=cntL_zero ops.size hcnt;refine⟨List.eq_nil_iff_forall_not_mem.2 fun i hi=> ?_,hfin _ a w h1 hI⟩;obtain⟨hun,o,ho,_⟩:=mem_ready.1 hi;have hlt:i<ops.size:=(Array.getElem?_eq_some_iff.1 ho).1;have h2:=h1 i hlt;have hl:i<listed.size:=by omega
  simp only[Array.getD,hl,dite_true] at hun h2;rw[hun] at h2;cases h2
 | f+1,listed,a,w,hsz,hcnt,hI=>by
  obtain⟨i0,hi0,hL0,hlow⟩:=cntL_pos ops.size (by rw[hcnt];omega);have hin0:i0<listed.size:=by omega
  have hun0:listed.getD i0 true=false:=by simp only[Array.getD,hin0,dite_true] at hL0 ⊢;exact hL0
  refine⟨fun h0=>absurd (mem_ready.2 ⟨hun0,ops[i0]'(by omega),Array.getElem?_eq_getElem (by omega),fun e he hbd=>hlow _ (hback i0 _ (Array.getElem?_eq_getElem (by omega)) e he hbd)⟩) (by rw[h0];simp),fun i hi=> ?_⟩;obtain⟨hun,o,ho,hall⟩:=mem_ready.1 hi;have hin:i<ops.size:=(Array.getElem?_eq_some_iff.1 ho).1;have hszi:i<listed.size:=by omega
  have hLi:listed.getD i false=false:=by simp only[Array.getD,hszi,dite_true] at hun ⊢;exact hun
  have e:(fun j=>(listed.setIfInBounds i true).getD j false)=fun j=>j==i||listed.getD j false:=by
   funext j
   by_cases hj:j=i
   ·subst hj;simp[Array.getD,hszi]
   ·simp only[Array.getD,Array.size_setIfInBounds]
    by_cases hjs:j<listed.size
    ·simp[hjs,hj,Ne.symm hj]
    ·simp[hjs,hj]
  obtain⟨K,hK,hwp⟩:=hstep _ a w i o ho hLi hall hI;refine wpOp_mono (fun a' w' h=>wpAny_allK hback hstep hfin f _ a' w' (by rw[Array.size_setIfInBounds];exact hsz) ?_ ?_) (wpOp_of_list ho hwp)
  ·rw[e];have:=cntL_set (L:=fun j=>listed.getD j false) hLi ops.size hin;omega
  ·rw[e];exact hK _ _ h
theorem wp_region_allK {id:Nat} {Q:Exit->Act->World->Prop} {a:Act} {w:World} {l:List Oper} (Inv:(Nat->Bool)->Act->World->Prop) (hm:P.follows .mixedOrders=true) (hb:backB l=true)
  (h0:Inv (fun _=>false) a { w with drawn:=w.drawn+1 })
  (hstep:∀(L:Nat->Bool) a w i o,i<l.length->l[i]? =some o->L i=false->(∀e∈o.after,Region.binds .any e=true->L e.on=true)->Inv L a w->∃K:Act->World->Prop,(∀a' w',K a' w'->Inv (fun j=>j==i||L j) a' w')/\wpList P l.toArray (onlyN K) [o] a w)
  (hfin:∀(L:Nat->Bool) a w,(∀j,j<l.length->L j=true)->Inv L a w->wpList P l.toArray Q [] a w):(Code.region id l.toArray true).wp P Q a w:=by
 refine wp_region_any hm ?_;have e0:(fun j=>(Array.replicate l.toArray.size false).getD j false)=fun _=>false:=funext fun j=>getD_replicate_false _ _
 refine wpAny_allK (Inv:=Inv) (backB_spec hb) (fun L a w i o ho=>hstep L a w i o ?_ (by simpa using ho)) (fun L a w hL=>hfin L a w (fun j hj=>hL j (by simpa using hj))) _ _ _ _ (by simp) ?_ ?_
 ·have:=(Array.getElem?_eq_some_iff.1 ho).1
  simpa using this
 ·rw[e0];exact cntL_false _
 ·rw[e0];exact h0
theorem wp_region_all {id:Nat} {Q:Exit->Act->World->Prop} {a:Act} {w:World} {l:List Oper} (Inv:(Nat->Bool)->Act->World->Prop) (hm:P.follows .mixedOrders=true) (hb:backB l=true)
  (h0:Inv (fun _=>false) a { w with drawn:=w.drawn+1 })
  (hstep:∀(L:Nat->Bool) a w i o,i<l.length->l[i]? =some o->L i=false->(∀e∈o.after,Region.binds .any e=true->L e.on=true)->Inv L a w->wpList P l.toArray (onlyN fun a' w'=>Inv (fun j=>j==i||L j) a' w') [o] a w)
  (hfin:∀(L:Nat->Bool) a w,(∀j,j<l.length->L j=true)->Inv L a w->wpList P l.toArray Q [] a w):(Code.region id l.toArray true).wp P Q a w:=
 wp_region_allK Inv hm hb h0 (fun L a w i o hi ho hL haf hI=>⟨_,fun _ _ h=>h,hstep L a w i o hi ho hL haf hI⟩) hfin
end
end W7
