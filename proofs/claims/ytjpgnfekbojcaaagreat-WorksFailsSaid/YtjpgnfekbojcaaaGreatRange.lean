/- A range over a function whose iterator hands on what lies in memory: the law of the walk;a region that draws its order,in a round. -/
import Derived.Test.YtjpgnfekbojcaaaGreatBase
import Derived.RangeFuncFrom
import Derived.RangeFuncCalls
import Derived.OrdersIn
import Derived.TacticsIn
namespace W7
open Go Go.RowKit
section round
variable {P:Program} {l n:Nat}
end round
def onlyN (K:Act->World->Prop):Exit->Act->World->Prop
 | .normal,a,w=>K a w
 | _,_,_=>False
theorem onlyN_out {K:Act->World->Prop}: ¬LetsOut (onlyN K):=fun⟨_,_,h⟩=>h
def cntL:Nat->(Nat->Bool)->Nat
 | 0,_=>0
 | n+1,L=>cntL n L+if L n then 0 else 1
theorem cntL_false:∀n,cntL n (fun _=>false)=n
 | 0=>rfl
 | n+1=>by simp[cntL,cntL_false n]
theorem cntL_same {L:Nat->Bool} {i:Nat}:∀n,n<=i->cntL n (fun j=>j==i||L j)=cntL n L
 | 0,_=>rfl
 | n+1,h=>by
  have:(n==i)=false:=by simp;omega
  have h2:=cntL_same (L:=L) (i:=i) n (by omega);simp only[cntL,h2,this,Bool.false_or]
theorem cntL_set {L:Nat->Bool} {i:Nat} (hL:L i=false):∀n,i<n->cntL n (fun j=>j==i||L j)+1=cntL n L
 | 0,h=>absurd h (by omega)
 | n+1,h=>by
  by_cases hi:i=n
  ·subst hi;simp[cntL,hL,cntL_same]
  ·have:(n==i)=false:=by simp;omega
   have:=cntL_set hL n (by omega);simp only[cntL, ‹(n==i)=false›,Bool.false_or];omega
theorem cntL_zero {L:Nat->Bool}:∀n,cntL n L=0->∀j,j<n->L j=true
 | 0,_,_,h=>absurd h (by omega)
 | n+1,h,j,hj=>by
  simp only[cntL] at h
  by_cases hjn:j=n
  ·subst hjn;cases hL:L j<;>simp[hL] at h ⊢
  ·exact cntL_zero n (by omega) j (by omega)
theorem cntL_pos {L:Nat->Bool}:∀n,0<cntL n L->∃i,i<n/\L i=false/\∀j,j<i->L j=true
 | 0,h=>absurd h (by simp[cntL])
 | n+1,h=>by
  by_cases h0:0<cntL n L
  ·obtain⟨i,h1,h2,h3⟩:=cntL_pos n h0;exact⟨i,by omega,h2,h3⟩
  ·have h1:=cntL_zero (L:=L) n (by omega);simp only[cntL] at h;cases hL:L n
   ·exact⟨n,by omega,hL,h1⟩
   ·simp[hL] at h;omega
def backB (ops:List Oper):Bool:=(List.range ops.length).all fun i=>match ops[i]? with | none=>true | some o=>o.after.all fun e=> !Region.binds .any e||decide (e.on<i)
section inv
variable {P:Program} {ops:Array Oper} {md:Region.Mode}
theorem oper_onlyN {o:Oper} {a:Act} {w:World} {K:Act->World->Prop} {Q:Exit->Act->World->Prop} (h:o.wp P a w K (onlyN K)):o.wp P a w K Q:=by
 unfold Oper.wp at h ⊢;generalize (execOp a.eval o).run P w=r at h ⊢;cases r with
 | ok x w'=>
  cases x with
  | enter f args=>exact Calls.mono h fun e w2 he=>by cases e<;>first | exact he | exact(onlyN_out he).elim | exact he.elim
  | _=>exact h
 | halt x w'=>cases x<;>first | exact h | exact h.elim
theorem wpOp_of_list {i:Nat} {o:Oper} {a:Act} {w:World} {K:Act->World->Prop} {Q:Exit->Act->World->Prop} (ho:ops[i]? =some o) (h:wpList P ops (onlyN K) [o] a w):wpOp P ops Q i K a w:=by
 unfold wpOp;simp only[ho];unfold wpList at h
 split
 ·rename_i hw
  simp only[hw,if_true] at h;rcases h with h | h
  ·exact .inl (oper_onlyN h)
  ·exact(onlyN_out h.2).elim
 ·rename_i hw
  simp only[hw] at h;exact h
theorem wpAny_inv {n g:Nat} {fin:Array Bool} {Inv:(Nat->Bool)->Act->World->Prop} {Q':Exit->Act->World->Prop} (hs:Region.sinkB md ops n=true) (hc:Region.chainB md ops n=true) (hn:n<ops.size)
  (hback:∀(i:Nat) (o:Oper),ops[i]? =some o->∀e∈o.after,Region.binds md e=true->e.on<i) (hfin:fin.size=ops.size) (hfin1:∀j,fin[j]? =if j<ops.size then some (decide (j<n)) else none)
  (hstep:∀(L:Nat->Bool) a w i o,i<n->ops[i]? =some o->L i=false->(∀e∈o.after,Region.binds md e=true->L e.on=true)->Inv L a w->wpList P ops (onlyN fun a' w'=>Inv (fun j=>j==i||L j) a' w') [o] a w)
  (htail:∀(L:Nat->Bool) a w,(∀j,j<n->L j=true)->Inv L a w->wpAny P md ops Q' g fin a w) :
  ∀(f:Nat) (listed:Array Bool) (a:Act) (w:World),HeadInv md ops n listed->cntL n (fun j=>listed.getD j false)=f->Inv (fun j=>listed.getD j false) a w->wpAny P md ops Q' (f+g) listed a w
 | 0,listed,a,w,inv,hcnt,hI=>by
  have h1:=cntL_zero n hcnt
  have:listed=fin:=by
   apply Array.ext
   ·rw[inv.size,hfin]
   ·intro j hj hj';have h2:=hfin1 j;rw[Array.getElem?_eq_getElem hj',if_pos (by rw[<- hfin];exact hj')] at h2;rw[zJ h2]
    by_cases hjn:j<n
    ·have:=h1 j hjn;simp only[Array.getD,hj,dite_true] at this;rw[zD hjn];exact this
    ·have:=inv.tail j (by omega) (by rw[<- inv.size];exact hj);simp only[Array.getD,hj,dite_true] at this;rw[zE hjn];exact this
  rw[Nat.zero_add,this];rw[this] at hI;exact htail _ a w (by rw[<- this];exact h1) hI
 | f+1,listed,a,w,inv,hcnt,hI=>by
  obtain⟨i0,hi0,hL0,hlow⟩:=cntL_pos n (by rw[hcnt];omega);have hin0:i0<listed.size:=by rw[inv.size];omega
  have hun0:listed.getD i0 true=false:=by simp only[Array.getD,hin0,dite_true] at hL0 ⊢;exact hL0
  rw[show f+1+g=(f+g)+1 by omega];refine⟨fun h0=>absurd (mem_ready.2 ⟨hun0,ops[i0]'(by omega),Array.getElem?_eq_getElem (by omega),fun e he hbd=>hlow _ (hback i0 _ (Array.getElem?_eq_getElem (by omega)) e he hbd)⟩) (by rw[h0];simp),fun i hi=> ?_⟩
  have hin:i<n:=by
   rcases Nat.lt_or_ge i n with h | h
   ·exact h
   ·exact absurd hi (tail_waits hs hc hn inv _ i0 rfl hi0 hun0 i h)
  obtain⟨hun,o,ho,hall⟩:=mem_ready.1 hi;have hsz:i<listed.size:=by rw[inv.size];omega
  have hLi:listed.getD i false=false:=by simp only[Array.getD,hsz,dite_true] at hun ⊢;exact hun
  have e:(fun j=>(listed.setIfInBounds i true).getD j false)=fun j=>j==i||listed.getD j false:=by
   funext j
   by_cases hj:j=i
   ·subst hj;simp[Array.getD,hsz]
   ·simp only[Array.getD,Array.size_setIfInBounds]
    by_cases hjs:j<listed.size
    ·simp[hjs,hj,Ne.symm hj]
    ·simp[hjs,hj]
  refine wpOp_mono (fun a' w' h=>wpAny_inv hs hc hn hback hfin hfin1 hstep htail f _ a' w' (inv.set hi hin) ?_ ?_) (wpOp_of_list ho (hstep _ a w i o hin ho hLi hall hI))
  ·rw[e];have:=cntL_set (L:=fun j=>listed.getD j false) hLi n hin;omega
  ·rw[e];exact h
theorem backB_spec {l:List Oper} (h:backB l=true):∀(i:Nat) (o:Oper),l.toArray[i]? =some o->∀e∈o.after,Region.binds .any e=true->e.on<i:=fun i o ho e he hbd=>by
 have hi:i<l.length:=by
  rcases Nat.lt_or_ge i l.length with h1 | h1
  ·exact h1
  ·rw[Array.getElem?_eq_none (by simpa using h1)] at ho;cases ho
 have:=List.all_eq_true.1 h i (List.mem_range.2 hi);simp only[List.getElem?_toArray] at ho;rw[ho] at this;have h2:=Array.all_eq_true'.1 this e he
 simpa [hbd] using h2
theorem wpAny_region_inv {Q:Exit->Act->World->Prop} {a:Act} {w:World} {l:List Oper} (n:Nat) (Inv:(Nat->Bool)->Act->World->Prop) (hs:Region.sinkB .any l.toArray n=true) (hc:Region.chainB .any l.toArray n=true) (hb:backB l=true) (hn:n<l.toArray.size)
  (hseq:Region.seqB .any l.toArray (l.drop n).length n ((List.range l.length).map (fun j=>decide (j<n))).toArray=true)
  (h0:Inv (fun _=>false) a { w with drawn:=w.drawn+1 })
  (hstep:∀(L:Nat->Bool) a w i o,i<n->l[i]? =some o->L i=false->(∀e∈o.after,Region.binds .any e=true->L e.on=true)->Inv L a w->wpList P l.toArray (onlyN fun a' w'=>Inv (fun j=>j==i||L j) a' w') [o] a w)
  (htail:∀(L:Nat->Bool) a w,(∀j,j<n->L j=true)->Inv L a w->wpList P l.toArray Q (l.drop n) a w):wpAny P .any l.toArray Q l.toArray.size (Array.replicate l.toArray.size false) a { w with drawn:=w.drawn+1 }:=by
 have inv0:HeadInv .any l.toArray n (Array.replicate l.toArray.size false):=
  ⟨by simp,fun j oj _ hl=>(by rw[getD_replicate_false] at hl;cases hl),fun t _ ht=>getD_in (by simpa using ht) (getD_replicate_false _ _)⟩
 have e0:(fun j=>(Array.replicate l.toArray.size false).getD j false)=fun _=>false:=funext fun j=>getD_replicate_false _ _
 have h:=wpAny_inv (P:=P) (ops:=l.toArray) (md:= .any) (n:=n) (g:=(l.drop n).length) (Inv:=Inv) (Q':=Q) (fin:=((List.range l.length).map (fun j=>decide (j<n))).toArray) hs hc hn (backB_spec hb)
  (by simp) (fun j=>by simp only[List.getElem?_toArray,List.getElem?_map,List.size_toArray];split<;>rename_i h1<;>simp[h1])
  (fun L a w i o hi ho=>hstep L a w i o hi (by simpa using ho))
  (fun L a w hL hI=>wpAny_of_seq (l.drop n) n _ a w (fun j=>by simp) hseq (htail _ a w hL hI)) n (Array.replicate l.toArray.size false) a { w with drawn:=w.drawn+1 } inv0
  (by rw[e0];exact cntL_false n) (by rw[e0];exact h0)
 have hlen:n+(l.drop n).length=l.toArray.size:=by have:=hn;simp at this ⊢;omega
 rwa [hlen] at h
theorem wp_region_inv {id:Nat} {Q:Exit->Act->World->Prop} {a:Act} {w:World} {l:List Oper} (n:Nat) (Inv:(Nat->Bool)->Act->World->Prop) (hm:P.follows .mixedOrders=true)
  (hs:Region.sinkB .any l.toArray n=true) (hc:Region.chainB .any l.toArray n=true) (hb:backB l=true) (hn:n<l.toArray.size)
  (hseq:Region.seqB .any l.toArray (l.drop n).length n ((List.range l.length).map (fun j=>decide (j<n))).toArray=true)
  (h0:Inv (fun _=>false) a { w with drawn:=w.drawn+1 })
  (hstep:∀(L:Nat->Bool) a w i o,i<n->l[i]? =some o->L i=false->(∀e∈o.after,Region.binds .any e=true->L e.on=true)->Inv L a w->wpList P l.toArray (onlyN fun a' w'=>Inv (fun j=>j==i||L j) a' w') [o] a w)
  (htail:∀(L:Nat->Bool) a w,(∀j,j<n->L j=true)->Inv L a w->wpList P l.toArray Q (l.drop n) a w):(Code.region id l.toArray true).wp P Q a w:=
 wp_region_any hm (wpAny_region_inv n Inv hs hc hb hn hseq h0 hstep htail)
end inv
def SeqR {α:Type} (P:Program) (g:Nat) (lb:Array Value) (encs:α->Array Value) (R:α->World->Prop) (Kp:World->World->Prop) (S Sp:List α->Prop) (N:Nat) (w:World):Prop:=
 ∀(l:Nat) (J Jx:List α->World->Prop) (W:World),Bl w W →
  (∀s A B,J s A->Bl A B->J s B)->(∀s A B,Jx s A->Bl A B->Jx s B) →
  (∀m pre x W1,J pre W1->pre.length<N->R x W1->YieldAt Fence.wide m P l (encs x) W1 fun e W'=>
   (e= .returned (.bool true)/\J (pre++[x]) W'/\Kp W1 W')\/(e= .returned (.bool false)/\Jx (pre++[x]) W')) →
  J [] W →
  Calls P g (#[.func (.yield l) #[] #[]]++lb) W fun e W'=>(∃v,e= .returned v)/\((∃xs,S xs/\J xs W')\/(∃pre,Sp pre/\Jx pre W'))
theorem OwnFrom.later {β:Type} {B:Nat} {I:β->World->Prop} (h:OwnFrom B I) {s:β} {A C:World} (hs:I s A) (hb:Bl A C):I s C:=
 h s A C none hs ⟨hb.os,hb.tape,hb.output,hb.size,fun i hi _=>hb.block i hi⟩ (fun _ e=>by cases e)
theorem wide_depth {n:Nat}:Fence.wide.depth.isSome=true->1<=n:=fun h=>by cases h
theorem wpIn_rangeFunc_R {P:Program} {n:Nat} {α:Type} {g:Operand} {ps:Array Tmp} {assign body:Code} {Q:Exit->Act->World->Prop} {a:Act} {w:World}
  {gf:Nat} {lb:Array Value} (hg:a.eval g= .func (.func gf) #[] lb) (eg:∀args w,(callFunc gf args).run P w= .ok (.enter gf args) w)
  {encs:α->Array Value} {R:α->World->Prop} {Kp:World->World->Prop} {S Sp:List α->Prop} {N:Nat} {w0:World} (hseq:SeqR P gf lb encs R Kp S Sp N w0)
  (hKt:∀ {A B C:World},Kp A B->Kp B C->Kp A C) (hKb:∀(W:World) (l:Nat) (o o':Obj),w.heap.size<=l->W.heap[l]? =some o->o.isCells=false->Kp W (W.putObj l o'))
  (hRb:∀(x:α) (W:World) (l:Nat) (o o':Obj),w.heap.size<=l->W.heap[l]? =some o->o.isCells=false->R x W->R x (W.putObj l o'))
  (hb0:Bl w0 w) (hps:∀x,(encs x).size=ps.size)
  (I:List α->World->Prop) (Ix:Code->List α->World->Prop) (hI:OwnFrom w.heap.size I) (hIx:∀c,OwnFrom w.heap.size (Ix c)) (h0:I [] w) (a₁:α->Act)
  (hassign:∀(l m:Nat) (x:α) (W:World) (K:Act->World->Prop),K (a₁ x) W →
   assign.wpIn (Fence.wide.inRound l) m P (Exit.then K (fun _ _ _=>False)) { tmps:=(ps.zip (encs x)).foldl (fun t (p,v)=>t.setIfInBounds p v) a.tmps,defers:=[] } W)
  (hbody:∀(l m:Nat) (pre:List α) (x:α) (W:World),I pre W->pre.length<N->R x W->body.wpIn (Fence.wide.inRound l) m P (ownPostK Kp I Ix (pre++[x]) W) (a₁ x) W)
  (hdone:∀(D:Nat) (xs:List α) (W:World),w.heap.size<=D->S xs->I xs W->W.heap[D]? =some (.deferred (some []))->Q .normal { a with defers:={ target:= .collected D,args:= #[] }::a.defers } W)
  (hstop:∀(D:Nat) (c:Code) (pre:List α) (W:World),w.heap.size<=D->Sp pre->Ix c pre W->W.heap[D]? =some (.deferred (some []))->c.wpIn Fence.wide n P Q { a with defers:={ target:= .collected D,args:= #[] }::a.defers } W) :
  (Code.rangeFunc g ps assign body).wpIn Fence.wide n P Q a w:=by
 refine wpIn_rangeFunc fun fn _=> ?_
 obtain⟨rec,hrec⟩:∃rec:LoopState->Option Code->Loop,rec=fun st pe=>{ state:=st,pending:=pe,fn,tmps:=a.tmps,params:=ps,assign,body,defers:=w.heap.size }:=⟨_,rfl⟩
 obtain⟨W1,hW1⟩:=eX ((w.alloc (.deferred (some []))).alloc (.loop (rec .ready none)))
 have hL1:W1.heap[w.heap.size+1]? =some (.loop (rec .ready none)):=by
  rw[<- hW1];have:=World.alloc_heap_new (w.alloc (.deferred (some []))) (.loop (rec .ready none));rwa [World.size_alloc] at this
 have hK1:W1.heap[w.heap.size]? =some (.deferred (some [])):=by
  rw[<- hW1];exact(zP _ _ _ (by simp)).trans (World.alloc_heap_new w _)
 have hI1:I [] W1:=by rw[<- hW1];exact hI.alloc _ (hI.alloc _ h0)
 have hb1:Bl w0 W1:=by
  rw[<- hW1];exact hb0.trans ((((zX _ w).alloc (zm _) _).alloc (by simp) _).mono hb0.size)
 have same:∀ {A C:World} {k:Nat} {o:Obj},Bl A C->A.heap[k]? =some o->C.heap[k]? =some o:=fun hb h=>(hb.block _ (zT.1 h).1).trans h
 refine⟨w.heap.size+1,[{ target:= .collected w.heap.size,args:= #[] }],W1, { target:= .fn (.func gf) lb,args:= #[.func (.yield (w.heap.size+1)) #[] #[]] },W1,gf,
  #[.func (.yield (w.heap.size+1)) #[] #[]]++lb,W1,?_,?_,?_,?_,wide_depth,callsIn_wide.2 ?_⟩
 ·rw[<- hW1,hrec];exact run_enterLoop_outer _ _ _ _ _
 ·simp only[resolve,hg];simp[go_sem]
 ·intro _ _;trivial
 ·simp[invoke,go_sem,eg]
 ·refine(hseq (w.heap.size+1)
   (fun pre W=>I pre W/\W.heap[w.heap.size+1]? =some (.loop (rec .ready none))/\W.heap[w.heap.size]? =some (.deferred (some [])))
   (fun pre W=>∃c,Ix c pre W/\W.heap[w.heap.size+1]? =some (.loop (rec .done (some c)))/\W.heap[w.heap.size]? =some (.deferred (some [])))
   W1 hb1
   (fun s A B hs hb=>⟨OwnFrom.later hI hs.1 hb,same hb hs.2.1,same hb hs.2.2⟩)
   (fun s A B ⟨c,hc,hl,hk⟩ hb=>⟨c,OwnFrom.later (hIx c) hc hb,same hb hl,same hb hk⟩)
   ?_ ⟨hI1,hL1,hK1⟩).mono ?_
  ·rintro m pre x W ⟨hi,hl,hk⟩ hlen hRx;have hlt:w.heap.size+1<W.heap.size:=(zT.1 hl).1;have hy:=run_yield (P:=P) (args:=encs x) hl (by rw[hrec];exact hps x);rw[hrec] at hy;refine⟨fn,_,assign,body,hy,roundIn_of_wpIn trivial (hassign _ _ x W _ ⟨_,run_beginRound hl (by rw[hrec]),?_⟩)⟩;have hl2:(W.putObj (w.heap.size+1) (.loop { rec .ready none with state:= .busy })).heap[w.heap.size+1]? =some (.loop { rec .ready none with state:= .busy }):=World.putObj_heap_same hlt;have hk2:(W.putObj (w.heap.size+1) (.loop { rec .ready none with state:= .busy })).heap[w.heap.size]? =some (.deferred (some [])):=(World.putObj_heap_other (by omega)).trans hk;have hw2:Kp W (W.putObj (w.heap.size+1) (.loop { rec .ready none with state:= .busy })):=hKb _ _ _ _ (by omega) hl rfl;refine wpIn_mono (hbody _ _ pre x _ (hI.putObj _ hi (by omega) hl rfl) hlen (hRb x W _ _ _ (by omega) hl rfl hRx)) ?_
   have fin:∀(jump:Option Code) (W3:World),KeepsOthers (W.putObj (w.heap.size+1) (.loop { rec .ready none with state:= .busy })) W3 →
     (Instr.endRound (w.heap.size+1) jump).run P W3= .ok (.bool jump.isNone) (W3.putObj (w.heap.size+1) (.loop (rec (if jump.isNone then .ready else .done) jump))) ∧
     W3.heap[w.heap.size+1]? =some (.loop { rec .ready none with state:= .busy }) ∧
     (W3.putObj (w.heap.size+1) (.loop (rec (if jump.isNone then .ready else .done) jump))).heap[w.heap.size+1]? =some (.loop (rec (if jump.isNone then .ready else .done) jump)) ∧
     (W3.putObj (w.heap.size+1) (.loop (rec (if jump.isNone then .ready else .done) jump))).heap[w.heap.size]? =some (.deferred (some [])):=fun jump W3 hk3=>by
    have hl3:=hk3.same _ _ hl2 rfl;have:=run_endRound (P:=P) jump hl3;rw[hrec] at this ⊢;exact⟨this,by rw[hrec] at hl3;exact hl3,World.putObj_heap_same (zT.1 hl3).1,(World.putObj_heap_other (by omega)).trans (hk3.same _ _ hk2 rfl)⟩
   rintro e a3 W3 hp;cases e with
   | normal=>
    obtain⟨hk3,hkp3,hi3⟩:=hp;obtain⟨hr,hl3,hl4,hk4⟩:=fin none W3 hk3;exact⟨_,_,hr,.inl ⟨rfl,⟨hI.putObj _ hi3 (by omega) hl3 rfl,hl4,hk4⟩,hKt (hKt hw2 hkp3) (hKb _ _ _ _ (by omega) hl3 rfl)⟩⟩
   | ret=>
    obtain⟨hk3,hi3⟩:=hp;obtain⟨hr,hl3,hl4,hk4⟩:=fin (some .ret) W3 hk3;exact⟨_,_,hr,.inr ⟨rfl,.ret,(hIx _).putObj _ hi3 (by omega) hl3 rfl,hl4,hk4⟩⟩
   | exit id=>
    obtain⟨hk3,hi3⟩:=hp;obtain⟨hr,hl3,hl4,hk4⟩:=fin (some (.exit id)) W3 hk3;exact⟨_,_,hr,.inr ⟨rfl,.exit id,(hIx _).putObj _ hi3 (by omega) hl3 rfl,hl4,hk4⟩⟩
   | goto t=>
    obtain⟨hk3,hi3⟩:=hp;obtain⟨hr,hl3,hl4,hk4⟩:=fin (some (.goto t)) W3 hk3;exact⟨_,_,hr,.inr ⟨rfl,.goto t,(hIx _).putObj _ hi3 (by omega) hl3 rfl,hl4,hk4⟩⟩
   | panic ch=>exact hp.elim
   | outgrown=>exact hp.elim
  ·rintro e W2 ⟨⟨v,rfl⟩,(⟨xs,hS,hi,hl,hk⟩ | ⟨pre,hSp,c,hi,hl,hk⟩)⟩
   ·exact⟨none,_,by have:=run_endLoop (P:=P) hl (by rw[hrec];simp);rw[hrec] at this;exact this,hdone _ xs _ (zm _) hS (hI.putObj _ hi (by omega) hl rfl) ((World.putObj_heap_other (by omega)).trans hk)⟩
   ·exact⟨some c,_,by have:=run_endLoop (P:=P) hl (by rw[hrec];simp);rw[hrec] at this;exact this,hstop _ c pre _ (zm _) hSp ((hIx c).putObj _ hi (by omega) hl rfl) ((World.putObj_heap_other (by omega)).trans hk)⟩
def Sep (a b:Value):Prop:=∀k,a.ownBlock=some k->b.ownBlock≠some k
theorem own_other {w w':World} {base e size n:Nat} {a b:Value} {xs:List Value} (h:w.ownsRow base e size b n xs) (hg:w.grownBy w' a.ownBlock) (hs:Sep a b):w'.ownsRow base e size b n xs:=
 h.kept hg (by
  cases hb:b.ownBlock with
  | none=>exact .inl rfl
  | some k=>exact .inr fun e=>hs k e.symm hb)
section
variable {P:Program} {ops:Array Oper} {md:Region.Mode}
theorem wpAny_allK {Inv:(Nat->Bool)->Act->World->Prop} {Q:Exit->Act->World->Prop}
  (hback:∀(i:Nat) (o:Oper),ops[i]? =some o->∀e∈o.after,Region.binds md e=true->e.on<i)
  (hstep:∀(L:Nat->Bool) a w i o,ops[i]? =some o->L i=false->(∀e∈o.after,Region.binds md e=true->L e.on=true)->Inv L a w->∃K:Act->World->Prop,(∀a' w',K a' w'->Inv (fun j=>j==i||L j) a' w')/\wpList P ops (onlyN K) [o] a w)
  (hfin:∀(L:Nat->Bool) a w,(∀j,j<ops.size->L j=true)->Inv L a w->Q .normal a w) :
  ∀(f:Nat) (listed:Array Bool) (a:Act) (w:World),listed.size=ops.size->cntL ops.size (fun j=>listed.getD j false)=f->Inv (fun j=>listed.getD j false) a w->wpAny P md ops Q f listed a w
 | 0,listed,a,w,hsz,hcnt,hI=>by
  have h1:=cntL_zero ops.size hcnt;refine⟨List.eq_nil_iff_forall_not_mem.2 fun i hi=> ?_,hfin _ a w h1 hI⟩;obtain⟨hun,o,ho,_⟩:=mem_ready.1 hi;have hlt:i<ops.size:=(zT.1 ho).1;have h2:=h1 i hlt;have hl:i<listed.size:=by omega
  simp only[Array.getD,hl,dite_true] at hun h2;rw[hun] at h2;cases h2
 | f+1,listed,a,w,hsz,hcnt,hI=>by
  obtain⟨i0,hi0,hL0,hlow⟩:=cntL_pos ops.size (by rw[hcnt];omega);have hin0:i0<listed.size:=by omega
  have hun0:listed.getD i0 true=false:=by simp only[Array.getD,hin0,dite_true] at hL0 ⊢;exact hL0
  refine⟨fun h0=>absurd (mem_ready.2 ⟨hun0,ops[i0]'(by omega),Array.getElem?_eq_getElem (by omega),fun e he hbd=>hlow _ (hback i0 _ (Array.getElem?_eq_getElem (by omega)) e he hbd)⟩) (by rw[h0];simp),fun i hi=> ?_⟩;obtain⟨hun,o,ho,hall⟩:=mem_ready.1 hi;have hin:i<ops.size:=(zT.1 ho).1;have hszi:i<listed.size:=by omega
  have hLi:listed.getD i false=false:=by simp only[Array.getD,hszi,dite_true] at hun ⊢;exact hun
  have e:(fun j=>(listed.setIfInBounds i true).getD j false)=fun j=>j==i||listed.getD j false:=by
   funext j
   by_cases hj:j=i
   ·subst hj;simp[Array.getD,hszi]
   ·simp only[Array.getD,Array.size_setIfInBounds]
    by_cases hjs:j<listed.size
    ·simp[hjs,hj,Ne.symm hj]
    ·simp[hjs,hj]
  obtain⟨K,hK,hwp⟩:=hstep _ a w i o ho hLi hall hI;refine wpOp_mono (fun a' w' h=>wpAny_allK hback hstep hfin f _ a' w' (by rw[Array.size_setIfInBounds];exact hsz) ?_ ?_) (wpOp_of_list ho hwp)
  ·rw[e];have:=cntL_set (L:=fun j=>listed.getD j false) hLi ops.size hin;omega
  ·rw[e];exact hK _ _ h
theorem wp_region_allK {id:Nat} {Q:Exit->Act->World->Prop} {a:Act} {w:World} {l:List Oper} (Inv:(Nat->Bool)->Act->World->Prop) (hm:P.follows .mixedOrders=true) (hb:backB l=true)
  (h0:Inv (fun _=>false) a { w with drawn:=w.drawn+1 })
  (hstep:∀(L:Nat->Bool) a w i o,i<l.length->l[i]? =some o->L i=false->(∀e∈o.after,Region.binds .any e=true->L e.on=true)->Inv L a w->∃K:Act->World->Prop,(∀a' w',K a' w'->Inv (fun j=>j==i||L j) a' w')/\wpList P l.toArray (onlyN K) [o] a w)
  (hfin:∀(L:Nat->Bool) a w,(∀j,j<l.length->L j=true)->Inv L a w->wpList P l.toArray Q [] a w):(Code.region id l.toArray true).wp P Q a w:=by
 refine wp_region_any hm ?_;have e0:(fun j=>(Array.replicate l.toArray.size false).getD j false)=fun _=>false:=funext fun j=>getD_replicate_false _ _
 refine wpAny_allK (Inv:=Inv) (backB_spec hb) (fun L a w i o ho=>hstep L a w i o ?_ (by simpa using ho)) (fun L a w hL=>hfin L a w (fun j hj=>hL j (by simpa using hj))) _ _ _ _ (by simp) ?_ ?_
 ·have:=(zT.1 ho).1
  simpa using this
 ·rw[e0];exact cntL_false _
 ·rw[e0];exact h0
theorem wp_region_all {id:Nat} {Q:Exit->Act->World->Prop} {a:Act} {w:World} {l:List Oper} (Inv:(Nat->Bool)->Act->World->Prop) (hm:P.follows .mixedOrders=true) (hb:backB l=true)
  (h0:Inv (fun _=>false) a { w with drawn:=w.drawn+1 })
  (hstep:∀(L:Nat->Bool) a w i o,i<l.length->l[i]? =some o->L i=false->(∀e∈o.after,Region.binds .any e=true->L e.on=true)->Inv L a w->wpList P l.toArray (onlyN fun a' w'=>Inv (fun j=>j==i||L j) a' w') [o] a w)
  (hfin:∀(L:Nat->Bool) a w,(∀j,j<l.length->L j=true)->Inv L a w->wpList P l.toArray Q [] a w):(Code.region id l.toArray true).wp P Q a w:=
 wp_region_allK Inv hm hb h0 (fun L a w i o hi ho hL haf hI=>⟨_,fun _ _ h=>h,hstep L a w i o hi ho hL haf hI⟩) hfin
end
def putAll (V:Nat->Value):List Nat->Nat->Act->Act
 | [],_,a=>a
 | s::l,i,a=>putAll V l (i+1) (a.put (some s) (V i))
def upd (V:Nat->Value) (i:Nat) (v:Value):Nat->Value:=fun j=>if j=i then v else V j
theorem put_self (a:Act) (s:Nat):a.put (some s) (a.tmps.getD s undef)=a:=by
 cases a with
 | mk t d=>
  simp only[Act.put,Act.mk.injEq,and_true];apply Array.ext
  ·simp
  ·intro i h1 h2
   by_cases hi:s=i
   ·subst hi;simp[h2]
   ·rw[Array.getElem_setIfInBounds];rw[if_neg hi]
theorem putAll_self (a:Act) (V:Nat->Value):∀(l:List Nat) (i:Nat),(∀k (h:k<l.length),V (i+k)=a.tmps.getD l[k] undef)->putAll V l i a=a
 | [],_,_=>rfl
 | s::l,i,h=>by
  have h0:=h 0 (by simp);simp only[Nat.add_zero,List.getElem_cons_zero] at h0;simp only[putAll];rw[h0,put_self]
  exact putAll_self a V l (i+1) (fun k hk=>by
   have:=h (k+1) (by simpa using hk);simp only[List.getElem_cons_succ] at this;rw[<- this]
   congr 1
   omega)
def slotV (a:Act) (slots:List Nat) (i:Nat):Value:=a.tmps.getD (slots.getD i 0) undef
section
variable {P:Program}
theorem wp_region_slots {id:Nat} {Q:Exit->Act->World->Prop} {a:Act} {w:World} {l:List Oper} (n:Nat) (slots:List Nat) (C:(Nat->Bool)->(Nat->Value)->World->Prop) (hm:P.follows .mixedOrders=true)
  (hs:Region.sinkB .any l.toArray n=true) (hc:Region.chainB .any l.toArray n=true) (hb:backB l=true) (hn:n<l.toArray.size)
  (hseq:Region.seqB .any l.toArray (l.drop n).length n ((List.range l.length).map (fun j=>decide (j<n))).toArray=true)
  (h0:C (fun _=>false) (slotV a slots) { w with drawn:=w.drawn+1 })
  (hstep:∀(L:Nat->Bool) V w i o,i<n->l[i]? =some o->L i=false->(∀e∈o.after,Region.binds .any e=true->L e.on=true)->C L V w →
   wpList P l.toArray (onlyN fun a' w'=>∃V',a'=putAll V' slots 0 a/\C (fun j=>j==i||L j) V' w') [o] (putAll V slots 0 a) w)
  (htail:∀(L:Nat->Bool) V w,(∀j,j<n->L j=true)->C L V w->wpList P l.toArray Q (l.drop n) (putAll V slots 0 a) w):(Code.region id l.toArray true).wp P Q a w:=by
 refine wp_region_inv n (fun L a' w'=>∃V,a'=putAll V slots 0 a/\C L V w') hm hs hc hb hn hseq ⟨slotV a slots,(putAll_self a _ slots 0 (fun k hk=>by unfold slotV;rw[zA,Nat.zero_add,zB hk];rfl)).symm,h0⟩ ?_ ?_
 ·rintro L a' w' i o hi ho hLi haf ⟨V,rfl,hC⟩;exact hstep L V w' i o hi ho hLi haf hC
 ·rintro L a' w' hL ⟨V,rfl,hC⟩;exact htail L V w' hL hC
def updD (slots:List Nat) (V:Nat->Value) (d:Option Nat) (v:Value):Nat->Value:=fun j=>if d.isSome&&slots[j]? ==d then v else V j
theorem putAll_ne (V:Nat->Value):∀(l:List Nat) (i:Nat) (a:Act) (s:Nat),s ∉ l->(putAll V l i a).tmps.getD s undef=a.tmps.getD s undef
 | [],_,_,_,_=>rfl
 | x::l,i,a,s,h=>by
  have h1:s≠x:=fun e=>h (by simp[e])
  have h2:s ∉ l:=fun e=>h (by simp[e])
  simp only[putAll];rw[putAll_ne V l (i+1) _ s h2];simp only[Act.put,Array.getD_eq_getD_getElem?];rw[Array.getElem?_setIfInBounds,if_neg (Ne.symm h1)]
theorem putAll_at (V:Nat->Value):∀(l:List Nat) (i:Nat) (a:Act) (j s:Nat),l.Nodup->l[j]? =some s->s<a.tmps.size->(putAll V l i a).tmps.getD s undef=V (i+j)
 | [],_,_,_,_,_,h,_=>by cases h
 | x::l,i,a,0,s,hn,h,hs=>by
  obtain rfl:x=s:=by simpa using h
  simp only[putAll];rw[putAll_ne V l (i+1) _ x (List.nodup_cons.1 hn).1];simp only[Act.put,Array.getD_eq_getD_getElem?,Nat.add_zero];rw[Array.getElem?_setIfInBounds,if_pos rfl,if_pos hs]
  rfl
 | x::l,i,a,j+1,s,hn,h,hs=>by
  simp only[putAll];rw[putAll_at V l (i+1) _ j s (List.nodup_cons.1 hn).2 (by simpa using h) (by simpa [Act.put] using hs)]
  congr 1
  omega
theorem ev_of {A:Act} {s:Nat} {v:Value} (h:A.tmps[s]?.getD undef=v):A.eval (.tmp s)=v:=by
 rw[<- h];exact Array.getD_eq_getD_getElem? ..
theorem get_some {A:Act} {s:Nat} {b:Bool} (h:A.tmps[s]?.getD undef= .bool b):A.tmps[s]? =some (.bool b):=by
 cases h2:A.tmps[s]? with
 | none=>rw[h2] at h;cases h
 | some v=>rw[h2] at h;rw[<- h];rfl
theorem put_comm (a:Act) {s t:Nat} (h:s≠t) (x y:Value):(a.put (some s) x).put (some t) y=(a.put (some t) y).put (some s) x:=by
 simp only[Act.put,Act.mk.injEq,and_true];exact Array.setIfInBounds_comm _ _ h
theorem put_put (a:Act) (s:Nat) (x y:Value):(a.put (some s) x).put (some s) y=a.put (some s) y:=by
 simp only[Act.put,Act.mk.injEq,and_true];exact Array.setIfInBounds_setIfInBounds ..
theorem putAll_put_ne (V:Nat->Value):∀(l:List Nat) (i:Nat) (a:Act) (s:Nat) (v:Value),s ∉ l->(putAll V l i a).put (some s) v=putAll V l i (a.put (some s) v)
 | [],_,_,_,_,_=>rfl
 | x::l,i,a,s,v,h=>by
  have h1:s≠x:=fun e=>h (by simp[e])
  have h2:s ∉ l:=fun e=>h (by simp[e])
  simp only[putAll];rw[putAll_put_ne V l (i+1) _ s v h2,put_comm _ (Ne.symm h1)]
theorem putAll_congr {V V':Nat->Value}:∀(l:List Nat) (i:Nat) (a:Act),(∀j,j<l.length->V (i+j)=V' (i+j))->putAll V l i a=putAll V' l i a
 | [],_,_,_=>rfl
 | x::l,i,a,h=>by
  simp only[putAll];rw[show V i=V' i from by simpa using h 0 (by simp)];exact putAll_congr l (i+1) _ (fun j hj=>by have:=h (j+1) (by simpa using hj);rwa [show i+(j+1)=i+1+j by omega] at this)
theorem putAll_put (V:Nat->Value) (v:Value):∀(l:List Nat) (i:Nat) (a:Act) (j s:Nat),l.Nodup->l[j]? =some s->(putAll V l i a).put (some s) v=putAll (fun k=>if k=i+j then v else V k) l i a
 | [],_,_,_,_,_,h=>by cases h
 | x::l,i,a,0,s,hn,h=>by
  obtain rfl:x=s:=by simpa using h
  simp only[putAll];rw[putAll_put_ne V l (i+1) _ x v (List.nodup_cons.1 hn).1,put_put];simp only[Nat.add_zero,if_true];exact putAll_congr l (i+1) _ (fun k hk=>by rw[if_neg (by omega)])
 | x::l,i,a,j+1,s,hn,h=>by
  simp only[putAll];rw[putAll_put V v l (i+1) _ j s (List.nodup_cons.1 hn).2 (by simpa using h),if_neg (by omega)];exact putAll_congr l (i+1) _ (fun k hk=>by rw[show i+1+j=i+(j+1) by omega])
theorem putAll_updD {slots:List Nat} (hn:slots.Nodup) (V:Nat->Value) (a:Act) (d:Option Nat) (v:Value) (hd:∀s,d=some s->s∈slots):(putAll V slots 0 a).put d v=putAll (updD slots V d v) slots 0 a:=by
 cases d with
 | none=>exact putAll_congr slots 0 a (fun j hj=>by simp[updD])
 | some s=>
  obtain⟨j,hj,hjs⟩:=List.getElem_of_mem (hd s rfl);have hj':slots[j]? =some s:=by rw[zB hj,hjs]
  rw[putAll_put V v slots 0 a j s hn hj'];refine putAll_congr slots 0 a (fun k hk=> ?_);unfold updD;simp only[Nat.zero_add,Option.isSome_some,Bool.true_and]
  by_cases h:k=j
  ·subst h;rw[if_pos rfl,if_pos (by rw[hj'];simp)]
  ·rw[if_neg h,if_neg];rw[zB hk];intro h2;have h2:slots[k]=s:=by simpa using h2
   rw[<- hjs] at h2;exact h ((List.getElem_inj hn).1 h2)
theorem wp_region_opsA {id:Nat} {Q:Exit->Act->World->Prop} {a:Act} {w:World} {l:List Oper} (slots:List Nat) (C:(Nat->Bool)->(Nat->Value)->World->Prop) (hm:P.follows .mixedOrders=true) (hb:backB l=true)
  (hn:slots.Nodup) (hd:l.all (fun o=>match o.dst with | none=>true | some s=>slots.contains s)=true) (hz:slots.all (fun s=>decide (s<a.tmps.size))=true)
  (h0:C (fun _=>false) (slotV a slots) { w with drawn:=w.drawn+1 })
  (hstep:∀(L:Nat->Bool) V w i o (A:Act),i<l.length->l[i]? =some o->L i=false->(∀e∈o.after,Region.binds .any e=true->L e.on=true)->C L V w →
   Hid (∀j s,slots[j]? =some s->A.tmps[s]?.getD undef=V j)->Hid (∀s,s ∉ slots->A.tmps[s]?.getD undef=a.tmps.getD s undef) →
   wpList P l.toArray (onlyN fun a' w'=>∃v,a'=A.put o.dst v/\C (fun j=>j==i||L j) (updD slots V o.dst v) w') [o] A w)
  (hfin:∀(L:Nat->Bool) V w,(∀j,j<l.length->L j=true)->C L V w->wpList P l.toArray Q [] (putAll V slots 0 a) w):(Code.region id l.toArray true).wp P Q a w:=by
 refine wp_region_allK (fun L a' w'=>∃V,a'=putAll V slots 0 a/\C L V w') hm hb ⟨slotV a slots,(putAll_self a _ slots 0 (fun k hk=>by unfold slotV;rw[zA,Nat.zero_add,zB hk];rfl)).symm,h0⟩ ?_ ?_
 ·rintro L a' w' i o hi ho hLi haf ⟨V,rfl,hC⟩
  have hds:∀s,o.dst=some s->s∈slots:=fun s hs=>by
   have h1:=List.all_eq_true.1 hd o (List.mem_of_getElem? ho);rw[hs] at h1
   simpa using h1
  refine⟨_,?_,hstep L V w' i o (putAll V slots 0 a) hi ho hLi haf hC (hI (fun j s hj=>by
   have h2:=List.all_eq_true.1 hz s (List.mem_of_getElem? hj);have h3:=putAll_at V slots 0 a j s hn hj (zI h2)
   rwa [Nat.zero_add,Array.getD_eq_getD_getElem?] at h3)) (hI (fun s hs=>by
   have h3:=putAll_ne V slots 0 a s hs
   rwa [Array.getD_eq_getD_getElem?] at h3))⟩
  rintro a' w' ⟨v,rfl,hC'⟩;exact⟨_,putAll_updD hn V a o.dst v hds,hC'⟩
 ·rintro L a' w' hL ⟨V,rfl,hC⟩;exact hfin L V w' hL hC
end
theorem fill3 {W X:World} {g T:Nat} {u0 u1 u2:Value} (hW:W.heap.size<=g) (h:X.heap[g]? =some (.cells #[u0,u1,u2] T (0,0))) (hb:Bl W X) (x0 x1 x2:Value) :
  (((X.setCell ⟨g,0,none⟩ x0).setCell ⟨g,1,none⟩ x1).setCell ⟨g,2,none⟩ x2).heap[g]? =some (.cells #[x0,x1,x2] T (0,0))/\Below W.heap.size W (((X.setCell ⟨g,0,none⟩ x0).setCell ⟨g,1,none⟩ x1).setCell ⟨g,2,none⟩ x2):=by
 have hh:∀(w:World) (cs:Array Value) (j:Nat) (x:Value),w.heap[g]? =some (.cells cs T (0,0))->(w.setCell ⟨g,j,none⟩ x).heap[g]? =some (.cells (cs.setIfInBounds j x) T (0,0)):=fun w cs j x h=>by
  simp[World.setCell,Array.getElem?_modify,h]
 refine⟨by simpa using hh _ _ 2 x2 (hh _ _ 1 x1 (hh _ _ 0 x0 h)),?_⟩;exact((hb.setCell (p:=⟨g,0,none⟩) hW _).setCell (p:=⟨g,1,none⟩) hW _).setCell (p:=⟨g,2,none⟩) hW _
end W7
