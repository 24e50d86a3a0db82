/- Plain words on worlds and slices,over any program: what a slice of structs reads as,an append of one element to a row of the call's own. -/
import Derived.WalkKit
import Derived.Below
import Derived.Lib.Hide
import Derived.Laws.OwnMore
import Derived.Deep.Draws
import Derived.Maps.AppendAt
import Derived.StillTail
import Derived.Deep.Quiet
import Derived.Deep.QuietTactic
import Derived.BigQuiet
namespace W7
open Go Go.RowKit
abbrev Bl (w X:World):Prop:=Below ((w).heap.size) w X
structure Elem (P:Program) (t e:TypeId) (z:Value) (size bytes:Nat):Prop where
 ht:P.underlying t=some (.slice e)
 hi:∃i,P.info? e=some i/\i.zero=some z/\i.size=size/\i.bytes=bytes
 hzs:z.cells.size=size
 hsz:0<size
 hby:bytes<=1000
theorem Elem.mk' {P:Program} {t e:TypeId} {z:Value} {size bytes:Nat} (ht:P.underlying t=some (.slice e))
  (hi:(P.info? e).map (fun i=>(i.zero,i.size,i.bytes))=some (some z,size,bytes)) (hzs:z.cells.size=size) (hsz:0<size) (hby:bytes<=1000):Elem P t e z size bytes:=by
 obtain⟨i,h⟩:=info_parts hi;exact⟨ht,⟨i,h⟩,hzs,hsz,hby⟩
theorem cells_new (w:World) (e:TypeId) (cs:Array Value):∀j u,cs.toList[j]? =some u->(w.alloc (.cells cs e)).cell? ((⟨w.heap.size,0,none⟩:Addr).add j)=some u:=by
 intro j u hu;have h:(w.alloc (.cells cs e)).heap[w.heap.size]? =some (.cells cs e (0,0)):=heap_alloc_new w _;have hadd:(⟨w.heap.size,0,none⟩:Addr).add j=⟨w.heap.size,j,none⟩:=by unfold Addr.add;split<;>simp_all
 rw[hadd];simp only[World.cell?,h]
 simpa using hu
theorem own_below {w w':World} {base e size n:Nat} {v:Value} {xs:List Value} (h:w.ownsRow base e size v n xs) (hb:Bl w w'):w'.ownsRow base e size v n xs:=
 h.kept (row:=none) ⟨hb.os,hb.tape,hb.output,hb.size,fun i hi _=>hb.block i hi⟩ (Classical.em _)
theorem wpList_append1 {P:Program} {w:World} {ops:Array Oper} {rest:List Oper} {o:Oper} {a:Act} {Q:Exit->Act->World->Prop} (hgd:o.guard=none) (s x:Operand) (t:TypeId)
  (ho:o.op= .call { callee:= .builtin .append,args:= #[s,x],argTypes:= #[t,t] })
  (base:Nat) (e:TypeId) (z:Value) (size bytes:Nat) (E:Elem P t e z size bytes)
  (v:Value) (n:Nat) (xs:List Value) (hs:a.eval s=v) (hown:w.ownsRow base e size v n xs)
  (cs:Array Value) (c p:Nat) (hx:a.eval x= .slice (some ⟨p,0,none⟩) 1 c) (hp:p=w.heap.size) (hcs:cs.size=size) (h1:∀u∈cs.toList,u.oneCell'=true)
  (hn:n<=100000000) (hbase:base<=w.heap.size)
  (h:∀v' w',w'.ownsRow base e size v' (n+1) (xs++cs.toList)->Below base w w'->w.heap.size<w'.heap.size->w.grownBy w' v.ownBlock->(v'.ownBlock=v.ownBlock\/∃k,v'.ownBlock=some k/\w.heap.size<=k)->wpList P ops Q rest (a.put o.dst v') w') :
  wpList P ops Q (o::rest) a (w.alloc (.cells cs e)):=by
 obtain⟨ht,⟨i,hi,hz,hsize,hbytes⟩,hzs,hsz,hby⟩:=E;have hw:=hown.alloc (.cells cs e)
 have hbnd:(n+1)*bytes<=140737488355328:=by
  have:(n+1)*bytes<=(n+1)*1000:=Nat.mul_le_mul_left _ hby;omega
 obtain⟨v',w',hrun,hown',hg,_,hblk⟩:=run_append_own_at (P:=P) (w.alloc (.cells cs e)) base t o.type e i z size bytes ht hi hz hsize hbytes hzs hsz v n xs hw ⟨w.heap.size,0,none⟩ 1 c cs.toList (by simp[hcs]) (cells_new w e cs) h1 (by unfold maxLen;omega) hbnd (by simp;omega)
 have hg2:w.grownBy w' v.ownBlock:=by
  refine⟨hg.os,hg.tape,hg.output,?_,fun k hk hne=> ?_⟩
  ·have:=hg.size;simp at this;omega
  ·rw[hg.block k (by simp;omega) hne];exact Below.heap_alloc w _ k hk
 have hlt:=hown.lt;subst hp;refine wpList_plain hgd fun K hK=> ?_
 unfold Oper.wp execOp;simp only[ho,resolve,invoke,builtin,Sem.run_bind,Sem.run_pure,Result.andThen_ok,List.map_toArray,List.map_cons,List.map_nil,hs,hx,hrun];exact hK _ _ (h v' w' hown' ((Below.refl _ _).grown hg2 hbase fun k hk=>(hlt k hk).1) (by have:=hg.size;simp at this;omega) hg2 (hblk.imp id fun h=>⟨_,h,by simp⟩))
theorem run_append_nil {P:Program} {w:World} {base:Nat} {t ty e:TypeId} {z:Value} {size bytes:Nat} (E:Elem P t e z size bytes) {v:Value} {n:Nat} {xs:List Value} (hown:w.ownsRow base e size v n xs) (c:Nat) :
  (Builtin.append_ #[t,t] ty #[v,.slice none 0 c]).run P w= .ok v w:=by
 obtain⟨ht,⟨i,hi,hz,hsize,hbytes⟩,hzs,hsz,hby⟩:=E;rcases hown.2 with⟨rfl,rfl⟩ | ⟨g,cap,cur,rfl,_,_,hnc,_⟩
 ·simp[Builtin.append_,run_underlying ht,Go.sizeOf,typeInfo,hi,Builtin.lenOf,Builtin.firstCells]
 ·simp[Builtin.append_,run_underlying ht,Go.sizeOf,typeInfo,hi,Builtin.lenOf,Builtin.firstCells,hnc,storeCells]
def Src (w:World) (size:Nat) (A:Option Addr) (m:Nat) (cs:List Value):Prop:=
 (A=none/\m=0/\cs=[])\/∃ad,A=some ad/\cs.length=m*size/\∀j u,cs[j]? =some u->w.cell? (ad.add j)=some u
theorem wpList_appendL {P:Program} {w:World} {ops:Array Oper} {rest:List Oper} {o:Oper} {a:Act} {Q:Exit->Act->World->Prop} (hgd:o.guard=none) (s x:Operand) (t:TypeId)
  (ho:o.op= .call { callee:= .builtin .append,args:= #[s,x],argTypes:= #[t,t] })
  (base:Nat) (e:TypeId) (z:Value) (size bytes:Nat) (E:Elem P t e z size bytes)
  (v:Value) (n:Nat) (xs:List Value) (hs:a.eval s=v) (hown:w.ownsRow base e size v n xs)
  (A:Option Addr) (m c:Nat) (cs:List Value) (hx:a.eval x= .slice A m c) (hsrc:Src w size A m cs) (h1:∀u∈cs,u.oneCell'=true)
  (hn:n+m<=100000000) (hbase:base<=w.heap.size)
  (h:∀v' w',w'.ownsRow base e size v' (n+m) (xs++cs)->Below base w w'->w.heap.size<=w'.heap.size->w.grownBy w' v.ownBlock->(v'.ownBlock=v.ownBlock\/∃k,v'.ownBlock=some k/\w.heap.size<=k)->wpList P ops Q rest (a.put o.dst v') w') :
  wpList P ops Q (o::rest) a w:=by
 have hlt:=hown.lt
 have hbnd:(n+m)*bytes<=140737488355328:=by
  have:(n+m)*bytes<=(n+m)*1000:=Nat.mul_le_mul_left _ E.hby;omega
 rcases hsrc with⟨rfl,rfl,rfl⟩ | ⟨ad,rfl,hlen,hcell⟩
 ·have hrun:=run_append_nil (ty:=o.type) E hown c;refine wpList_plain hgd fun K hK=> ?_
  unfold Oper.wp execOp;simp only[ho,resolve,invoke,builtin,Sem.run_bind,Sem.run_pure,Result.andThen_ok,List.map_toArray,List.map_cons,List.map_nil,hs,hx,hrun];exact hK _ _ (h v w (by simpa using hown) (Below.refl _ _) (Nat.le_refl _) (World.grownBy.refl _ _) (.inl rfl))
 ·obtain⟨ht,⟨i,hi,hz,hsize,hbytes⟩,hzs,hsz,hby⟩:=E;obtain⟨v',w',hrun,hown',hg,_,hblk⟩:=run_append_own_at (P:=P) w base t o.type e i z size bytes ht hi hz hsize hbytes hzs hsz v n xs hown ad m c cs hlen hcell h1 (by unfold maxLen;omega) hbnd hbase;refine wpList_plain hgd fun K hK=> ?_
  unfold Oper.wp execOp;simp only[ho,resolve,invoke,builtin,Sem.run_bind,Sem.run_pure,Result.andThen_ok,List.map_toArray,List.map_cons,List.map_nil,hs,hx,hrun];exact hK _ _ (h v' w' hown' ((Below.refl _ _).grown hg hbase fun k hk=>(hlt k hk).1) hg.size hg (hblk.imp id fun h=>⟨_,h,Nat.le_refl _⟩))
theorem max_run (P:Program) (ts:Array TypeId) (t:TypeId) (x y:Int) (w:World):(Builtin.max_ ts t #[.int .i64 x,.int .i64 y]).run P w= .ok (.int .i64 (max x y)) w:=by
 rw[run_max_int2];have:(if y>x then y else x)=max x y:=by split<;>omega
 rw[this]
theorem min_run (P:Program) (ts:Array TypeId) (t:TypeId) (x y:Int) (w:World):(Builtin.min_ ts t #[.int .i64 x,.int .i64 y]).run P w= .ok (.int .i64 (min x y)) w:=by
 rw[run_min_int2];have:(if y<x then y else x)=min x y:=by split<;>omega
 rw[this]
theorem nff {p:Prop} (z:false=true):p:=(Bool.false_ne_true z).elim
theorem hI {p:Prop} (h:p):Hid p:=h
theorem _root_.Go.RowKit.Hid.o {p:Prop} (h:Hid p):p:=h
theorem ret_int {k:IntKind} {a b:Int} (h:a=b):Ending.returned (.int k a)= .returned (.int k b):=by rw[h]
theorem ret_bool {a b:Bool} (h:a=b):Ending.returned (.bool a)= .returned (.bool b):=by rw[h]
def Sl {α:Type} (w:World) (B k:Nat) (enc:α->List Value) (A:Option Addr) (xs:List α):Prop:=
 0<xs.length->∃b off,A=some ⟨b,off,none⟩/\b<B/\∀i (h:i<xs.length) j v,(enc xs[i])[j]? =some v->w.cell? ⟨b,off+i*k+j,none⟩=some v
section
variable {α:Type} {w w':World} {B B' k:Nat} {enc:α->List Value} {A:Option Addr} {xs:List α}
theorem Sl.below (h:Sl w B k enc A xs) (hb:Below B w w'):Sl w' B k enc A xs:=fun h0=>by
 obtain⟨b,off,e,hB,hc⟩:=h h0;exact⟨b,off,e,hB,fun i hi j v hv=>(hb.cell (p:=⟨b,off+i*k+j,none⟩) hB).trans (hc i hi j v hv)⟩
theorem Sl.mono (h:Sl w B k enc A xs) (hB:B<=B'):Sl w B' k enc A xs:=fun h0=>by
 obtain⟨b,off,e,hb,hc⟩:=h h0;exact⟨b,off,e,Nat.lt_of_lt_of_le hb hB,hc⟩
theorem Sl.take (h:Sl w B k enc A xs) (n:Nat):Sl w B k enc A (xs.take n):=fun h0=>by
 obtain⟨b,off,e,hb,hc⟩:=h (by simp at h0;omega);refine⟨b,off,e,hb,fun i hi j v hv=>hc i (by simp at hi;omega) j v ?_⟩
 simpa using hv
theorem Sl.nil:Sl w B k enc A []:=fun h0=>absurd h0 (by simp)
end
def idxB {α:Type} (p:α->Bool) (xs:List α):Int:=match xs.findIdx? p with
 | some i=>(i:Int)
 | none=> -1
section
variable {α:Type} {p:α->Bool} {xs:List α}
theorem idxB_hit {k:Nat} (hk:k<xs.length) (hno:(xs.take k).any p=false) (h:p xs[k]=true):idxB p xs=k:=by
 have:xs.findIdx? p=some k:=by
  rw[List.findIdx?_eq_some_iff_getElem];refine⟨hk,h,fun j hj=> ?_⟩;rw[List.any_eq_false] at hno;have:=hno (xs[j]'(by omega)) (List.mem_take_iff_getElem.2 ⟨j,by omega,rfl⟩)
  simpa using this
 simp[idxB,this]
theorem idxB_none (hno:xs.any p=false):idxB p xs= -1:=by
 have:xs.findIdx? p=none:=by
  rw[List.findIdx?_eq_none_iff];intro x hx;rw[List.any_eq_false] at hno
  simpa using hno x hx
 simp[idxB,this]
theorem idxB_any:decide ((0:Int)<=idxB p xs)=xs.any p:=by
 unfold idxB;cases h:xs.findIdx? p with
 | none=>
  rw[List.findIdx?_eq_none_iff] at h;have:xs.any p=false:=by rw[List.any_eq_false];intro x hx;simpa using h x hx
  rw[this];rfl
 | some i=>
  rw[List.findIdx?_eq_some_iff_getElem] at h;obtain⟨hi,hp,_⟩:=h;have:xs.any p=true:=by rw[List.any_eq_true];exact⟨xs[i],List.getElem_mem _,hp⟩
  rw[this];simp
theorem any_take_succ {k:Nat} (hk:k<xs.length) (hno:(xs.take k).any p=false) (h:p xs[k]=false):(xs.take (k+1)).any p=false:=by
 rw[List.take_succ_eq_append_getElem hk,List.any_append,hno];simp[h]
end
def firstErr (f:Nat->Int):Nat->Int
 | 0=>0
 | n+1=>if firstErr f n=0 then f n else firstErr f n
theorem firstErr_succ {f:Nat->Int} {k:Nat} (h:firstErr f k=0):firstErr f (k+1)=f k:=by simp[firstErr,h]
theorem firstErr_at {f:Nat->Int} {k n:Nat} (h:firstErr f k=0) (hk:f k≠0) (hn:k<n):firstErr f n=f k:=by
 induction n with
 | zero=>omega
 | succ n ih=>
  rcases Nat.lt_or_ge k n with h1 | h1
  ·rw[firstErr,ih h1,if_neg hk]
  ·obtain rfl:k=n:=by omega
   exact firstErr_succ h
theorem alloc_cell {w:World} {cs:Array Value} {e:TypeId} {j:Nat} {v:Value} (h:cs[j]? =some v):(w.alloc (.cells cs e)).cell? ⟨w.heap.size,j,none⟩=some v:=by
 have h1:(w.alloc (.cells cs e)).heap[w.heap.size]? =some (.cells cs e (0,0)):=heap_alloc_new w _;simp only[World.cell?,h1]
 simpa using h
theorem alloc_free {w:World} {cs:Array Value} {e:TypeId} {j:Nat}:(w.alloc (.cells cs e)).frozen? ⟨w.heap.size,j,none⟩=false:=by
 have h1:(w.alloc (.cells cs e)).heap[w.heap.size]? =some (.cells cs e (0,0)):=heap_alloc_new w _;simp only[World.frozen?,h1];simp
def strEq (a b:ByteArray):Bool:=a.toList==b.toList
theorem zD {p:Prop} [Decidable p] (h:p):decide p=true:=decide_eq_true h
theorem zE {p:Prop} [Decidable p] (h: ¬p):decide p=false:=decide_eq_false h
theorem zH {p:Prop} [Decidable p] (h:decide p=false): ¬p:=of_decide_eq_false h
theorem zI {p:Prop} [Decidable p] (h:decide p=true):p:=of_decide_eq_true h
theorem zM {n m:Nat} (h:n.ble m=true):n<=m:=Nat.le_of_ble_eq_true h
theorem zO {B:Nat} {a w:World} (h:Below B a w) (n:Nat):Below B a (w.drewN n):=below_drewN h n
theorem zP (w:World) (o:Obj) (k:Nat) (h:k<w.heap.size):(w.alloc o).heap[k]? =w.heap[k]? :=Below.heap_alloc w o k h
theorem zU (w:World) (b:Nat) (e:TypeId) (s:Nat):w.ownsRow b e s (.slice none 0 0) 0 []:=World.ownsRow_nil w b e s
theorem zW (w:World) (o:Obj):(w.alloc o).heap[w.heap.size]? =some o:=heap_alloc_new w o
theorem zX (B:Nat) (w:World):Below B w w:=Below.refl B w
theorem zY (a b:Bool):((a&&b)=true)=(a=true/\b=true):=Bool.and_eq_true a b
theorem zZ (n:Nat):(n:Int).toNat=n:=Int.toNat_natCast n
theorem zm (n:Nat):n<=n:=Nat.le_refl n
section
variable {P:Program} {ops:Array Oper} {md:Region.Mode} {C:World->Prop}
def wpAnyLC (P:Program) (md:Region.Mode) (ops:Array Oper) (C:World->Prop) (n:Nat) (L:Array Bool->Act->Prop):Nat->Array Bool->Act->Prop
 | 0,listed,a=>L listed a
 | f+1,listed,a=>
  Region.ready md ops listed≠[]/\∀i∈Region.ready md ops listed,i<n/\qOp P ops C i (wpAnyLC P md ops C n L f (listed.setIfInBounds i true)) a
theorem wpAny_of_headC {n g:Nat} {L:Array Bool->Act->Prop} {Q':Exit->Act->World->Prop} (hL:∀listed a w,C w->L listed a->wpAny P md ops Q' g listed a w) :
  ∀(f:Nat) (listed:Array Bool) (a:Act) (w:World),C w->wpAnyLC P md ops C n L f listed a->wpAny P md ops Q' (f+g) listed a w
 | 0,listed,a,w,hw,h=>by rw[Nat.zero_add];exact hL _ _ _ hw h
 | f+1,listed,a,w,hw,h=>by
  rw[show f+1+g=(f+g)+1 by omega];exact⟨fun h0=>absurd h0 h.1,fun i hi=>wpOp_of_qOp hw (fun a' w' hw' h'=>wpAny_of_headC hL f _ a' w' hw' h') (h.2 i hi).2⟩
theorem wpAnyLC_first {n i:Nat} {oi:Oper} {v:Value} {L:Array Bool->Act->Prop} (hi:ops[i]? =some oi) (hsel:∀(j:Nat) (o:Oper) cs b,ops[j]? =some o->o.op≠ .select cs b)
  (hs:Region.sinkB md ops n=true) (hc:Region.chainB md ops n=true) (hn:n<ops.size) (hin:i<n)
  (hdone:∀listed a,L listed a->∀j∈Region.ready md ops listed,n<=j) :
  ∀(f:Nat) (listed:Array Bool) (a:Act),HeadInv md ops n listed →
   (∀j oj,ops[j]? =some oj->j≠i->listed.getD j true=false->(∀e∈oj.after,Region.binds md e=true->e.on≠i)->oi.apart ops oj=true) →
   i∈Region.ready md ops listed->YieldsIn P ops C oi v a →
   wpAnyLC P md ops C n L f (listed.setIfInBounds i true) (a.put oi.dst v)->wpAnyLC P md ops C n L (f+1) listed a:=by
 intro f
 induction f with
 | zero=>
  intro listed a inv _ hr hy H;have hun:=(mem_ready.1 hr).1;refine⟨fun h=>(by rw[h] at hr;cases hr),fun j hj=> ?_⟩
  have hjn:j<n:=by
   rcases Nat.lt_or_ge j n with h | h
   ·exact h
   ·exact absurd hj (tail_waits hs hc hn inv _ i rfl hin hun j h)
  refine⟨hjn,?_⟩
  by_cases hji:j=i
  ·subst hji;exact hy.qOp hi H
  ·have:=hdone _ _ H j (ready_mono hj hji);omega
 | succ f ih=>
  intro listed a inv hfree hr hy H;have hun:=(mem_ready.1 hr).1;refine⟨fun h=>(by rw[h] at hr;cases hr),fun j hj=> ?_⟩
  have hjn:j<n:=by
   rcases Nat.lt_or_ge j n with h | h
   ·exact h
   ·exact absurd hj (tail_waits hs hc hn inv _ i rfl hin hun j h)
  refine⟨hjn,?_⟩
  by_cases hji:j=i
  ·subst hji;exact hy.qOp hi H
  ·have h1:=(H.2 j (ready_mono hj hji)).2;obtain⟨hjun,oj,hoj,hall⟩:=mem_ready.1 hj
   have hnot:∀e∈oj.after,Region.binds md e=true->e.on≠i:=fun e he hb heq=>by
    have h1:=hall e he hb;rw[heq,getD_both hun] at h1;cases h1
   have h2:=qOp_put hoj (hfree j oj hoj hji hjun hnot) (fun cs b=>hsel i oi cs b hi) (fun cs b=>hsel j oj cs b hoj) hy h1
   have hfree':∀k ok,ops[k]? =some ok->k≠i->(listed.setIfInBounds j true).getD k true=false →
     (∀e∈ok.after,Region.binds md e=true->e.on≠i)->oi.apart ops ok=true:=fun k ok hk hki hun hno=>by
    refine hfree k ok hk hki ?_ hno
    by_cases hjk:j=k
    ·subst hjk;exact hjun
    ·rw[getD_set_ne true hjk] at hun;exact hun
   refine qOp_mono (fun a' h3=>ih (listed.setIfInBounds j true) a' (inv.set hj hjn) hfree' (ready_mono hr (Ne.symm hji)) h3.1 ?_) h2;rw[Array.setIfInBounds_comm _ _ hji];exact h3.2
theorem wpAnyLC_lex {n g:Nat} {Lq:Act->Prop} (hsel:Region.noSelect ops=true) (hs:Region.sinkB md ops n=true) (hc:Region.chainB md ops n=true) (hn:n<ops.size) :
  ∀(l:List Oper) (k:Nat) (listed:Array Bool) (a:Act),(∀j,j<l.length->l[j]? =ops[k+j]?)->k+l.length=n->HeadInv md ops n listed →
  Region.lexHead md ops g l.length k listed=true->wpQuiet P ops C Lq l a →
  wpAnyLC P md ops C n (fun listed' a'=>Region.seqB md ops g n listed'=true/\Lq a') l.length listed a
 | [],k,listed,a,_,hk,_,hB,h=>by
  have:k=n:=by simpa using hk
  subst this;exact⟨by simpa [Region.lexHead] using hB,h⟩
 | o::l,k,listed,a,hl,hk,inv,hB,h=>by
  have h0:ops[k]? =some o:=by simpa using(hl 0 (by simp)).symm
  simp only[List.length_cons,Region.lexHead,zY] at hB;obtain⟨⟨hr,hf⟩,hB'⟩:=hB;have hkn:k<n:=by simp only[List.length_cons] at hk;omega
  have hr':k∈Region.ready md ops listed:=by simpa using hr
  have hst:qOp P ops C k (wpQuiet P ops C Lq l) a:=by unfold qOp;simp only[h0];exact h
  obtain⟨v,hy,hK⟩:=yieldsIn_of_qOp h0 hst
  exact wpAnyLC_first h0 (Region.noSelect_spec hsel) hs hc hn hkn (fun listed' a' hL=>seqB_ready hL.1) l.length listed a inv (Region.free_spec h0 hf) hr' hy
   (wpAnyLC_lex hsel hs hc hn l (k+1) _ _ (fun j hj=>by have:=hl (j+1) (by simp;omega);simpa [Nat.add_assoc,Nat.add_comm 1 j] using this) (by simp only[List.length_cons] at hk;omega) (inv.set hr' hkn) hB' hK)
theorem wpAny_class_tail {Q:Exit->Act->World->Prop} {a:Act} {w:World} {l:List Oper} (n:Nat) (hB:Region.lexTailB .any l.toArray n=true)
  (hC:C { w with drawn:=w.drawn+1 })
  (h:wpQuiet P l.toArray C (fun a'=>∀w',C w'->wpList P l.toArray Q (l.drop n) a' w') (l.take n) a):wpAny P .any l.toArray Q l.toArray.size (Array.replicate l.toArray.size false) a { w with drawn:=w.drawn+1 }:=by
 simp only[Region.lexTailB,zY,decide_eq_true_eq] at hB;obtain⟨⟨⟨⟨hsel,hn⟩,hs⟩,hc⟩,hlex⟩:=hB;have hn':n<l.length:=by simpa using hn
 have htl:(l.take n).length=n:=by simp;omega
 have hdl:(l.drop n).length=l.toArray.size-n:=by simp
 have inv0:HeadInv .any l.toArray n (Array.replicate l.toArray.size false):=
  ⟨by simp,fun j oj _ hl=>(by rw[getD_replicate_false] at hl;cases hl),fun t _ ht=>getD_in (by simpa using ht) (getD_replicate_false _ _)⟩
 have H:=wpAnyLC_lex (md:= .any) (g:=l.toArray.size-n) hsel hs hc hn (l.take n) 0 _ a (fun j hj=>by
  have hj':j<n:=by rw[htl] at hj;exact hj
  simp[hj']) (by simpa using htl) inv0 (by rw[htl];exact hlex) h
 have:=wpAny_of_headC (Q':=Q) (g:=l.toArray.size-n) (C:=C) (fun listed a' _w hw' hL=>by
  have hseq:=hL.1;rw[<- hdl] at hseq ⊢;exact wpAny_of_seq (l.drop n) n listed a' _ (fun j=>by simp) hseq (hL.2 _ hw')) (l.take n).length _ a _ hC H
 rw[htl] at this
 rwa [show n+(l.toArray.size-n)=l.toArray.size by omega] at this
theorem wp_region_class_tail {id:Nat} {Q:Exit->Act->World->Prop} {a:Act} {w:World} {l:List Oper} (n:Nat) (hm:P.follows .mixedOrders=true) (hB:Region.lexTailB .any l.toArray n=true)
  (hC:C { w with drawn:=w.drawn+1 })
  (h:wpQuiet P l.toArray C (fun a'=>∀w',C w'->wpList P l.toArray Q (l.drop n) a' w') (l.take n) a):(Code.region id l.toArray true).wp P Q a w:=
 wp_region_any hm (wpAny_class_tail n hB hC h)
end
def Later (w:World):Type:={ W:World // Bl w W }
instance (w:World):Nonempty (Later w):=⟨⟨w,zX _ _⟩⟩
def Later.w {w:World} (e:Later w):World:=e.1
theorem Later.b {w:World} (e:Later w):Bl w e.w:=e.2
theorem later_call {P:Program} {f:FuncId} {args:Array Value} {w:World} (e:Later w) {v:Value} (h:Calls P f args e.w fun r w'=>r= .returned v/\Below e.w.heap.size e.w w') :
  Calls P f args e.w fun r w'=>r= .returned v/\∃e':Later w,w'=e'.w:=
 h.mono fun _ w' ⟨hr,hb⟩=>⟨hr,⟨w',e.b.trans (hb.mono e.b.size)⟩,rfl⟩
theorem later_call_same {P:Program} {f:FuncId} {args:Array Value} {w:World} (e:Later w) {v:Value} (h:Calls P f args e.w fun r w'=>r= .returned v/\e.w=w') :
  Calls P f args e.w fun r w'=>r= .returned v/\∃e':Later w,w'=e'.w:=
 h.mono fun _ _ ⟨hr,hb⟩=>⟨hr,e,hb.symm⟩
theorem later_cell {w:World} {b o:Nat} {v:Value} (h:w.cell? ⟨b,o,none⟩=some v) (hb:b<w.heap.size):∀e:Later w,e.w.cell? ⟨b,o,none⟩=some v:=fun e=>(e.b.cell (p:=⟨b,o,none⟩) hb).trans h
theorem zV {w:World} {b o:Nat} {v:Value} (h:w.cell? ⟨b,o,none⟩=some v) (hb:b<w.heap.size):∀e:Later w,e.w.cell? ⟨b,o,none⟩=some v:=later_cell h hb
theorem later_free {w:World} {b o:Nat} {v:Bool} (h:w.frozen? ⟨b,o,none⟩=v) (hb:b<w.heap.size):∀e:Later w,e.w.frozen? ⟨b,o,none⟩=v:=fun e=>(e.b.frozen (p:=⟨b,o,none⟩) hb).trans h
theorem grown_of_below {a w:World} (h:Bl a w) (row:Option Nat):a.grownBy w row:=⟨h.os,h.tape,h.output,h.size,fun i hi _=>h.block i hi⟩
structure BlkAt (W X:World) (g:Nat) (cs:List Value):Prop where
 lo:W.heap.size<=g
 hi:g<X.heap.size
 cell:∀j v,cs[j]? =some v->X.cell? ⟨g,j,none⟩=some v
 free:∀j,X.frozen? ⟨g,j,none⟩=false
theorem BlkAt.below {W X Y:World} {g:Nat} {cs:List Value} (h:BlkAt W X g cs) (hb:Bl X Y):BlkAt W Y g cs:=
 ⟨h.lo,Nat.lt_of_lt_of_le h.hi hb.size,fun j v hv=>(hb.cell (p:=⟨g,j,none⟩) h.hi).trans (h.cell j v hv),fun j=>(hb.frozen (p:=⟨g,j,none⟩) h.hi).trans (h.free j)⟩
theorem BlkAt.new {W X:World} {cs:Array Value} {e:TypeId} (h:W.heap.size<=X.heap.size):BlkAt W (X.alloc (.cells cs e)) X.heap.size cs.toList:=
 ⟨h,by simp,fun j v hv=>alloc_cell (by simpa using hv),fun j=>alloc_free⟩
end W7
