/- Plain functions and laws of the best schedule: lists in order,all orders one behind the other. -/
import Derived.Test.YtjpgnfekbojcaaaGreatWSer
import Derived.Test.YtjpgnfekbojcaaaGreatWQue2
set_option maxHeartbeats 16000000
set_option maxRecDepth 100000
namespace W8
open W7
def lessL:List Int->List Int->Bool
 | [],[]=>false
 | [],_::_=>true
 | _::_,[]=>false
 | a::s,b::t=>if a=b then lessL s t else decide (a<b)
def compV:List Int->List Int->Int
 | [],[]=>0
 | [],_::_=> -1
 | _::_,[]=>1
 | a::s,b::t=>if a=b then compV s t else if a<b then -1 else 1
theorem comp_less:∀s t:List Int,compV s t<0↔lessL s t=true
 | [],[]=>by simp[compV,lessL]
 | [],_::_=>by simp[compV,lessL]
 | _::_,[]=>by simp[compV,lessL]
 | a::s,b::t=>by
  simp only[compV,lessL]
  by_cases h:a=b
  ·rw[if_pos h,if_pos h];exact comp_less s t
  ·rw[if_neg h,if_neg h]
   by_cases h2:a<b
   ·rw[if_pos h2];simp[h2]
   ·rw[if_neg h2];simp[h2]
theorem drop_at {l:List Int} {i:Nat} (h:i<l.length):l.drop i=l.getD i 0::l.drop (i+1):=by
 rw[List.drop_eq_getElem_cons h,List.getD_eq_getElem?_getD,List.getElem?_eq_getElem h];rfl
theorem comp_end {s t:List Int} {i:Nat} (hs:i=s.length) (ht:i<=t.length):compV (s.drop i) (t.drop i)=if s.length<t.length then -1 else 0:=by
 rw[List.drop_of_length_le (l:=s) (by omega)]
 by_cases h3:i<t.length
 ·rw[drop_at h3,if_pos (by omega)];rfl
 ·rw[List.drop_of_length_le (by omega),if_neg (by omega)];rfl
theorem comp_over {s t:List Int} {i:Nat} (hs:i<s.length) (ht:t.length<=i):compV (s.drop i) (t.drop i)=1:=by
 rw[drop_at hs,List.drop_of_length_le ht];rfl
abbrev BFd:=Option (List Int×Int)
def pickV (s:List Int) (n:Int):BFd->BFd
 | none=>some (s,n)
 | some (s0,n0)=>if n<n0\/(n=n0/\lessL s s0=true) then some (s,n) else some (s0,n0)
def tryV (j:JobP) (order:List Int) (F:BFd):BFd:=
 if (serialGo j 0 order order.length (bd0 j)).1 then pickV (serialGo j 0 order order.length (bd0 j)).2.st (lenOf j (serialGo j 0 order order.length (bd0 j)).2.st) F else F
def bestGo (j:JobP):Nat->List Int->BFd->BFd
 | 0,h,F=>tryV j h F
 | f+1,h,F=>(List.range j.tasks.length).foldl (fun(F:BFd) (i:Nat)=>if h.contains (i:Int) then F else bestGo j f (h++[(i:Int)]) F) F
def stepB (j:JobP) (f:Nat) (h:List Int) (F:BFd) (i:Nat):BFd:=if h.contains (i:Int) then F else bestGo j f (h++[(i:Int)]) F
def bestTo (j:JobP) (f:Nat) (h:List Int) (F:BFd) (i:Nat):BFd:=(List.range i).foldl (stepB j f h) F
theorem bestTo_succ (j:JobP) (f:Nat) (h:List Int) (F:BFd) (i:Nat):bestTo j f h F (i+1)=stepB j f h (bestTo j f h F i) i:=by
 unfold bestTo;rw[List.range_succ,List.foldl_append];rfl
theorem bestGo_succ (j:JobP) (f:Nat) (h:List Int) (F:BFd):bestGo j (f+1) h F=bestTo j f h F j.tasks.length:=rfl
structure HaveOk (j:JobP) (f:Nat) (h:List Int):Prop where
 len:h.length+f=j.tasks.length
 rng:∀x∈h,0<=x/\x<j.tasks.length
 nd:h.Nodup
theorem HaveOk.snoc {j:JobP} {f:Nat} {h:List Int} (H:HaveOk j (f+1) h) {i:Nat} (hi:i<j.tasks.length) (hc:h.contains (i:Int)=false):HaveOk j f (h++[(i:Int)]):=by
 refine⟨by have:=H.len;simp;omega,fun x hx=> ?_,?_⟩
 ·rcases List.mem_append.1 hx with hx | hx
  ·exact H.rng x hx
  ·rw[List.mem_singleton.1 hx];omega
 ·rw[List.nodup_append];refine⟨H.nd,by simp,fun a ha b hb e=> ?_⟩;rw[List.mem_singleton.1 hb] at e;rw[e] at ha;have:=List.contains_iff_mem.2 ha;rw[hc] at this;cases this
theorem HaveOk.isPerm {j:JobP} {h:List Int} (H:HaveOk j 0 h):permB h j.tasks.length=true:=by
 unfold permB;have h1:=H.len;simp only[Bool.and_eq_true,decide_eq_true_eq,List.all_eq_true];exact⟨⟨by omega,fun x hx=>withinB_true.2 (by have:=H.rng x hx;omega)⟩,H.nd⟩
theorem serialGo_times {j:JobP} (hG:JGood j) {order:List Int} (hord:∀x∈order,0<=x/\x<j.tasks.length):∀(f:Nat) (b:Bd),(∀i,0<=b.st.getD i 0/\b.st.getD i 0<=100000)->∀i,0<=(serialGo j 0 order f b).2.st.getD i 0/\(serialGo j 0 order f b).2.st.getD i 0<=100000
 | 0,b,h=>h
 | f+1,b,h=>by
  cases hf:order.find? (fun n=>mayB j b.pl n.toNat) with
  | none=>rw[serialGo_none hf];exact h
  | some x=>
   have hx:=hord x (List.mem_of_find?_eq_some hf);cases hv:placeV j b 0 x.toNat with
   | none=>rw[serialGo_no hf hv];exact h
   | some s=>
    rw[serialGo_put hf hv];have h1:=place_bd hG h (by omega) (by omega) hv;refine serialGo_times hG hord f _ (fun i=> ?_);unfold Bd.put
    show 0<=(b.st.set x.toNat s).getD i 0/\(b.st.set x.toNat s).getD i 0<=100000
    rw[List.getD_eq_getElem?_getD,List.getElem?_set];have h2:=h i;rw[List.getD_eq_getElem?_getD] at h2
    split
    ·split
     ·exact⟨h1.1,h1.2.1⟩
     ·exact⟨by decide,by decide⟩
    ·exact h2
def bestErr (j:JobP):Int:=if jobErr j≠0 then jobErr j else if 7<j.tasks.length then 3 else if (bestGo j j.tasks.length [] none).isSome then 0 else 9
def bestSt (j:JobP):List Int:=if bestErr j=0 then((bestGo j j.tasks.length [] none).getD ([],0)).1 else[]
def bestN (j:JobP):Int:=if bestErr j=0 then((bestGo j j.tasks.length [] none).getD ([],0)).2 else 0
end W8
namespace Go.Proofs.YtjpgnfekbojcaaaGreat
open Go.RowKit W7 W8
attribute [local go_sem] Oper.semAt_some
theorem sl_at {X:World} {B:Nat} {A:Option Addr} {l:List Int} (h:Sl X B 1 encInt1 A l) {i:Nat} (hi:i<l.length):∃b o,A=some ⟨b,o,none⟩/\b<B/\X.cell? ⟨b,o+i,none⟩=some (.int .i64 (l.getD i 0)):=by
 obtain⟨b,o,h1,h2,h3⟩:=h (by omega);have h:=h3 i hi 0 _ rfl;rw[Nat.mul_one,Nat.add_zero] at h;refine⟨b,o,h1,h2,?_⟩;rw[h,List.getD_eq_getElem?_getD,List.getElem?_eq_getElem hi]
 rfl
def cmpV (x y:Int):Int:=if x=y then 0 else if x<y then -1 else 1
theorem isNaN_any (x:Int) (w:World):Calls Tryz.prog 176 #[.int .i64 x] w fun e w'=>e= .returned (.bool false)/\w'=w:=by
 go_enter Tryz.func176,Tryz.ntmps176;go_wp2;go_ret;exact⟨by simp,rfl⟩
theorem cmpI_any (x y:Int) (w:World):Calls Tryz.prog 126 #[.int .i64 x,.int .i64 y] w fun e w'=>e= .returned (.int .i64 (cmpV x y))/\w'=w:=by
 by_cases h1:x<y
 ·have hd:decide (x<y)=true:=decide_eq_true h1;have hv:cmpV x y= -1:=by unfold cmpV;rw[if_neg (by omega),if_pos h1]
  rw[hv];clear hv h1;go_enter Tryz.func126,Tryz.ntmps126;go_wp2_with (go_at_call 176;refine(isNaN_any _ _).mono ?_;rintro e w' ⟨rfl,rfl⟩);go_ret;exact⟨rfl,rfl⟩
 ·have hd:decide (x<y)=false:=decide_eq_false h1
  by_cases h2:y<x
  ·have hd2:decide (x>y)=true:=decide_eq_true h2;have hv:cmpV x y=1:=by unfold cmpV;rw[if_neg (by omega),if_neg h1]
   rw[hv];clear hv h1 h2;go_enter Tryz.func126,Tryz.ntmps126;go_wp2_with (go_at_call 176;refine(isNaN_any _ _).mono ?_;rintro e w' ⟨rfl,rfl⟩);go_ret;exact⟨rfl,rfl⟩
  ·have hd2:decide (x>y)=false:=decide_eq_false h2;have hv:cmpV x y=0:=by unfold cmpV;rw[if_pos (by omega)]
   rw[hv];clear hv h1 h2;go_enter Tryz.func126,Tryz.ntmps126;go_wp2_with (go_at_call 176;refine(isNaN_any _ _).mono ?_;rintro e w' ⟨rfl,rfl⟩);go_ret;exact⟨rfl,rfl⟩
theorem compare_any (s t:List Int) (A A':Option Addr) (n c n' c':Nat) (w:World) (hn:s.length=n) (hn':t.length=n') (hA:Sl w w.heap.size 1 encInt1 A s) (hA':Sl w w.heap.size 1 encInt1 A' t) (hl:n<=1000) (hl':n'<=1000) :
  Calls Tryz.prog 127 #[.slice A n c,.slice A' n' c'] w fun e w'=>e= .returned (.int .i64 (compV s t))/\Bl w w':=by
 have HA:=hI (show ∀X:World,Bl w X->Sl X w.heap.size 1 encInt1 A s/\Sl X w.heap.size 1 encInt1 A' t from fun X hX=>⟨hA.below hX,hA'.below hX⟩);have Hn:=hI hn;have Hn':=hI hn';obtain⟨cv,hcv⟩:∃x,compV s t=x:=⟨_,rfl⟩
 have Hcv:=hI (show compV (s.drop 0) (t.drop 0)=cv from hcv);rw[hcv];clear hA hA' hn hn' hcv;go_enter Tryz.func127,Tryz.ntmps127;go_wp2;go_loopw [11] (fun v11 wr=>∃i:Nat,i<=n/\i<=n'/\v11= .int .i64 i/\Hid (compV (s.drop i) (t.drop i)=cv)/\Hid (Bl w wr)) (fun v11 _=>n-(intOf v11).toNat);case atStart=>exact⟨0,by omega,by omega,rfl,Hcv,hI (Below.refl _ _)⟩
 case round=>
  obtain⟨i,hi,hi',rfl,HL,Hb⟩:=hrel;have hsr:=Hb.o.size
  by_cases h1:i<n
  rotate_left
  ·have HE:=hI (show cv=if n<n' then -1 else 0 by rw[<- HL.o,comp_end (by have:=Hn.o;omega) (by have:=Hn'.o;omega),Hn.o,Hn'.o])
   by_cases h2:n<n'
   ·have HE2:=hI (HE.o.trans (if_pos h2));go_wp2;go_ret;exact⟨ret_int HE2.o.symm,Hb.o⟩
   ·have HE2:=hI (HE.o.trans (if_neg h2));go_wp2;go_ret;exact⟨ret_int HE2.o.symm,Hb.o⟩
  obtain⟨b,o,hbe,hb,x0⟩:=sl_at (HA.o wr Hb.o).1 (i:=i) (by have:=Hn.o;omega)
  by_cases h2:i<n'
  rotate_left
  ·have HE:=hI (show cv=1 by rw[<- HL.o,comp_over (by have:=Hn.o;omega) (by have:=Hn'.o;omega)]);generalize s.getD i 0=x at x0;subst hbe;go_wp2;go_ret;exact⟨ret_int HE.o.symm,Hb.o⟩
  obtain⟨b',o',hbe',hb',y0⟩:=sl_at (HA.o wr Hb.o).2 (i:=i) (by have:=Hn'.o;omega)
  have HLs:=hI (show compV (s.drop i) (t.drop i)=if s.getD i 0=t.getD i 0 then compV (s.drop (i+1)) (t.drop (i+1)) else cmpV (s.getD i 0) (t.getD i 0) by
   rw[drop_at (by have:=Hn.o;omega),drop_at (l:=t) (by have:=Hn'.o;omega)];simp only[compV]
   split
   ·rfl
   ·rename_i h9
    unfold cmpV;rw[if_neg h9])
  rw[HL.o] at HLs;generalize s.getD i 0=x at x0 HLs;generalize t.getD i 0=y at y0 HLs;subst hbe hbe';obtain⟨kv,hkv⟩:∃z,cmpV x y=z:=⟨_,rfl⟩
  have Hkv:=hI hkv;clear hkv
  by_cases hxy:x=y
  ·have hk0:(kv != 0)=false:=by rw[<- Hkv.o];unfold cmpV;rw[if_pos hxy];rfl
   have HV:=hI (show compV (s.drop (i+1)) (t.drop (i+1))=cv by rw[HLs.o,if_pos hxy]);clear hxy;go_wp2_with (go_at_call 126;refine(cmpI_any _ _ _).mono ?_;rintro e w' ⟨rfl,rfl⟩;go_loud (rw[Hkv.o]));go_roundw;case rel=>exact⟨i+1,by omega,by omega,by go_num,HV,Hb⟩
   case measure=>simp[intOf];omega
  ·have HE:=hI (show cv=kv by rw[HLs.o,if_neg hxy,Hkv.o])
   have hk0:(kv != 0)=true:=by
    rw[<- Hkv.o];unfold cmpV;rw[if_neg hxy]
    split<;>rfl
   clear hxy;go_wp2_with (go_at_call 126;refine(cmpI_any _ _ _).mono ?_;rintro e w' ⟨rfl,rfl⟩;go_loud (rw[Hkv.o]));go_ret;exact⟨ret_int HE.o.symm,Hb.o⟩
end Go.Proofs.YtjpgnfekbojcaaaGreat
namespace W8
open W7
theorem or_less (n n0:Int) (s s0:List Int):((if Go.Proofs.YtjpgnfekbojcaaaGreat.cmpV n n0=0 then compV s s0 else Go.Proofs.YtjpgnfekbojcaaaGreat.cmpV n n0)<0)↔(n<n0\/(n=n0/\lessL s s0=true)):=by
 unfold Go.Proofs.YtjpgnfekbojcaaaGreat.cmpV
 by_cases h:n=n0
 ·rw[if_pos h,if_pos rfl,comp_less]
  constructor
  ·exact fun h1=> .inr ⟨h,h1⟩
  ·rintro(h1 | ⟨_,h1⟩)
   ·omega
   ·exact h1
 ·rw[if_neg h]
  by_cases h2:n<n0
  ·rw[if_pos h2,if_neg (by decide)];exact⟨fun _=> .inl h2,fun _=>by decide⟩
  ·rw[if_neg h2,if_neg (by decide)]
   constructor
   ·intro h3;exact absurd h3 (by decide)
   ·rintro(h1 | ⟨h1,_⟩)
    ·exact absurd h1 h2
    ·exact absurd h1 h
theorem pick_some (s:List Int) (n:Int) (l:List Int) (m:Int):pickV s n (some (l,m))=if n<m\/(n=m/\lessL s l=true) then some (s,n) else some (l,m):=rfl
end W8
namespace Go.Proofs.YtjpgnfekbojcaaaGreat
open Go.RowKit W7 W8
attribute [local go_sem] Oper.semAt_some
theorem sl_of_blk {X:World} {b T B:Nat} {l:List Int} (h:X.heap[b]? =some (.cells (l.map (Value.int .i64)).toArray T (0,0))) (hB:b<B):Sl X B 1 encInt1 (some ⟨b,0,none⟩) l:=fun _=>⟨b,0,rfl,hB,fun i hi k u hu=>by
 obtain rfl:k=0:=by
  have:=(List.getElem?_eq_some_iff.1 hu).1;rw[lenI] at this;omega
 have hu':u= .int .i64 l[i]:=(Option.some.inj hu).symm;rw[hu',show 0+i*1+0=i by omega];exact W7.bc h (by simp[hi])⟩
theorem KeptS.set {X:World} {S:Nat->Prop} {b:Nat} (hb:S b) (k:Nat) (v:Value):KeptS X (X.setCell ⟨b,k,none⟩ v) S:=⟨rfl,rfl,rfl,by simp[World.setCell],fun i _ hn=>Below.heap_setCell _ _ _ _ (fun e=>hn (by rw[e];exact hb))⟩
structure BxD (q ab mb fb:Nat):Prop where
 a:q<ab
 m:ab<mb
 f:mb<fb
def bxS (ab mb fb:Nat) (i:Nat):Prop:=i=ab\/i=mb\/i=fb
structure BestIn (X:World) (q ab mb fb:Nat) (F:BFd) (A:Option Addr) (l:List Int) (m:Int):Prop where
 fnd:X.heap[fb]? =some (.cells #[.bool F.isSome] 4 (0,0))
 mins:X.heap[mb]? =some (.cells #[.int .i64 m] 3 (0,0))
 sts:X.heap[ab]? =some (.cells #[.slice A l.length l.length] 26 (0,0))
 row:∀p,F=some p->p=(l,m)/\∃sb,A=some ⟨sb,0,none⟩/\q<sb/\ ¬bxS ab mb fb sb/\X.heap[sb]? =some (.cells (l.map (Value.int .i64)).toArray 3 (0,0))
 non:F=none->A=none/\l=[]/\m=0
 len:l.length<=64
def BestEx (X:World) (q ab mb fb:Nat) (F:BFd):Prop:=∃A l m,BestIn X q ab mb fb F A l m
theorem BestIn.below {X Y:World} {q ab mb fb:Nat} {F:BFd} {A:Option Addr} {l:List Int} {m:Int} (h:BestIn X q ab mb fb F A l m) (hb:Bl X Y):BestIn Y q ab mb fb F A l m:=
 ⟨(hb.block _ (blk_lt h.fnd)).trans h.fnd,(hb.block _ (blk_lt h.mins)).trans h.mins,(hb.block _ (blk_lt h.sts)).trans h.sts,fun p hp=>by
  obtain⟨h1,sb,h2,h3,h4,h5⟩:=h.row p hp;exact⟨h1,sb,h2,h3,h4,(hb.block _ (blk_lt h5)).trans h5⟩,h.non,h.len⟩
theorem BestIn.sl {X:World} {q ab mb fb:Nat} {F:BFd} {A:Option Addr} {l:List Int} {m:Int} (h:BestIn X q ab mb fb F A l m):Sl X X.heap.size 1 encInt1 A l:=by
 cases F with
 | none=>rw[(h.non rfl).2.1];intro h0;exact absurd h0 (by decide)
 | some p=>
  obtain⟨_,sb,h2,_,_,h5⟩:=h.row p rfl;rw[h2];exact sl_of_blk h5 (blk_lt h5)
def put3b (X:World) (ab mb fb:Nat) (x y z:Value):World:=((X.setCell ⟨ab,0,none⟩ x).setCell ⟨mb,0,none⟩ y).setCell ⟨fb,0,none⟩ z
theorem put3b_ne {X:World} {ab mb fb i:Nat} (h: ¬bxS ab mb fb i) (x y z:Value):(put3b X ab mb fb x y z).heap[i]? =X.heap[i]? :=by
 unfold put3b;rw[blk_set_ne (fun e=>h (.inr (.inr e.symm))),blk_set_ne (fun e=>h (.inr (.inl e.symm))),blk_set_ne (fun e=>h (.inl e.symm))]
theorem BestIn.store {X:World} {q ab mb fb:Nat} {F:BFd} {A:Option Addr} {l:List Int} {m:Int} (h:BestIn X q ab mb fb F A l m) (D:BxD q ab mb fb) {sb n:Nat} {s:List Int} (nv:Int) (hsb:X.heap[sb]? =some (.cells (s.map (Value.int .i64)).toArray 3 (0,0))) (hn:s.length=n) (h64:n<=64) (h1:q<sb) (h2: ¬bxS ab mb fb sb) :
  BestIn (put3b X ab mb fb (.slice (some ⟨sb,0,none⟩) n n) (.int .i64 nv) (.bool true)) q ab mb fb (some (s,nv)) (some ⟨sb,0,none⟩) s nv:=by
 have d1:=D.m;have d2:=D.f;refine⟨?_,?_,?_,fun p hp=>⟨(Option.some.inj hp).symm,sb,rfl,h1,h2,(put3b_ne h2 _ _ _).trans hsb⟩,fun h=>(by cases h),by omega⟩
 ·unfold put3b;rw[blk_set (by rw[blk_set_ne (by omega),blk_set_ne (by omega)];exact h.fnd)]
  rfl
 ·unfold put3b;rw[blk_set_ne (by omega),blk_set (by rw[blk_set_ne (by omega)];exact h.mins)]
  rfl
 ·unfold put3b;rw[blk_set_ne (by omega),blk_set_ne (by omega),blk_set h.sts,hn]
  rfl
theorem put3b_kept (X:World) (ab mb fb:Nat) (x y z:Value):KeptS X (put3b X ab mb fb x y z) (bxS ab mb fb):=
 ((KeptS.set (.inl rfl) 0 x).trans (KeptS.set (.inr (.inl rfl)) 0 y)).trans (KeptS.set (.inr (.inr rfl)) 0 z)
structure JbIn (X:World) (q B:Nat) (j:Job):Prop where
 box:X.heap[q]? =some (.cells #[.slice j.TA j.tasks.length j.tc,.slice j.RA j.res.length j.rc] 25 (0,0))
 jin:JIn X B j
 le:B<=q
theorem JbIn.below {X Y:World} {q B:Nat} {j:Job} (h:JbIn X q B j) (hb:Bl X Y):JbIn Y q B j:=
 ⟨(hb.block _ (blk_lt h.box)).trans h.box,h.jin.below (hb.mono (by have:=blk_lt h.box;have:=h.le;omega)),h.le⟩
theorem JbIn.kept {X Y:World} {q B ab mb fb:Nat} {j:Job} (h:JbIn X q B j) (D:BxD q ab mb fb) (hk:KeptS X Y (bxS ab mb fb)):JbIn Y q B j:=by
 have d1:=D.a;have d2:=D.m;have d3:=D.f;have h1:=blk_lt h.box;have h2:=h.le;exact⟨(hk.block _ h1 (fun hs=>by rcases hs with hs | hs | hs<;>omega)).trans h.box,h.jin.below (hk.below (by omega) (fun i hi=>by rcases hi with hi | hi | hi<;>omega)),h2⟩
structure Bst1R (q ab mb fb:Nat) (F:BFd) (w:World) (e:Ending) (w':World):Prop where
 val:e= .returned (.tuple #[])
 ex:BestEx w' q ab mb fb F
 kept:KeptS w w' (bxS ab mb fb)
theorem Best1_any (j:Job) (B q ab mb fb:Nat) (D:BxD q ab mb fb) (hj0:jobErr j.p=0) (h:List Int) (H:HaveOk j.p 0 h) (F:BFd) (OA:Option Addr) (on oc:Nat) (w:World) (hJ:JbIn w q B j) (hh:StIn w w.heap.size OA on oc h) (hB:BestEx w q ab mb fb F) :
  Calls Tryz.prog 124 #[.slice OA on oc,.pointer (some ⟨q,0,none⟩),.pointer (some ⟨fb,0,none⟩),.pointer (some ⟨mb,0,none⟩),.pointer (some ⟨ab,0,none⟩)] w (Bst1R q ab mb fb (tryV j.p h F) w):=by
 have hG:=good_of hj0;obtain⟨A,l,m,hBI⟩:=hB;obtain⟨n,hN⟩:∃n,j.tasks.length=n:=⟨_,rfl⟩
 have hn64:n<=64:=by have:=hG.nt;rw[j.nt,hN] at this;exact this
 have hon:on=n:=by have h1:=H.len;have h2:=hh.len;rw[j.nt,hN] at h1;omega
 subst hon;have hperm:=H.isPerm;have HJ:=hI (show ∀X:World,Bl w X->JbIn X q B j from fun X hX=>hJ.below hX);have HBI:=hI (show ∀X:World,Bl w X->BestIn X q ab mb fb F A l m from fun X hX=>hBI.below hX);have HO:=hI (show ∀X:World,Bl w X->Sl X X.heap.size 1 encInt1 OA h from fun X hX=>(hh.sl.below hX).mono hX.size);have HOp:=hI (opened_any j w (by rw[hN];exact hn64));obtain⟨TA,hTA⟩:∃x,j.TA=x:=⟨_,rfl⟩
 have hjv:jobV j= .agg #[.slice TA on j.tc,.slice j.RA j.res.length j.rc]:=by unfold jobV;rw[hN,hTA]
 have Hjv:=hI hjv;rw[hjv] at HOp;have HG:=hI hG;have hlo:=hh.len;have hole:=hh.le;have hocc:=hh.cap;have Hlo:=hI hlo;have HBs:=hI (serialGo_times hG (perm_mem hperm) h.length (bd0 j.p) (bd0_ok j.p));have HPm:=hI (show ∀x∈h,0<=x/\x<j.tasks.length from fun x hx=>by have h1:=perm_mem hperm x hx;rwa [j.nt] at h1);have Hn:=hI hN;have HTV:=hI (show tryV j.p h F=if (serialGo j.p 0 h on (bd0 j.p)).1 then pickV (serialGo j.p 0 h on (bd0 j.p)).2.st (lenOf j.p (serialGo j.p 0 h on (bd0 j.p)).2.st) F else F by unfold tryV;rw[<- hlo]);have HSt:=hI (show(serialGo j.p 0 h on (bd0 j.p)).2.st.length=on by rw[(serialGo_st j.p 0 h on (bd0 j.p)).1];simp[bd0,j.nt,hN]);obtain⟨TV,hTV⟩:∃x,tryV j.p h F=x:=⟨_,rfl⟩
 rw[hTV] at HTV ⊢;have HD:=hI D;have hqw:=blk_lt hJ.box;have hBq:=hJ.le;have hfw:=blk_lt hBI.fnd;have hmw:=blk_lt hBI.mins;have haw:=blk_lt hBI.sts;have d1:=D.a;have d2:=D.m;have d3:=D.f;have hxj:=hJ.box;rw[hN,hTA] at hxj;have HXj:=hI (show ∀X:World,Bl w X->X.heap[q]? =some (.cells #[.slice TA on j.tc,.slice j.RA j.res.length j.rc] 25 (0,0)) from fun X hX=>(hX.block _ hqw).trans hxj);have HKeep:=hI (fun(X:World) (hX:Bl w X) (he:TV=F)=>show Bst1R q ab mb fb TV w (.returned (.tuple #[])) X from⟨rfl,by rw[he];exact⟨A,l,m,HBI.o X hX⟩,KeptS.of_below hX⟩);have q0:=W7.bc (j:=0) (HXj.o w (Below.refl _ _)) rfl;have q1:=W7.bc (j:=1) (HXj.o w (Below.refl _ _)) rfl;clear hJ hh hBI hjv hTA hG hperm H hTV hj0 D hN hxj hlo;go_enter Tryz.func124,Tryz.ntmps124
 go_upto_region 1 with(go_at_call 64;refine HOp.o.mono ?_;rintro e w1 ⟨⟨g,sb,pb,rfl,hbd,hg0,hs0,hp0⟩,hb1⟩;have hs1:=hb1.size;have Hb1:=hI hb1;have Hbd:=hI hbd;clear hb1 hbd)
 clear q0 q1 HOp;have HSr:=hI (serial_any j 0 h g sb pb B on oc OA (bd0 j.p) w1 Hlo.o hn64 hole hocc Hbd.o (HJ.o w1 Hb1.o).jin (by omega) (by omega) (openR_ne Hbd.o) HG.o (bd0_ok j.p) (by omega) HPm.o (fun X hX=>HO.o X (Hb1.o.trans (hX.below (by omega) (by omega) (by omega)))));rw[<- Hlo.o] at HBs;obtain⟨SG,hSG⟩:∃x,serialGo j.p 0 h on (bd0 j.p)=x:=⟨_,rfl⟩
 rw[hSG] at HSr HTV HSt HBs;clear hSG;cases hsg:SG.1
 ·have hTF:=HTV.o;rw[hsg] at HSr hTF;have HTF:=hI (show TV=F from hTF);clear hTF;go_wp2_with (go_at_call 65;refine HSr.o.mono ?_;rintro e w2 ⟨rfl,hk2,hb2⟩;have HB2:=hI (Hb1.o.trans (hk2.below (B:=w.heap.size) hs0 hp0 hs1));clear hk2 hb2);go_end0;exact HKeep.o _ HB2.o HTF.o
 have hTF:=HTV.o;rw[hsg] at HSr hTF;have HTF:=hI (show TV=pickV SG.2.st (lenOf j.p SG.2.st) F from hTF);clear hTF HTV;go_upto_region 2 with(go_at_call 65;refine HSr.o.mono ?_;rintro e w2 ⟨rfl,hk2,hb2⟩;have HB2:=hI (Hb1.o.trans (hk2.below (B:=w.heap.size) hs0 hp0 hs1));have hs2:=hk2.size;have Hb2:=hI hb2;clear hk2 hb2)
 have HG2:=hI (show ∀X:World,Bl w2 X->X.heap[g]? =some (.cells #[.slice TA on j.tc,.slice j.RA j.res.length j.rc,.slice (some ⟨sb,0,none⟩) on on,.slice (some ⟨pb,0,none⟩) on on,.int .i64 0] 115 (0,0))/\X.heap[sb]? =some (.cells (SG.2.st.map (Value.int .i64)).toArray 3 (0,0)) from fun X hX=>by
  have h9:=Hb2.o.below hX;have h8:=h9.hg;have h7:=Hjv.o;unfold jobV at h7;simp only[Value.agg.injEq,List.cons.injEq,Array.mk.injEq,Value.slice.injEq] at h7;rw[Hn.o,h7.1.1] at h8;exact⟨h8,h9.hs⟩)
 obtain⟨lv,hlv⟩:∃x,lenOf j.p SG.2.st=x:=⟨_,rfl⟩
 have HLn:=hI (fun(e:Later w2)=>show Calls Tryz.prog 102 #[.agg #[.slice TA on j.tc,.slice j.RA j.res.length j.rc],.slice (some ⟨sb,0,none⟩) on on] e.w fun r w'=>r= .returned (.int .i64 lv)/\Below e.w.heap.size e.w w' from by
  have h9:=length_any j SG.2.st (some ⟨sb,0,none⟩) on e.w.heap.size e.w (((HJ.o e.w (HB2.o.trans (e.b.mono (by omega)))).jin.mono (by have:=e.b.size;omega))) (Nat.le_refl _) HG.o (by rw[HSt.o,Hn.o]) HBs.o (sl_of_blk (HG2.o e.w e.b).2 (blk_lt (HG2.o e.w e.b).2));rw[Hjv.o,Hn.o,hlv] at h9;exact h9)
 rw[hlv] at HTF;clear hlv HSr Hbd;have hg2:=(HG2.o w2 (Below.refl _ _)).1;have hj2:=HXj.o w2 HB2.o;have z0:=later_cell (W7.bc (j:=0) hj2 rfl) (by omega);have z1:=later_cell (W7.bc (j:=1) hj2 rfl) (by omega);have z2:=later_cell (W7.bc (j:=2) hg2 rfl) (by have:=blk_lt hg2;omega);have hsbne: ¬bxS ab mb fb sb:=fun hs=>by rcases hs with hs | hs | hs<;>omega
 clear hg2 hj2;refine wp_region_later (by kernel_rfl) (by kernel_rfl) ?_
 repeat (any_goals (first | go_big_quiet_step ((go_at_call 102;exact later_call _ (HLn.o _))) | quiet_step ((go_at_call 102;exact later_call _ (HLn.o _)))))
 refine wpQuiet_nil ?_;rintro w' ⟨e3,rfl⟩;have HB3:=hI (HB2.o.trans (e3.b.mono (by omega)));have HG3:=hI (show ∀X:World,Below e3.w.heap.size e3.w X->X.heap[g]? =some (.cells #[.slice TA on j.tc,.slice j.RA j.res.length j.rc,.slice (some ⟨sb,0,none⟩) on on,.slice (some ⟨pb,0,none⟩) on on,.int .i64 0] 115 (0,0))/\X.heap[sb]? =some (.cells (SG.2.st.map (Value.int .i64)).toArray 3 (0,0)) from fun X hX=>HG2.o X (e3.b.trans (hX.mono e3.b.size)));have hs3:=e3.b.size;clear z0 z1 z2 HLn HG2;generalize e3.w=w3 at HB3 HG3 hs3
 have HStore:=hI (fun(X:World) (hX:Bl w3 X) (he:TV=some (SG.2.st,lv))=>show Bst1R q ab mb fb TV w (.returned (.tuple #[])) (put3b X ab mb fb (.slice (some ⟨sb,0,none⟩) on on) (.int .i64 lv) (.bool true)) from⟨rfl,by rw[he];exact⟨_,_,_,(HBI.o X (HB3.o.trans (hX.mono (by omega)))).store HD.o lv (HG3.o X hX).2 HSt.o hn64 (by omega) hsbne⟩,(KeptS.of_below (HB3.o.trans (hX.mono (by omega)))).trans (put3b_kept _ _ _ _ _ _ _)⟩);have hna:ab≠mb:=by omega
 have hnb:ab≠fb:=by omega
 have hnc:mb≠fb:=by omega
 cases F with
 | none=>
  have HTN:=hI (show TV=some (SG.2.st,lv) from HTF.o);have hx3:=HBI.o w3 HB3.o;have z0:=later_cell (W7.bc (j:=0) hx3.fnd rfl) (by omega);clear hx3;go_upto_region 3 with fail;refine wp_region_later (by kernel_rfl) (by kernel_rfl) ?_
  repeat (any_goals (first | go_big_quiet_step ((fail)) | quiet_step ((fail))))
  refine wpQuiet_nil ?_;rintro w' ⟨e4,rfl⟩;have HB4:=hI e4.b;have hs4:=e4.b.size;clear z0;generalize e4.w=w4 at HB4 hs4;have HR:=hI (HStore.o w4 HB4.o HTN.o);have HB04:=hI (HB3.o.trans (HB4.o.mono (by omega)));unfold put3b at HR;have hx4:=HBI.o w4 HB04.o;have hg4:=(HG3.o w4 HB4.o).1;have q0:=W7.bc (j:=0) hx4.fnd rfl;have u0:=W7.bc (j:=0) hx4.mins rfl;have v0:=W7.bc (j:=0) hx4.sts rfl;have x0:=W7.bf (j:=0) hx4.fnd;have y0:=W7.bf (j:=0) hx4.mins;have z0:=W7.bf (j:=0) hx4.sts;have p2:=W7.bc (j:=2) hg4 rfl;clear hx4 hg4;go_wp2;go_end0;exact HR.o
 | some p=>
  have hp:p=(l,m):=((HBI.o w3 HB3.o).row p rfl).1;subst hp;obtain⟨ln,hln⟩:∃x,l.length=x:=⟨_,rfl⟩
  have Hln:=hI hln;have h64l:ln<=64:=by have:=(HBI.o w3 HB3.o).len;omega
  have HX3:=hI (show ∀X:World,Bl w3 X->X.heap[fb]? =some (.cells #[.bool true] 4 (0,0))/\X.heap[mb]? =some (.cells #[.int .i64 m] 3 (0,0))/\X.heap[ab]? =some (.cells #[.slice A ln ln] 26 (0,0))/\X.heap[g]? =some (.cells #[.slice TA on j.tc,.slice j.RA j.res.length j.rc,.slice (some ⟨sb,0,none⟩) on on,.slice (some ⟨pb,0,none⟩) on on,.int .i64 0] 115 (0,0)) from fun X hX=>by
   have h9:=HBI.o X (HB3.o.trans (hX.mono (by omega)));exact⟨h9.fnd,h9.mins,by rw[<- Hln.o];exact h9.sts,(HG3.o X hX).1⟩)
  obtain⟨kv,hkv⟩:∃x,cmpV lv m=x:=⟨_,rfl⟩
  obtain⟨cv,hcv⟩:∃x,compV SG.2.st l=x:=⟨_,rfl⟩
  obtain⟨ov,hov⟩:∃x,(if kv=0 then cv else kv)=x:=⟨_,rfl⟩
  obtain⟨lt,hlt⟩:∃x,decide (ov<0)=x:=⟨_,rfl⟩
  have HCm:=hI (fun(X:World) (hX:Bl w3 X)=>show Calls Tryz.prog 127 #[.slice (some ⟨sb,0,none⟩) on on,.slice A ln ln] X fun e w'=>e= .returned (.int .i64 cv)/\Bl X w' from by
   rw[<- hcv];exact compare_any SG.2.st l (some ⟨sb,0,none⟩) A on on ln ln X HSt.o Hln.o (sl_of_blk (HG3.o X hX).2 (blk_lt (HG3.o X hX).2)) (HBI.o X (HB3.o.trans (hX.mono (by omega)))).sl (by omega) (by omega))
  have HTS:=hI (show TV=if lt=true then some (SG.2.st,lv) else some (l,m) by
   rw[HTF.o,pick_some,<-hlt];have hiff:=or_less lv m SG.2.st l;rw[hkv,hcv,hov] at hiff
   by_cases hc:lv<m\/(lv=m/\lessL SG.2.st l=true)
   ·rw[if_pos hc,if_pos (decide_eq_true (hiff.2 hc))]
   ·rw[if_neg hc,if_neg (fun hd=>hc (hiff.1 (of_decide_eq_true hd)))])
  have Hkv:=hI hkv;have Hov:=hI hov;have Hlt:=hI hlt;clear hkv hov hcv hlt hln;go_upto_region 3 with fail
  obtain⟨C,hC⟩:∃C:(Nat->Bool)->(Nat->Value)->World->Prop,C=fun L V w'=>∃(e:Later w3),w'=e.w/\(L 0=true->V 0= .bool true)/\(L 1=true->V 1= .bool false)/\(L 2=true->V 2= .bool false)/\(L 3=true->V 3= .int .i64 lv)/\(L 4=true->V 4= .int .i64 m)/\(L 5=true->V 5= .int .i64 kv)/\(L 6=true->V 6= .pointer (some ⟨g,0,none⟩))/\(L 7=true->V 7= .pointer (some ⟨g,0,none⟩))/\(L 8=true->V 8= .pointer (some ⟨g,2,none⟩))/\(L 9=true->V 9= .slice (some ⟨sb,0,none⟩) on on)/\(L 10=true->V 10= .slice A ln ln)/\(L 11=true->V 11= .int .i64 cv)/\(L 12=true->Hid (∃gb,V 12= .slice (some ⟨gb,0,none⟩) 2 2/\e.w.heap[gb]? =some (.cells #[.int .i64 kv,.int .i64 cv] 3 (0,0))))/\(L 13=true->V 13= .int .i64 ov)/\(L 14=true->V 14= .bool lt)/\(L 15=true->V 15= .bool lt):=⟨_,rfl⟩
  have HC:=hI hC;clear hC;refine wp_region_opsA [20,21,22,23,24,25,26,27,28,29,30,31,32,33,34,35] C (by kernel_rfl) (by kernel_rfl) (by decide) (by kernel_rfl) (by kernel_rfl) ?_ ?_ ?_
  ·rw[HC.o];exact⟨⟨w3.drew,(Below.refl _ _).drew⟩,rfl,nff,nff,nff,nff,nff,nff,nff,nff,nff,nff,nff,nff,nff,nff,nff,nff⟩
  ·rintro L V w' ii o AA hii ho hLi haf hInv hAA hFF;rw[HC.o] at hInv;obtain⟨e,rfl,h0,h1,h2,h3,h4,h5,h6,h7,h8,h9,h10,h11,h12,h13,h14,h15⟩:=hInv;rcases ii with _ | _ | _ | _ | _ | _ | _ | _ | _ | _ | _ | _ | _ | _ | _ | _ | ii;case succ.succ.succ.succ.succ.succ.succ.succ.succ.succ.succ.succ.succ.succ.succ.succ=>(simp at hii;try omega)
   all_goals (simp only[List.getElem?_cons_zero,List.getElem?_cons_succ,Option.some.injEq] at ho;subst ho)
   all_goals clear hii
   ·have f2:AA.tmps[2]?.getD undef= .pointer (some ⟨fb,0,none⟩):=hFF.out 2 (by decide);have q0:=W7.bc (j:=0) (HX3.o e.w e.b).1 rfl;go_wp2;rw[HC.o];exact⟨_,rfl,e,rfl,fun _=>rfl,h1,h2,h3,h4,h5,h6,h7,h8,h9,h10,h11,h12,h13,h14,h15⟩
   ·have a0:=(hAA.out 0 20 rfl).trans (h0 (haf ⟨0,.data⟩ (by simp) rfl));go_wp2;rw[HC.o];exact⟨_,rfl,e,rfl,h0,fun _=>rfl,h2,h3,h4,h5,h6,h7,h8,h9,h10,h11,h12,h13,h14,h15⟩
   ·have a1:=(hAA.out 1 21 rfl).trans (h1 (haf ⟨1,.data⟩ (by simp) rfl));go_wp2;rw[HC.o];exact⟨_,rfl,e,rfl,h0,h1,fun _=>rfl,h3,h4,h5,h6,h7,h8,h9,h10,h11,h12,h13,h14,h15⟩
   ·have b2:=get_some ((hAA.out 2 22 rfl).trans (h2 (haf ⟨2,.guard⟩ (by simp) rfl)));have f7:AA.tmps[7]?.getD undef= .int .i64 lv:=hFF.out 7 (by decide);go_wp2;rw[HC.o];exact⟨_,rfl,e,rfl,h0,h1,h2,fun _=>rfl,h4,h5,h6,h7,h8,h9,h10,h11,h12,h13,h14,h15⟩
   ·have b2:=get_some ((hAA.out 2 22 rfl).trans (h2 (haf ⟨2,.guard⟩ (by simp) rfl)));have f3:AA.tmps[3]?.getD undef= .pointer (some ⟨mb,0,none⟩):=hFF.out 3 (by decide);have q0:=W7.bc (j:=0) (HX3.o e.w e.b).2.1 rfl;go_wp2;rw[HC.o];exact⟨_,rfl,e,rfl,h0,h1,h2,h3,fun _=>rfl,h5,h6,h7,h8,h9,h10,h11,h12,h13,h14,h15⟩
   ·have a3:=(hAA.out 3 23 rfl).trans (h3 (haf ⟨3,.data⟩ (by simp) rfl));have a4:=(hAA.out 4 24 rfl).trans (h4 (haf ⟨4,.data⟩ (by simp) rfl));have b2:=get_some ((hAA.out 2 22 rfl).trans (h2 (haf ⟨2,.guard⟩ (by simp) rfl)));go_wp2_with (go_at_call 126;refine(cmpI_any _ _ _).mono ?_;rintro r w5 ⟨rfl,rfl⟩;go_loud (rw[Hkv.o]));rw[HC.o];exact⟨_,rfl,e,rfl,h0,h1,h2,h3,h4,fun _=>rfl,h6,h7,h8,h9,h10,h11,h12,h13,h14,h15⟩
   ·have b2:=get_some ((hAA.out 2 22 rfl).trans (h2 (haf ⟨2,.guard⟩ (by simp) rfl)));have f6:AA.tmps[6]?.getD undef= .pointer (some ⟨g,0,none⟩):=hFF.out 6 (by decide);go_wp2;rw[HC.o];exact⟨_,rfl,e,rfl,h0,h1,h2,h3,h4,h5,fun _=>rfl,h7,h8,h9,h10,h11,h12,h13,h14,h15⟩
   ·have a6:=(hAA.out 6 26 rfl).trans (h6 (haf ⟨6,.data⟩ (by simp) rfl));have b2:=get_some ((hAA.out 2 22 rfl).trans (h2 (haf ⟨2,.guard⟩ (by simp) rfl)));go_wp2;rw[HC.o];exact⟨_,rfl,e,rfl,h0,h1,h2,h3,h4,h5,h6,fun _=>rfl,h8,h9,h10,h11,h12,h13,h14,h15⟩
   ·have a7:=(hAA.out 7 27 rfl).trans (h7 (haf ⟨7,.data⟩ (by simp) rfl));have b2:=get_some ((hAA.out 2 22 rfl).trans (h2 (haf ⟨2,.guard⟩ (by simp) rfl)));go_wp2;rw[HC.o];exact⟨_,rfl,e,rfl,h0,h1,h2,h3,h4,h5,h6,h7,fun _=>rfl,h9,h10,h11,h12,h13,h14,h15⟩
   ·have a8:=(hAA.out 8 28 rfl).trans (h8 (haf ⟨8,.data⟩ (by simp) rfl));have b2:=get_some ((hAA.out 2 22 rfl).trans (h2 (haf ⟨2,.guard⟩ (by simp) rfl)));have q2:=W7.bc (j:=2) (HX3.o e.w e.b).2.2.2 rfl;go_wp2;rw[HC.o];exact⟨_,rfl,e,rfl,h0,h1,h2,h3,h4,h5,h6,h7,h8,fun _=>rfl,h10,h11,h12,h13,h14,h15⟩
   ·have b2:=get_some ((hAA.out 2 22 rfl).trans (h2 (haf ⟨2,.guard⟩ (by simp) rfl)));have f4:AA.tmps[4]?.getD undef= .pointer (some ⟨ab,0,none⟩):=hFF.out 4 (by decide);have q0:=W7.bc (j:=0) (HX3.o e.w e.b).2.2.1 rfl;go_wp2;rw[HC.o];exact⟨_,rfl,e,rfl,h0,h1,h2,h3,h4,h5,h6,h7,h8,h9,fun _=>rfl,h11,h12,h13,h14,h15⟩
   ·have a9:=(hAA.out 9 29 rfl).trans (h9 (haf ⟨9,.data⟩ (by simp) rfl));have a10:=(hAA.out 10 30 rfl).trans (h10 (haf ⟨10,.data⟩ (by simp) rfl));have b2:=get_some ((hAA.out 2 22 rfl).trans (h2 (haf ⟨2,.guard⟩ (by simp) rfl)));have HC9:=hI (HCm.o e.w e.b);have hse:=e.b.size;go_wp2_with (go_at_call 127;refine HC9.o.mono ?_;rintro r w5 ⟨rfl,hb5⟩;have Hb5:=hI hb5;clear hb5);rw[HC.o];exact⟨_,rfl,⟨w5,e.b.trans (Hb5.o.mono hse)⟩,rfl,h0,h1,h2,h3,h4,h5,h6,h7,h8,h9,h10,fun _=>rfl,fun y=>(by obtain⟨gb,u1,u2⟩:=(h12 y).out;exact hI ⟨gb,u1,(Hb5.o.block _ (blk_lt u2)).trans u2⟩),h13,h14,h15⟩
   ·have a5:=(hAA.out 5 25 rfl).trans (h5 (haf ⟨5,.data⟩ (by simp) rfl));have a11:=(hAA.out 11 31 rfl).trans (h11 (haf ⟨11,.data⟩ (by simp) rfl));have b2:=get_some ((hAA.out 2 22 rfl).trans (h2 (haf ⟨2,.guard⟩ (by simp) rfl)));have hse:=e.b.size;go_wp2;rw[HC.o];exact⟨_,rfl,⟨_,e.b.alloc hse (.cells (#[.int .i64 kv,.int .i64 cv]:Array Value) 3)⟩,rfl,h0,h1,h2,h3,h4,h5,h6,h7,h8,h9,h10,h11,fun _=>hI ⟨_,rfl,heap_alloc_new _ _⟩,h13,h14,h15⟩
   ·have b2:=get_some ((hAA.out 2 22 rfl).trans (h2 (haf ⟨2,.guard⟩ (by simp) rfl)));obtain⟨gb,hgb,hnb⟩:=(h12 (haf ⟨12,.data⟩ (by simp) rfl)).out;have a12:=(hAA.out 12 32 rfl).trans hgb;have HO9:=hI (cmpOr_any kv cv gb 2 e.w (W7.bc (j:=0) hnb rfl) (W7.bc (j:=1) hnb rfl));clear hgb hnb;go_wp2_with (go_at_call 125;refine HO9.o.mono ?_;rintro r w5 ⟨rfl,rfl⟩;go_loud (rw[Hov.o]));rw[HC.o];exact⟨_,rfl,e,rfl,h0,h1,h2,h3,h4,h5,h6,h7,h8,h9,h10,h11,h12,fun _=>rfl,h14,h15⟩
   ·have a13:=(hAA.out 13 33 rfl).trans (h13 (haf ⟨13,.data⟩ (by simp) rfl));have b2:=get_some ((hAA.out 2 22 rfl).trans (h2 (haf ⟨2,.guard⟩ (by simp) rfl)));go_wp2;rw[HC.o];exact⟨_,rfl,e,rfl,h0,h1,h2,h3,h4,h5,h6,h7,h8,h9,h10,h11,h12,h13,fun _=>congrArg Value.bool Hlt.o,h15⟩
   ·have a2:=(hAA.out 2 22 rfl).trans (h2 (haf ⟨2,.data⟩ (by simp) rfl));have a14:=(hAA.out 14 34 rfl).trans (h14 (haf ⟨14,.data⟩ (by simp) rfl));go_wp2;rw[HC.o];exact⟨_,rfl,e,rfl,h0,h1,h2,h3,h4,h5,h6,h7,h8,h9,h10,h11,h12,h13,h14,fun _=>rfl⟩
  rintro L V w' hL hInv;rw[HC.o] at hInv;obtain⟨e,rfl,h0,h1,h2,h3,h4,h5,h6,h7,h8,h9,h10,h11,h12,h13,h14,h15⟩:=hInv;have k0:=h0 (hL 0 (by simp));have k1:=h1 (hL 1 (by simp));have k2:=h2 (hL 2 (by simp));have k3:=h3 (hL 3 (by simp));have k4:=h4 (hL 4 (by simp));have k5:=h5 (hL 5 (by simp));have k6:=h6 (hL 6 (by simp));have k7:=h7 (hL 7 (by simp));have k8:=h8 (hL 8 (by simp));have k9:=h9 (hL 9 (by simp));have k10:=h10 (hL 10 (by simp));have k11:=h11 (hL 11 (by simp));have k12:=h12 (hL 12 (by simp));have k13:=h13 (hL 13 (by simp));have k14:=h14 (hL 14 (by simp));have k15:=h15 (hL 15 (by simp));clear h0 h1 h2 h3 h4 h5 h6 h7 h8 h9 h10 h11 h12 h13 h14 h15 hL HC;have HB4:=hI e.b;have hs4:=e.b.size;generalize e.w=w4 at HB4 hs4;clear k0 k1 k2 k3 k4 k5 k6 k7 k8 k9 k10 k11 k12 k13 k14;simp only[putAll];rw[k15];go_frame;clear k15;cases lt
  ·have HTK:=hI (show TV=some (l,m) from HTS.o);have HR:=hI (HKeep.o w4 (HB3.o.trans (HB4.o.mono (by omega))) HTK.o);go_wp2;go_end0;exact HR.o
  ·have HTN:=hI (show TV=some (SG.2.st,lv) from HTS.o);have HR:=hI (HStore.o w4 HB4.o HTN.o);have HB04:=hI (HB3.o.trans (HB4.o.mono (by omega)));unfold put3b at HR;have hx4:=HBI.o w4 HB04.o;have hg4:=(HG3.o w4 HB4.o).1;have q0:=W7.bc (j:=0) hx4.fnd rfl;have u0:=W7.bc (j:=0) hx4.mins rfl;have v0:=W7.bc (j:=0) hx4.sts rfl;have x0:=W7.bf (j:=0) hx4.fnd;have y0:=W7.bf (j:=0) hx4.mins;have z0:=W7.bf (j:=0) hx4.sts;have p2:=W7.bc (j:=2) hg4 rfl;clear hx4 hg4;go_wp2;go_end0;exact HR.o
structure HvIn (w:World) (S:Nat->Prop) (OA:Option Addr) (on oc:Nat) (h:List Int):Prop where
 len:on=h.length
 le:on<=oc
 cap:oc<=9223372036854775807
 nil:OA=none->on=0/\oc=0
 sl:∀X,KeptS w X S->Sl X X.heap.size 1 encInt1 OA h
theorem HvIn.kept {w X:World} {S:Nat->Prop} {OA:Option Addr} {on oc:Nat} {h:List Int} (H:HvIn w S OA on oc h) (hk:KeptS w X S):HvIn X S OA on oc h:=⟨H.len,H.le,H.cap,H.nil,fun Y hY=>H.sl Y (hk.trans hY)⟩
theorem own_keptS {w X:World} {base e n:Nat} {v:Value} {xs:List Value} {S:Nat->Prop} (h:w.ownsRow base e 1 v n xs) (hk:KeptS w X S) (hS:∀i,S i->i<base):X.ownsRow base e 1 v n xs:=
 ⟨h.1,h.2.imp id fun⟨g,cap,cur,h1,h2,h3,h4⟩=>⟨g,cap,cur,h1,h2,(hk.block g (blk_lt h3) (fun hs=>by have:=hS g hs;omega)).trans h3,h4⟩⟩
theorem set_same {w:World} {b T:Nat} {v:Value} (h:w.heap[b]? =some (.cells #[v] T (0,0))):w.setCell ⟨b,0,none⟩ v=w:=by
 have h3:(w.setCell ⟨b,0,none⟩ v).heap=w.heap:=by
  apply Array.ext_getElem?;intro i
  by_cases e:i=b
  ·subst e;rw[blk_set h,h]
   rfl
  ·rw[blk_set_ne (Ne.symm e)]
 have h4:w.setCell ⟨b,0,none⟩ v={ w with heap:=(w.setCell ⟨b,0,none⟩ v).heap }:=rfl;rw[h4,h3]
theorem bxS_lt {w:World} {q ab mb fb:Nat} {F:BFd} {A:Option Addr} {l:List Int} {m:Int} (h:BestIn w q ab mb fb F A l m) {B:Nat} (hB:w.heap.size<=B):∀i,bxS ab mb fb i->i<B:=fun i hi=>by
 have h1:=blk_lt h.fnd;have h2:=blk_lt h.mins;have h3:=blk_lt h.sts;rcases hi with hi | hi | hi<;>omega
theorem bestTo_0 (j:JobP) (f:Nat) (h:List Int) (F:BFd):bestTo j f h F 0=F:=rfl
theorem orders_any (j:Job) (B q ab mb fb n:Nat) (D:BxD q ab mb fb) (hj0:jobErr j.p=0) (hn:j.tasks.length=n):∀(f:Nat) (h:List Int) (_H:HaveOk j.p f h) (F:BFd) (OA:Option Addr) (on oc:Nat) (w:World) (_hJ:JbIn w q B j) (_hh:HvIn w (bxS ab mb fb) OA on oc h) (_hB:BestEx w q ab mb fb F),
  Calls Tryz.prog 123 #[.int .i64 (n:Int),.slice OA on oc,.func (.func 124) #[] #[.pointer (some ⟨q,0,none⟩),.pointer (some ⟨fb,0,none⟩),.pointer (some ⟨mb,0,none⟩),.pointer (some ⟨ab,0,none⟩)]] w (Bst1R q ab mb fb (bestGo j.p f h F) w):=by
 have hn64:n<=64:=by have:=(good_of hj0).nt;rw[j.nt,hn] at this;exact this
 intro f
 induction f with
 | zero=>
  intro h H F OA on oc w hJ hh hB;have hon:on=n:=by have h1:=H.len;have h2:=hh.len;rw[j.nt,hn] at h1;omega
  have hen:((on:Int)==(n:Int))=true:=by rw[hon];simp
  have HB1:=hI (Best1_any j B q ab mb fb D hj0 h H F OA on oc w hJ ⟨hh.len,by omega,hh.le,hh.cap,hh.sl w (KeptS.refl _ _)⟩ hB);have HE:=hI (show tryV j.p h F=bestGo j.p 0 h F from rfl);rw[HE.o] at HB1;have hle:=hh.le;have hcap:=hh.cap;clear hJ hh hB H hon;go_enter Tryz.func123,Tryz.ntmps123;go_wp2_with (go_at_call 124;refine HB1.o.mono ?_;rintro e w1 ⟨rfl,hex,hk⟩;have HR:=hI (And.intro hex hk);clear hex hk);go_end0;exact⟨rfl,HR.o.1,HR.o.2⟩
 | succ f ih=>
  intro h H F OA on oc w hJ hh hB;have hon:on<n:=by have h1:=H.len;have h2:=hh.len;rw[j.nt,hn] at h1;omega
  have hen:((on:Int)==(n:Int))=false:=by
   rw[beq_eq_false_iff_ne];omega
  have HJ:=hI (show ∀X,KeptS w X (bxS ab mb fb)->JbIn X q B j from fun X hX=>hJ.kept D hX);have HH:=hI hh;have HOk:=hI H;have HI:=hI ih;have hle:=hh.le;have hcap:=hh.cap;have HF0:=hI (show BestEx w q ab mb fb (bestTo j.p f h F 0) by rw[bestTo_0];exact hB);have HEnd:=hI (show bestGo j.p (f+1) h F=bestTo j.p f h F n by rw[bestGo_succ,j.nt,hn]);have Hn:=hI hn;obtain⟨GV,hGV⟩:∃x,bestGo j.p (f+1) h F=x:=⟨_,rfl⟩
  rw[hGV] at HEnd ⊢;have hww:w.heap.size=w.heap.size:=rfl;clear hJ hh hB H ih hGV hn hww;go_enter Tryz.func123,Tryz.ntmps123;go_wp2;go_loopw [15] (fun v15 wr=>∃i:Nat,i<=n/\v15= .int .i64 i/\Hid (BestEx wr q ab mb fb (bestTo j.p f h F i))/\Hid (KeptS w wr (bxS ab mb fb))) (fun v15 _=>n-(intOf v15).toNat);case atStart=>exact⟨0,by omega,rfl,HF0,hI (KeptS.refl _ _)⟩
  case round=>
   obtain⟨i,hi,rfl,HB,HK⟩:=hrel
   by_cases hlt:i<n
   rotate_left
   ·have HE:=hI (show GV=bestTo j.p f h F i by rw[HEnd.o,show n=i by omega]);go_wp2;go_end0;exact⟨rfl,by rw[HE.o];exact HB.o,HK.o⟩
   have hsr:=HK.o.size;have HCt:=hI (containsI_any h (i:Int) on HH.o.len OA oc wr.heap.size wr (HH.o.sl wr HK.o) (Nat.le_refl _) (by have:=HH.o.len;omega));have HSu:=hI (bestTo_succ j.p f h F i);obtain⟨cb,hcb⟩:∃x,h.any (fun y=>(i:Int)==y)=x:=⟨_,rfl⟩
   rw[hcb] at HCt;have HcC:=hI (show h.contains (i:Int)=cb by rw[List.contains_eq_any_beq,hcb]);clear hcb;cases cb;rotate_left
   ·have HS2:=hI (show bestTo j.p f h F (i+1)=bestTo j.p f h F i by rw[HSu.o];unfold stepB;rw[HcC.o];rfl);go_wp2_with (go_at_call 121;refine HCt.o.mono ?_;rintro e w1 ⟨rfl,hb1⟩;have Hb1:=hI hb1;clear hb1);go_roundw
    case rel=>exact⟨i+1,by omega,by go_num,by
     obtain⟨A9,l9,m9,h9⟩:=HB.o;rw[HS2.o];exact hI ⟨A9,l9,m9,h9.below Hb1.o⟩,hI (HK.o.trans (KeptS.of_below Hb1.o))⟩
    case measure=>simp[intOf];omega
   ·have HS2:=hI (show bestTo j.p f h F (i+1)=bestGo j.p f (h++[(i:Int)]) (bestTo j.p f h F i) by rw[HSu.o];unfold stepB;rw[HcC.o];rfl);have HOk2:=hI (HOk.o.snoc (i:=i) (by rw[j.nt,Hn.o];exact hlt) HcC.o);go_upto_region 6 with(go_at_call 121;refine HCt.o.mono ?_;rintro e w1 ⟨rfl,hb1⟩;have hs1:=hb1.size;have Hb1:=hI hb1;clear hb1)
    have HK1:=hI (HK.o.trans (KeptS.of_below (S:=bxS ab mb fb) Hb1.o))
    have HB1:=hI (show BestEx w1 q ab mb fb (bestTo j.p f h F i) by
     obtain⟨A9,l9,m9,h9⟩:=HB.o;exact⟨A9,l9,m9,h9.below Hb1.o⟩)
    have HSb:=hI (show ∀k,bxS ab mb fb k->k<w1.heap.size by
     obtain⟨A9,l9,m9,h9⟩:=HB1.o;exact bxS_lt h9 (Nat.le_refl _))
    have HCl:=hI (cloneI_any h OA on oc w1 HH.o.len (HH.o.sl w1 HK1.o) HH.o.nil (by omega));clear HCt HB HK
    go_wp2_with (first
     | (go_at_call 140;refine HCl.o.mono ?_;rintro e w2 ⟨v,rfl,ho2,hb2⟩;obtain⟨A2,c2,e2,q2,q3⟩:=own_cap' ho2;subst e2;have hs2:=hb2.size;have Ho2:=hI ho2;have Hb2:=hI hb2;clear ho2 hb2)
     | (at_builtin;refine wpList_append1 rfl _ _ 26 rfl w1.heap.size 3 _ 1 8 elemI _ _ _ rfl Ho2.o #[.int .i64 (i:Int)] 1 _ rfl (by simp) rfl (by simp[Value.oneCell']) (by omega) (by omega) ?_;intro v6 w6 hown6 hb6 hsz6 hg6 hblk6;obtain⟨A6,c6,e6,q6,q7⟩:=own_cap' hown6;subst e6;have Ho6:=hI hown6;have Hb6:=hI hb6;clear hown6 hb6 hsz6 hg6 hblk6)
     | (go_at_call 123;fail))
    have HB16:=hI (show Bl w1 w6 from Hb2.o.trans Hb6.o)
    have HNil:=hI (show A6=none->on+1=0/\c6=0 from fun hz=>by
     have h9:=Ho6.o.2;rw[hz] at h9;rcases h9 with⟨h9,h8⟩ | ⟨g9,cap9,cur9,h9,_⟩
     ·omega
     ·cases h9)
    have HSl6:=hI (show ∀X,KeptS w6 X (bxS ab mb fb)->Sl X X.heap.size 1 encInt1 A6 (h++[(i:Int)]) from fun X hX=>by
     have h9:=own_keptS Ho6.o hX HSb.o;have h8:=HH.o.len;refine sl_own2 (k:=1) (fun _=>rfl) (base:=w1.heap.size) (e:=3) (c:=c6) ?_;rw[flat_int] at h9;rw[flat_int,List.map_append,List.length_append,<-h8];exact h9)
    have HOr:=hI (HI.o (h++[(i:Int)]) HOk2.o (bestTo j.p f h F i) A6 (on+1) c6 w6 (HJ.o w6 (HK1.o.trans (KeptS.of_below HB16.o))) ⟨by rw[List.length_append,<-HH.o.len];rfl,q6,q7,HNil.o,HSl6.o⟩ (by
      obtain⟨A9,l9,m9,h9⟩:=HB1.o;exact⟨A9,l9,m9,h9.below HB16.o⟩))
    refine HOr.o.mono ?_;rintro e w7 ⟨rfl,hex,hk⟩;have Hex:=hI hex;have Hk7:=hI hk;clear hex hk;go_wp2;go_roundw;case rel=>exact⟨i+1,by omega,by go_num,by rw[HS2.o];exact Hex,hI ((HK1.o.trans (KeptS.of_below HB16.o)).trans Hk7.o)⟩
    case measure=>simp[intOf];omega
structure BestR (j:Job) (w:World) (e:Ending) (w':World):Prop where
 ex:∃v,e= .returned (.tuple #[v,.int .i64 (bestN j.p),.int .i64 (bestErr j.p)])/\w'.ownsRow w.heap.size 3 1 v (bestSt j.p).length ((bestSt j.p).map (Value.int .i64))
 bel:Bl w w'
theorem BestR.bad {j:Job} {w w':World} {k:Int} (h:bestErr j.p=k) (h0:k≠0) (hb:Bl w w'):BestR j w (.returned (.tuple #[.slice none 0 0,.int .i64 0,.int .i64 k])) w':=by
 have h1:bestN j.p=0:=by unfold bestN;rw[if_neg (by rw[h];exact h0)]
 have h2:bestSt j.p=[]:=by unfold bestSt;rw[if_neg (by rw[h];exact h0)]
 exact⟨⟨.slice none 0 0,by rw[h,h1],by rw[h2];exact World.ownsRow_nil _ _ _ _⟩,hb⟩
theorem bestErr_job {j:JobP} (h:jobErr j≠0):bestErr j=jobErr j:=by unfold bestErr;rw[if_pos h]
theorem bestErr_many {j:JobP} (h:jobErr j=0) (h2:7<j.tasks.length):bestErr j=3:=by unfold bestErr;rw[if_neg (fun h3=>h3 h),if_pos h2]
theorem bestErr_none {j:JobP} (h:jobErr j=0) (h2: ¬ 7<j.tasks.length) (h3:bestGo j j.tasks.length [] none=none):bestErr j=9:=by unfold bestErr;rw[if_neg (fun h3=>h3 h),if_neg h2,h3];rfl
theorem bestErr_some {j:JobP} (h:jobErr j=0) (h2: ¬ 7<j.tasks.length) {p:List Int×Int} (h3:bestGo j j.tasks.length [] none=some p):bestErr j=0/\bestSt j=p.1/\bestN j=p.2:=by
 have h4:bestErr j=0:=by unfold bestErr;rw[if_neg (fun h3=>h3 h),if_neg h2,h3];rfl
 refine⟨h4,?_,?_⟩
 ·unfold bestSt;rw[if_pos h4,h3];rfl
 ·unfold bestN;rw[if_pos h4,h3];rfl
theorem Best_any (j:Job) (B:Nat) (w:World) (hj:JIn w B j) (hB:B<=w.heap.size) (hS:Slim j) :
  Calls Tryz.prog 55 #[jobV j] w (BestR j w):=by
 obtain⟨n,hn⟩:∃n,j.tasks.length=n:=⟨_,rfl⟩
 obtain⟨TA,hTA⟩:∃x,j.TA=x:=⟨_,rfl⟩
 have hjv:jobV j= .agg #[.slice TA n j.tc,.slice j.RA j.res.length j.rc]:=by unfold jobV;rw[hn,hTA]
 obtain⟨W0,hW0⟩:∃W0,W0=(((w.alloc (.cells #[.slice TA n j.tc,.slice j.RA j.res.length j.rc] 25)).alloc (.cells #[.slice none 0 0] 26)).alloc (.cells #[.int .i64 0] 3)):=⟨_,rfl⟩
 have hs0:W0.heap.size=w.heap.size+3:=by rw[hW0];simp
 have HB0:=hI (show Bl w W0 by rw[hW0];exact(((Below.refl w.heap.size w).alloc (Nat.le_refl _) _).alloc (by simp) _).alloc (by simp;omega) _);have HX00:=hI (show ∀X:World,Bl W0 X->X.heap[w.heap.size]? =some (.cells #[.slice TA n j.tc,.slice j.RA j.res.length j.rc] 25 (0,0)) from fun X hX=>(hX.block _ (by omega)).trans (by rw[hW0,Below.heap_alloc _ _ _ (by simp;try omega),Below.heap_alloc _ _ _ (by simp)];exact heap_alloc_new _ _));have HX01:=hI (show ∀X:World,Bl W0 X->X.heap[w.heap.size+1]? =some (.cells #[.slice none 0 0] 26 (0,0)) from fun X hX=>(hX.block _ (by omega)).trans (by rw[hW0,Below.heap_alloc _ _ _ (by simp;try omega)];exact(by have h9:=heap_alloc_new (w.alloc (.cells #[.slice TA n j.tc,.slice j.RA j.res.length j.rc] 25)) (.cells #[.slice none 0 0] 26);rwa [show(w.alloc (.cells #[.slice TA n j.tc,.slice j.RA j.res.length j.rc] 25)).heap.size=w.heap.size+1 by simp] at h9)))
 have HX02:=hI (show ∀X:World,Bl W0 X->X.heap[w.heap.size+2]? =some (.cells #[.int .i64 0] 3 (0,0)) from fun X hX=>(hX.block _ (by omega)).trans (by rw[hW0];exact(by have h9:=heap_alloc_new ((w.alloc (.cells #[.slice TA n j.tc,.slice j.RA j.res.length j.rc] 25)).alloc (.cells #[.slice none 0 0] 26)) (.cells #[.int .i64 0] 3);rwa [show((w.alloc (.cells #[.slice TA n j.tc,.slice j.RA j.res.length j.rc] 25)).alloc (.cells #[.slice none 0 0] 26)).heap.size=w.heap.size+2 by simp] at h9)));have HU0:=hI (fun(X:World) (hX:Bl W0 X)=>show Bl w X from HB0.o.trans (hX.mono (by omega)));have HW0:=hI hW0;clear hW0;have HJ:=hI (show ∀X:World,Bl W0 X->JIn X B j from fun X hX=>hj.below ((HU0.o X hX).mono hB));have HC:=hI (Check_any j B W0 (HJ.o W0 (Below.refl _ _)) (by omega) hS);have hnt:=hS.nt;have hlc:=hj.tl;have hc2:=hj.tc;rw[hn] at hlc hnt;have Hn:=hI hn;have Hjv:=hI hjv;have HTA:=hI hTA;rw[hjv] at HC ⊢
 obtain⟨je,hje⟩:∃x,jobErr j.p=x:=⟨_,rfl⟩
 rw[hje] at HC;have Hje:=hI hje;obtain⟨ab,hab⟩:∃x,w.heap.size+1=x:=⟨_,rfl⟩
 obtain⟨mb,hmb⟩:∃x,w.heap.size+2=x:=⟨_,rfl⟩
 have Hab:=hI hab;have Hmb:=hI hmb;have HXa:=hI (show ∀X:World,Bl W0 X->X.heap[ab]? =some (.cells #[.slice none 0 0] 26 (0,0)) from by rw[<- hab];exact HX01.o);have HXm:=hI (show ∀X:World,Bl W0 X->X.heap[mb]? =some (.cells #[.int .i64 0] 3 (0,0)) from by rw[<- hmb];exact HX02.o);have hne:ab≠mb:=by omega
 have HBad:=hI (fun(X:World) (k:Int) (v9:Value) (m9:Int) (hX:Bl w X) (hbe:bestErr j.p=k) (hk:k≠0) (hva:X.heap[ab]? =some (.cells #[v9] 26 (0,0))) (hvm:X.heap[mb]? =some (.cells #[.int .i64 m9] 3 (0,0)))=>show BestR j w (.returned (.tuple #[.slice none 0 0,.int .i64 0,.int .i64 k])) ((X.setCell ⟨ab,0,none⟩ (.slice none 0 0)).setCell ⟨mb,0,none⟩ (.int .i64 0))/\((X.setCell ⟨ab,0,none⟩ (.slice none 0 0)).setCell ⟨mb,0,none⟩ (.int .i64 0)).heap[ab]? =some (.cells #[.slice none 0 0] 26 (0,0))/\((X.setCell ⟨ab,0,none⟩ (.slice none 0 0)).setCell ⟨mb,0,none⟩ (.int .i64 0)).heap[mb]? =some (.cells #[.int .i64 0] 3 (0,0)) from by
  refine⟨BestR.bad hbe hk ((hX.setCell (p:=⟨ab,0,none⟩) (by have:=Hab.o;show w.heap.size<=ab;omega) _).setCell (p:=⟨mb,0,none⟩) (by have:=Hmb.o;show w.heap.size<=mb;omega) _),?_,?_⟩
  ·rw[blk_set_ne (Ne.symm hne),blk_set hva];rfl
  ·rw[blk_set (by rw[blk_set_ne hne];exact hvm)];rfl)
 have q0:=W7.bc (j:=0) (HX00.o W0 (Below.refl _ _)) rfl;have q1:=W7.bc (j:=1) (HX00.o W0 (Below.refl _ _)) rfl;clear hj hS hn hjv hje hTA hab hmb;go_enter Tryz.func55,Tryz.ntmps55;go_upto_region 1 with fail;rw[<- HW0.o,Hab.o,show ab+1=mb by have:=Hab.o;have:=Hmb.o;omega];go_upto_region 2 with(go_at_call 37;refine HC.o.mono ?_;rintro e w1 ⟨rfl,hb1⟩;have hs1:=hb1.size;have Hb1:=hI hb1;clear hb1)
 clear q0 q1 HC;cases h0:(je==0)
 ·have h0':(je != 0)=true:=by simp[bne,h0]
  have hne0:je≠0:=fun h=>by rw[h] at h0;cases h0
  have HR:=hI (HBad.o w1 je _ _ (HU0.o _ Hb1.o) (by rw[bestErr_job (by rw[Hje.o];exact hne0),Hje.o]) hne0 (HXa.o w1 Hb1.o) (HXm.o w1 Hb1.o));clear hne0;have a0:=W7.bc (j:=0) (HXa.o w1 Hb1.o) rfl;have m0:=W7.bc (j:=0) (HXm.o w1 Hb1.o) rfl;have f0:=W7.bf (j:=0) (HXa.o w1 Hb1.o);have g0:=W7.bf (j:=0) (HXm.o w1 Hb1.o);obtain⟨X9,hX9⟩:∃X9,X9=(w1.setCell ⟨ab,0,none⟩ (.slice none 0 0)).setCell ⟨mb,0,none⟩ (.int .i64 0):=⟨_,rfl⟩
  rw[<- hX9] at HR;have g0:=W7.bc (j:=0) HR.o.2.1 rfl;have g1:=W7.bc (j:=0) HR.o.2.2 rfl;go_wp2;rw[<- hX9];refine bodyPost_ret (v:= .tuple #[.slice none 0 0,.int .i64 0,.int .i64 je]) (by simp[results,Tryz.results55,go_sem,g0,g1]) rfl ?_;exact HR.o.1
 have h0':(je != 0)=false:=by simp[bne,h0]
 have Hj0:=hI (show jobErr j.p=0 by rw[Hje.o];exact eq_of_beq h0);have h64:n<=64:=by have:=(good_of Hj0.o).nt;rw[j.nt,Hn.o] at this;exact this
 have h70:=HX00.o w1 Hb1.o
 by_cases h7:7<n
 ·have hd:decide ((n:Int)>7)=true:=decide_eq_true (by omega);have HR:=hI (HBad.o w1 3 _ _ (HU0.o _ Hb1.o) (bestErr_many Hj0.o (by rw[j.nt,Hn.o];exact h7)) (by decide) (HXa.o w1 Hb1.o) (HXm.o w1 Hb1.o));have q0:=W7.bc (j:=0) h70 rfl;clear h70;have a0:=W7.bc (j:=0) (HXa.o w1 Hb1.o) rfl;have m0:=W7.bc (j:=0) (HXm.o w1 Hb1.o) rfl;have f0:=W7.bf (j:=0) (HXa.o w1 Hb1.o);have g0:=W7.bf (j:=0) (HXm.o w1 Hb1.o);obtain⟨X9,hX9⟩:∃X9,X9=(w1.setCell ⟨ab,0,none⟩ (.slice none 0 0)).setCell ⟨mb,0,none⟩ (.int .i64 0):=⟨_,rfl⟩
  rw[<- hX9] at HR;have g0:=W7.bc (j:=0) HR.o.2.1 rfl;have g1:=W7.bc (j:=0) HR.o.2.2 rfl;go_wp2;rw[<- hX9];refine bodyPost_ret (v:= .tuple #[.slice none 0 0,.int .i64 0,.int .i64 3]) (by simp[results,Tryz.results55,go_sem,g0,g1]) rfl ?_;exact HR.o.1
 have hd:decide ((n:Int)>7)=false:=decide_eq_false (by omega);have q0:=W7.bc (j:=0) h70 rfl;go_upto_region 7 with fail;obtain⟨w2,hw2⟩:∃w2,w2=w1.alloc (.cells #[.bool false] 4):=⟨_,rfl⟩
 have hb12:Bl w1 w2:=by rw[hw2];exact(Below.refl _ _).alloc (Nat.le_refl _) _
 have hs2:w2.heap.size=w1.heap.size+1:=by rw[hw2];simp
 obtain⟨fb,hfb⟩:∃x,w1.heap.size=x:=⟨_,rfl⟩
 have HF2:=hI (show w2.heap[fb]? =some (.cells #[.bool false] 4 (0,0)) by rw[hw2,<-hfb];exact heap_alloc_new _ _);have HB2:=hI (Hb1.o.trans (hb12.mono hs1));have HDx:=hI (show BxD w.heap.size ab mb fb from⟨by have:=Hab.o;omega,by have:=Hab.o;have:=Hmb.o;omega,by have:=Hmb.o;omega⟩);have HJb:=hI (show JbIn w2 w.heap.size B j from⟨by have h9:=HX00.o w2 HB2.o;rw[Hn.o,HTA.o];exact h9,HJ.o w2 HB2.o,hB⟩);have HB0:=hI (show BestIn w2 w.heap.size ab mb fb none none [] 0 from⟨HF2.o,HXm.o w2 HB2.o,HXa.o w2 HB2.o,fun p hp=>(by cases hp),fun _=>⟨rfl,rfl,rfl⟩,by simp⟩);have HOr:=hI (orders_any j B w.heap.size ab mb fb n HDx.o Hj0.o Hn.o n [] ⟨by rw[j.nt,Hn.o];simp,fun x hx=>(by cases hx),List.nodup_nil⟩ none none 0 0 w2 HJb.o ⟨rfl,Nat.le_refl _,by decide,fun _=>⟨rfl,rfl⟩,fun X _ h9=>absurd h9 (by decide)⟩ ⟨_,_,_,HB0.o⟩);obtain⟨GV,hGV⟩:∃x,bestGo j.p n [] none=x:=⟨_,rfl⟩
 rw[hGV] at HOr;have HGV:=hI (show bestGo j.p j.p.tasks.length [] none=GV by rw[j.nt,Hn.o,hGV]);rw[<- hw2,hfb];have hfl:fb<w2.heap.size:=by omega
 have Hfb:=hI hfb;have h72:=HX00.o w2 HB2.o;clear hw2 hb12 hGV q0 h70 hfb;have q0:=W7.bc (j:=0) h72 rfl;clear h72;go_upto_region 8 with(go_at_call 123;refine HOr.o.mono ?_;rintro e w4 ⟨rfl,hex,hk⟩;have hs4:=hk.size;have Hex:=hI hex;have Hk:=hI hk;clear hex hk)
 clear q0 HOr;obtain⟨A,l,m,hBI⟩:=Hex.o;have HBI:=hI hBI;have HB04:=hI (show Bl w w4 from(HU0.o _ HB2.o).trans (Hk.o.below (by have:=HU0.o _ HB2.o;have:=this.size;omega) (fun i hi=>by have:=HDx.o.a;have:=HDx.o.m;have:=HDx.o.f;rcases hi with hi | hi | hi<;>omega)));have hfnd:=hBI.fnd;clear hBI Hex;cases GV with
 | none=>
  have HR:=hI (HBad.o w4 9 _ _ HB04.o (bestErr_none Hj0.o (by rw[j.nt,Hn.o];exact h7) HGV.o) (by decide) HBI.o.sts HBI.o.mins);have u0:=W7.bc (j:=0) hfnd rfl;clear hfnd;have hx9:=HBI.o;have v0:=W7.bc (j:=0) hx9.sts rfl;have x0:=W7.bc (j:=0) hx9.mins rfl;have f0:=W7.bf (j:=0) hx9.sts;have g0:=W7.bf (j:=0) hx9.mins;clear hx9;obtain⟨X9,hX9⟩:∃X9,X9=(w4.setCell ⟨ab,0,none⟩ (.slice none 0 0)).setCell ⟨mb,0,none⟩ (.int .i64 0):=⟨_,rfl⟩
  rw[<- hX9] at HR;have g0:=W7.bc (j:=0) HR.o.2.1 rfl;have g1:=W7.bc (j:=0) HR.o.2.2 rfl;go_wp2;rw[<- hX9];refine bodyPost_ret (v:= .tuple #[.slice none 0 0,.int .i64 0,.int .i64 9]) (by simp[results,Tryz.results55,go_sem,g0,g1]) rfl ?_;exact HR.o.1
 | some p=>
 obtain⟨ln,hln⟩:∃x,l.length=x:=⟨_,rfl⟩
 have HX4:=hI (show ∀X:World,Bl w4 X->X.heap[ab]? =some (.cells #[.slice A ln ln] 26 (0,0))/\X.heap[mb]? =some (.cells #[.int .i64 m] 3 (0,0)) from fun X hX=>by
  have h9:=HBI.o.below hX;rw[<- hln];exact⟨h9.sts,h9.mins⟩)
 have u0:=W7.bc (j:=0) hfnd rfl;clear hfnd
 have HRs:=hI (show ∀X:World,Bl w4 X->BestR j w (.returned (.tuple #[.slice A ln ln,.int .i64 m,.int .i64 0])) X from fun X hX=>by
  obtain⟨h1,sb,h2,h3,h4,h5⟩:=(HBI.o.below hX).row p rfl;obtain⟨e1,e2,e3⟩:=bestErr_some Hj0.o (by rw[j.nt,Hn.o];exact h7) HGV.o;have hll:=HBI.o.len;refine⟨⟨.slice A ln ln,by rw[e1,e3,h1],?_⟩,HB04.o.trans (hX.mono HB04.o.size)⟩;rw[e2,h1,h2,<-hln];exact⟨by simp,.inr ⟨sb,l.length,_,rfl,by omega,h5,Nat.le_refl _,by unfold maxLen;omega,by simp,by rw[List.take_of_length_le (by simp)]⟩⟩)
 clear hln;go_upto_region 10 with fail;clear u0;obtain⟨C,hC⟩:∃C:(Nat->Bool)->(Nat->Value)->World->Prop,C=fun L V w'=>∃(e:Later w4),w'=e.w/\(L 0=true->V 0= .slice A ln ln)/\(L 1=true->V 1= .int .i64 m)/\(L 4=true->V 2= .int .i64 0):=⟨_,rfl⟩
 have HC:=hI hC;clear hC;refine wp_region_opsA [23,24,4] C (by kernel_rfl) (by kernel_rfl) (by decide) (by kernel_rfl) (by kernel_rfl) ?_ ?_ ?_
 ·rw[HC.o];exact⟨⟨w4.drew,(Below.refl _ _).drew⟩,rfl,nff,nff,nff⟩
 ·rintro L V w' ii o AA hii ho hLi haf hInv hAA hFF;rw[HC.o] at hInv;obtain⟨e,rfl,h0,h1,h4⟩:=hInv;rcases ii with _ | _ | _ | _ | _ | ii;case succ.succ.succ.succ.succ=>(simp at hii;try omega)
  all_goals (simp only[List.getElem?_cons_zero,List.getElem?_cons_succ,Option.some.injEq] at ho;subst ho)
  all_goals clear hii
  ·have f2:AA.tmps[2]?.getD undef= .pointer (some ⟨ab,0,none⟩):=hFF.out 2 (by decide);have q0:=W7.bc (j:=0) (HX4.o e.w e.b).1 rfl;go_wp2;rw[HC.o];exact⟨_,rfl,e,rfl,fun _=>rfl,h1,h4⟩
  ·have f3:AA.tmps[3]?.getD undef= .pointer (some ⟨mb,0,none⟩):=hFF.out 3 (by decide);have q0:=W7.bc (j:=0) (HX4.o e.w e.b).2 rfl;go_wp2;rw[HC.o];exact⟨_,rfl,e,rfl,h0,fun _=>rfl,h4⟩
  ·have a0:=(hAA.out 0 23 rfl).trans (h0 (haf ⟨0,.data⟩ (by simp) rfl));have f2:AA.tmps[2]?.getD undef= .pointer (some ⟨ab,0,none⟩):=hFF.out 2 (by decide);have hx:=(HX4.o e.w e.b).1;have hse:=set_same hx;have q0:=W7.bc (j:=0) hx rfl;have f0:=W7.bf (j:=0) hx;clear hx;go_wp2;rw[HC.o];exact⟨rfl,undef,e,rfl,h0,h1,h4⟩
  ·have a1:=(hAA.out 1 24 rfl).trans (h1 (haf ⟨1,.data⟩ (by simp) rfl));have f3:AA.tmps[3]?.getD undef= .pointer (some ⟨mb,0,none⟩):=hFF.out 3 (by decide);have hx:=(HX4.o e.w e.b).2;have hse:=set_same hx;have q0:=W7.bc (j:=0) hx rfl;have f0:=W7.bf (j:=0) hx;clear hx;go_wp2;rw[HC.o];exact⟨rfl,undef,e,rfl,h0,h1,h4⟩
  ·go_wp2;rw[HC.o];exact⟨_,rfl,e,rfl,h0,h1,fun _=>rfl⟩
 rintro L V w' hL hInv;rw[HC.o] at hInv;obtain⟨e,rfl,h0,h1,h4⟩:=hInv;have k0:=h0 (hL 0 (by simp));have k1:=h1 (hL 1 (by simp));have k4:=h4 (hL 4 (by simp));clear h0 h1 h4 hL HC;have HR:=hI (HRs.o e.w e.b);have hx:=HX4.o e.w e.b;clear k0 k1;simp only[putAll];rw[k4];go_frame;have g0:=W7.bc (j:=0) hx.1 rfl;have g1:=W7.bc (j:=0) hx.2 rfl;clear hx;generalize e.w=w5 at HR g0 g1;go_wp2;refine bodyPost_ret (v:= .tuple #[.slice A ln ln,.int .i64 m,.int .i64 0]) (by simp[results,Tryz.results55,go_sem,g0,g1]) rfl ?_;exact HR.o
end Go.Proofs.YtjpgnfekbojcaaaGreat
