/- Plain functions and laws of the specification's Fail: spans joined,tasks in the order of their starts,the placing of those that are left. -/
import Derived.Test.YtjpgnfekbojcaaaGreatWFai0
import Derived.Test.YtjpgnfekbojcaaaGreatWRKeep
namespace W8
open W7
def offGo:List JSpan->List JSpan->Bool->JSpan->List JSpan
 | [],out,put',x=>if put' then out else out++[x]
 | s::l,out,put',x=>
  if s.hi+1<x.lo then offGo l (out++[s]) put' x
  else if x.hi+1<s.lo then offGo l ((if put' then out else out++[x])++[s]) true x
  else offGo l out put' ⟨min x.lo s.lo,max x.hi s.hi⟩
def offV (l:List JSpan) (x:JSpan):List JSpan:=offGo l [] false x
structure Gap (l:List JSpan):Prop where
 each:∀s∈l,s.lo<=s.hi
 pw:l.Pairwise fun a b=>a.hi+1<b.lo
theorem gap_nil:Gap []:=⟨fun s h=>absurd h (by simp),List.Pairwise.nil⟩
theorem gap_snoc {l:List JSpan} {x:JSpan} (h:Gap l) (hx:x.lo<=x.hi) (hl:∀a∈l,a.hi+1<x.lo):Gap (l++[x]):=by
 refine⟨fun s hs=> ?_,List.pairwise_append.2 ⟨h.pw,by simp,fun a ha b hb=> ?_⟩⟩
 ·rcases List.mem_append.1 hs with hs | hs
  ·exact h.each s hs
  ·rw[zN.1 hs];exact hx
 ·rw[zN.1 hb];exact hl a ha
theorem gap_tail {x:JSpan} {l:List JSpan} (h:Gap (x::l)):Gap l/\∀a∈l,x.hi+1<a.lo:=by
 have h1:=List.pairwise_cons.1 h.pw;exact⟨⟨fun s hs=>h.each s (zQ _ hs),h1.2⟩,h1.1⟩
theorem offGo_put {x:JSpan}:∀(l out:List JSpan),Gap l->x.lo<=x.hi->(∀a∈l,x.hi+1<a.lo)->offGo l out true x=out++l
 | [],out,_,_,_=>by simp[offGo]
 | s::l,out,h,hx,hl=>by
  have h1:=hl s (zL ..);have h2:=h.each s (zL ..);have h3:=gap_tail h;simp only[offGo];rw[if_neg (by omega),if_pos h1,if_pos trivial,offGo_put l _ h3.1 hx (fun a ha=>hl a (zQ _ ha))];simp
theorem offGo_ok {t:Int}:∀(l out:List JSpan) (x:JSpan),Gap l->Gap out->x.lo<=x.hi->(∀a∈out,a.hi+1<x.lo)->(∀a∈out,∀b∈l,a.hi+1<b.lo)->Gap (offGo l out false x)/\(InOff (offGo l out false x) t↔InOff out t\/(x.lo<=t/\t<=x.hi)\/InOff l t)
 | [],out,x,_,ho,hx,hox,_=>by
  simp only[offGo];refine⟨gap_snoc ho hx hox,?_⟩;simp[inOff_app,inOff_cons,inOff_nil]
 | s::l,out,x,h,ho,hx,hox,hol=>by
  have hs:=h.each s (zL ..);have h3:=gap_tail h;have hos:=fun a ha=>hol a ha s (zL ..)
  have hol':=fun a ha b hb=>hol a ha b (zQ _ hb)
  simp only[offGo]
  by_cases h1:s.hi+1<x.lo
  ·rw[if_pos h1]
   obtain⟨i1,i2⟩:=offGo_ok (t:=t) l (out++[s]) x h3.1 (gap_snoc ho hs hos) hx (fun a ha=>by
    rcases List.mem_append.1 ha with ha | ha
    ·exact hox a ha
    ·rw[zN.1 ha];exact h1) (fun a ha b hb=>by
    rcases List.mem_append.1 ha with ha | ha
    ·exact hol' a ha b hb
    ·rw[zN.1 ha];exact h3.2 b hb)
   refine⟨i1,i2.trans ?_⟩;simp only[inOff_app,inOff_cons,inOff_nil,or_false]
   constructor
   ·rintro((a | a) | a | a)
    ·exact .inl a
    ·exact .inr (.inr (.inl a))
    ·exact .inr (.inl a)
    ·exact .inr (.inr (.inr a))
   ·rintro(a | a | a | a)
    ·exact .inl (.inl a)
    ·exact .inr (.inl a)
    ·exact .inl (.inr a)
    ·exact .inr (.inr a)
  rw[if_neg h1]
  by_cases h2:x.hi+1<s.lo
  ·rw[if_pos h2,if_neg (by decide),offGo_put l _ h3.1 hx (fun a ha=>by have:=h3.2 a ha;omega)]
   constructor
   ·have h4:=gap_snoc (gap_snoc ho hx hox) hs (fun a ha=>by
     rcases List.mem_append.1 ha with ha | ha
     ·exact hos a ha
     ·rw[zN.1 ha];exact h2)
    refine⟨fun a ha=> ?_,List.pairwise_append.2 ⟨h4.pw,h3.1.pw,fun a ha b hb=> ?_⟩⟩
    ·rcases List.mem_append.1 ha with ha | ha
     ·exact h4.each a ha
     ·exact h3.1.each a ha
    ·rcases List.mem_append.1 ha with ha | ha
     ·rcases List.mem_append.1 ha with ha | ha
      ·exact hol' a ha b hb
      ·rw[zN.1 ha];have:=h3.2 b hb;omega
     ·rw[zN.1 ha];exact h3.2 b hb
   ·simp only[inOff_app,inOff_cons,inOff_nil,or_false,or_assoc]
  ·rw[if_neg h2]
   obtain⟨i1,i2⟩:=offGo_ok (t:=t) l out ⟨min x.lo s.lo,max x.hi s.hi⟩ h3.1 ho (by simp only;omega) (fun a ha=>by
    have:=hox a ha;have:=hos a ha;simp only;omega) hol'
   refine⟨i1,i2.trans ?_⟩;simp only[inOff_cons]
   constructor
   ·rintro(a | a | a)
    ·exact .inl a
    ·by_cases h5:x.lo<=t/\t<=x.hi
     ·exact .inr (.inl h5)
     ·exact .inr (.inr (.inl (by omega)))
    ·exact .inr (.inr (.inr a))
   ·rintro(a | a | a | a)
    ·exact .inl a
    ·exact .inr (.inl (by omega))
    ·exact .inr (.inl (by omega))
    ·exact .inr (.inr a)
theorem offV_ok {l:List JSpan} {x:JSpan} (h:Gap l) (hx:x.lo<=x.hi):Gap (offV l x)/\∀t,InOff (offV l x) t↔(x.lo<=t/\t<=x.hi)\/InOff l t:=by
 refine⟨(offGo_ok (t:=0) l [] x h gap_nil hx (fun a ha=>absurd ha (by simp)) (fun a ha=>absurd ha (by simp))).1,fun t=> ?_⟩;have:=(offGo_ok (t:=t) l [] x h gap_nil hx (fun a ha=>absurd ha (by simp)) (fun a ha=>absurd ha (by simp))).2;unfold offV
 simpa [inOff_nil] using this
theorem gap_min {s:JSpan} {l:List JSpan} (h:Gap (s::l)) {t:Int} (ht:InOff (s::l) t):s.lo<=t/\(t<=s.hi\/(s.hi+1<t/\InOff l t)):=by
 rw[inOff_cons] at ht;have h3:=gap_tail h;have hs:=h.each s (zL ..);rcases ht with ht | ⟨a,ha,h1,h2⟩
 ·omega
 ·have:=h3.2 a ha;exact⟨by omega,.inr ⟨by omega,a,ha,h1,h2⟩⟩
theorem gap_unique:∀(l l':List JSpan),Gap l->Gap l'->(∀t,InOff l t↔InOff l' t)->l=l'
 | [],[],_,_,_=>rfl
 | [],s::l,_,h,he=>by
  have:=h.each s (zL ..);have:=(he s.lo).2 (inOff_cons.2 (.inl ⟨Int.le_refl _,this⟩));rw[inOff_nil] at this;exact this.elim
 | s::l,[],h,_,he=>by
  have:=h.each s (zL ..);have:=(he s.lo).1 (inOff_cons.2 (.inl ⟨Int.le_refl _,this⟩));rw[inOff_nil] at this;exact this.elim
 | s::l,s'::l',h,h',he=>by
  have hs:=h.each s (zL ..);have hs':=h'.each s' (zL ..);have a1:=(gap_min h' ((he s.lo).1 (inOff_cons.2 (.inl ⟨Int.le_refl _,hs⟩)))).1;have a2:=(gap_min h ((he s'.lo).2 (inOff_cons.2 (.inl ⟨Int.le_refl _,hs'⟩)))).1
  have b1: ¬s.hi<s'.hi:=fun hlt=>by
   have:=gap_min h ((he (s.hi+1)).2 (inOff_cons.2 (.inl ⟨by omega,by omega⟩)));omega
  have b2: ¬s'.hi<s.hi:=fun hlt=>by
   have:=gap_min h' ((he (s'.hi+1)).1 (inOff_cons.2 (.inl ⟨by omega,by omega⟩)));omega
  have e:s=s':=by
   obtain⟨sl,sh⟩:=s;obtain⟨sl',sh'⟩:=s';simp only[JSpan.mk.injEq] at *;omega
  subst e;have h3:=gap_tail h;have h3':=gap_tail h';rw[gap_unique l l' h3.1 h3'.1 (fun t=> ?_)]
  constructor
  ·intro ht;have h1:=gap_min h' ((he t).1 (inOff_cons.2 (.inr ht)));obtain⟨a,ha,h4,h5⟩:=ht;have:=h3.2 a ha;rcases h1.2 with h6 | h6
   ·omega
   ·exact h6.2
  ·intro ht;have h1:=gap_min h ((he t).2 (inOff_cons.2 (.inr ht)));obtain⟨a,ha,h4,h5⟩:=ht;have:=h3'.2 a ha;rcases h1.2 with h6 | h6
   ·omega
   ·exact h6.2
theorem joinGo_gap:∀(l out:List JSpan),(∀s∈l,s.lo<=s.hi)->l.Pairwise (fun a b=>spLe a b=true)->Gap out->(∀o X,out=o++[X]->∀x∈l,X.lo<=x.lo)->Gap (joinGo out l)
 | [],out,_,_,h,_=>by simpa [joinGo] using h
 | x::l,out,hl,hs,h,hX=>by
  have h1:=List.pairwise_cons.1 hs;have hx:=hl x (zL ..)
  have hxl:∀y∈l,x.lo<=y.lo:=fun y hy=>by
   have:=h1.1 y hy;simp[spLe] at this;omega
  have hl':∀s∈l,s.lo<=s.hi:=fun s hs=>hl s (zQ _ hs)
  rcases List.eq_nil_or_concat out with rfl | ⟨o,X,rfl⟩
  ·rw[join_nil];refine joinGo_gap l [x] hl' h1.2 ⟨fun s hs=>by rw[zN.1 hs];exact hx,by simp⟩ (fun o X he y hy=> ?_)
   have:o=[]/\X=x:=by
    cases o with
    | nil=>simpa using he.symm
    | cons a r=>simp at he
   rw[this.2];exact hxl y hy
  ·rw[List.concat_eq_append] at h hX ⊢;have hXe:=h.each X (by simp);have hXx:=hX o X rfl x (zL ..);have hp:=List.pairwise_append.1 h.pw;have ho:Gap o:=⟨fun s hs=>h.each s (by simp[hs]),hp.1⟩
   have hoX:∀a∈o,a.hi+1<X.lo:=fun a ha=>hp.2.2 a ha X (by simp)
   by_cases hc:x.lo<=X.hi+1
   ·rw[join_old hc];refine joinGo_gap l _ hl' h1.2 (gap_snoc ho (by simp only;omega) hoX) (fun o' X' he y hy=> ?_);have h2:=(List.append_inj' he rfl).2
    injection h2 with h2 _
    rw[<- h2];have:=hxl y hy;simp only;omega
   ·rw[join_new hc];refine joinGo_gap l _ hl' h1.2 (gap_snoc h hx (fun a ha=> ?_)) (fun o' X' he y hy=> ?_)
    ·rcases List.mem_append.1 ha with ha | ha
     ·have:=hoX a ha;omega
     ·rw[zN.1 ha];omega
    ·have h2:=(List.append_inj' he rfl).2
     injection h2 with h2 _
     rw[<- h2];exact hxl y hy
theorem joinedV_gap {l:List JSpan} {s:JSpan} (hl:∀x∈l++[s],x.lo<=x.hi):Gap (joinedV l s):=
 joinGo_gap _ _ (fun x hx=>hl x ((sortS_perm _).mem_iff.1 hx)) (sortS_sorted _) gap_nil (fun o X he=>by simp at he)
def offsV (l:List JSpan):List JSpan:=l.foldl offV []
theorem foldl_off {l:List JSpan}:∀ {a:List JSpan},(∀s∈l,s.lo<=s.hi)->Gap a->Gap (l.foldl offV a)/\∀t,InOff (l.foldl offV a) t↔InOff a t\/InOff l t:=by
 induction l with
 | nil=>intro a _ h;exact⟨h,fun t=>by simp[inOff_nil]⟩
 | cons s l ih=>
  intro a hl h;have h1:=offV_ok h (hl s (zL ..));have h2:=ih (fun x hx=>hl x (zQ _ hx)) h1.1;refine⟨h2.1,fun t=> ?_⟩;rw[List.foldl_cons,h2.2,h1.2,inOff_cons]
  constructor
  ·rintro((h | h) | h)
   ·exact .inr (.inl h)
   ·exact .inl h
   ·exact .inr (.inr h)
  ·rintro(h | h | h)
   ·exact .inl (.inr h)
   ·exact .inl (.inl h)
   ·exact .inr h
theorem offs_fail {j:JobP} {q:Nat} {now until':Int} (hl:∀s∈(j.res.getD q default).off,s.lo<=s.hi) (hn:now<=until'):offV (offsV (j.res.getD q default).off) ⟨now,until'⟩=failOff j q now until':=by
 have h1:=foldl_off hl gap_nil;have h2:=offV_ok (x:=⟨now,until'⟩) h1.1 hn;refine gap_unique _ _ h2.1 (joinedV_gap fun x hx=> ?_) fun t=> ?_
 ·rcases List.mem_append.1 hx with hx | hx
  ·exact hl x hx
  ·rw[zN.1 hx];exact hn
 ·unfold failOff;rw[joinedV_in,show offV (offsV (j.res.getD q default).off) ⟨now,until'⟩=offV (List.foldl offV [] (j.res.getD q default).off) ⟨now,until'⟩ from rfl,h2.2,h1.2];simp only[inOff_nil,false_or];exact Or.comm
def posB (st l:List Int) (s:Int):Nat->Nat
 | 0=>0
 | k+1=>if s<st.getD (l.getD k 0).toNat 0 then posB st l s k else k+1
def insR (st:List Int) (l:List Int) (x:Int):List Int:=l.take (posB st l (st.getD x.toNat 0) l.length)++[x]++l.drop (posB st l (st.getD x.toNat 0) l.length)
theorem insO_at {st:List Int} {x:Int}:∀(l:List Int) (p:Nat),p<=l.length->(∀i,i<p-> ¬st.getD x.toNat 0<st.getD (l.getD i 0).toNat 0)->(p<l.length->st.getD x.toNat 0<st.getD (l.getD p 0).toNat 0)->insO st x l=l.take p++[x]++l.drop p
 | [],p,hp,_,_=>by
  obtain rfl:p=0:=by simpa using hp
  rfl
 | y::l,0,_,_,h=>by
  have h1:=h (by simp);simp only[List.getD_cons_zero] at h1;simp only[insO];rw[if_pos h1]
  rfl
 | y::l,p+1,hp,h,h2=>by
  have h1:=h 0 (by omega);simp only[List.getD_cons_zero] at h1;simp only[insO];rw[if_neg h1,insO_at l p (by simpa using hp) (fun i hi=>by have:=h (i+1) (by omega);simpa using this) (fun hl=>by have:=h2 (by simpa using hl);simpa using this)]
  rfl
theorem posB_spec (st l:List Int) (s:Int):∀k,posB st l s k<=k/\(∀i,posB st l s k<=i->i<k->s<st.getD (l.getD i 0).toNat 0)/\(0<posB st l s k-> ¬s<st.getD (l.getD (posB st l s k-1) 0).toNat 0)
 | 0=>⟨zm _,fun i h1 h2=>absurd h2 (by omega),fun h=>absurd h (by simp[posB])⟩
 | k+1=>by
  obtain⟨h1,h2,h3⟩:=posB_spec st l s k
  by_cases h:s<st.getD (l.getD k 0).toNat 0
  ·rw[show posB st l s (k+1)=posB st l s k by simp only[posB];rw[if_pos h]];refine⟨by omega,fun i hi hk=> ?_,h3⟩
   by_cases e:i=k
   ·rw[e];exact h
   ·exact h2 i hi (by omega)
  ·rw[show posB st l s (k+1)=k+1 by simp only[posB];rw[if_neg h]];exact⟨zm _,fun i hi hk=>absurd hk (by omega),fun _=>h⟩
theorem insR_eq {st l:List Int} {x:Int} (hs:l.Pairwise (LeS st)):insR st l x=insO st x l:=by
 unfold insR;obtain⟨h1,h2,h3⟩:=posB_spec st l (st.getD x.toNat 0) l.length;generalize posB st l (st.getD x.toNat 0) l.length=p at h1 h2 h3
 symm
 refine insO_at l p h1 (fun i hi=> ?_) (fun hp=>h2 p (zm _) hp);have h4:=h3 (by omega)
 by_cases e:i=p-1
 ·rw[e];exact h4
 ·have h5:=List.pairwise_iff_getElem.1 hs i (p-1) (by omega) (by omega) (by omega);have e1:l.getD i 0=l[i]'(by omega):=by rw[zA,zB (by omega)];rfl
  have e2:l.getD (p-1) 0=l[p-1]'(by omega):=by rw[zA,zB (by omega)];rfl
  rw[e2] at h4;rw[e1];unfold LeS luS ltS at h5;simp only[Bool.or_eq_false_iff,decide_eq_false_iff_not] at h5;have:=h5.1;omega
def rOrd (st:List Int) (i:Nat):List Int:=sortO st ((List.range i).map (fun(k:Nat)=>(k:Int)))
theorem range_asc (i:Nat):((List.range i).map (fun(k:Nat)=>(k:Int))).Pairwise (· < ·):=by
 rw[List.pairwise_map];refine List.pairwise_lt_range.imp ?_;intro a b h;omega
theorem rOrd_ok (st:List Int) (i:Nat):(rOrd st i).Perm ((List.range i).map (fun(k:Nat)=>(k:Int)))/\(rOrd st i).Pairwise (LeS st):=sortO_ok st (range_asc i)
theorem rOrd_succ (st:List Int) (i:Nat):rOrd st (i+1)=insR st (rOrd st i) (i:Int):=by
 rw[insR_eq (rOrd_ok st i).2];unfold rOrd sortO;rw[List.range_succ,List.map_append,List.foldl_append]
 rfl
theorem rOrd_len (st:List Int) (i:Nat):(rOrd st i).length=i:=by rw[(rOrd_ok st i).1.length_eq];simp
theorem rOrd_mem {st:List Int} {i:Nat} {x:Int} (h:x∈rOrd st i):0<=x/\x<i:=by
 rw[(rOrd_ok st i).1.mem_iff,List.mem_map] at h;obtain⟨k,hk,rfl⟩:=h;have:=List.mem_range.1 hk;omega
theorem failOrd_eq (j:JobP) (st:List Int) (now r:Int):failOrd j st now r=(rOrd st j.tasks.length).filter (fun x=> !keptB j st now r x.toNat):=by
 have h1:=rOrd_ok st j.tasks.length
 have h0:(((List.range j.tasks.length).filter (fun i=> !keptB j st now r i)).map (fun(i:Nat)=>(i:Int))).Pairwise (· < ·):=by
  rw[List.pairwise_map];refine(List.pairwise_lt_range.sublist List.filter_sublist).imp ?_;intro a b h;omega
 have h2:=sortO_ok st h0;refine perm_pair_eq leS_anti (h2.1.trans ?_) h2.2 (h1.2.sublist List.filter_sublist);refine List.Perm.trans ?_ (h1.1.filter _).symm;rw[List.filter_map];exact List.Perm.refl _
structure BAg (b b':Bd):Prop where
 pl:b'.pl=b.pl
 ls:b'.st.length=b.st.length
 st:∀k,b.pl.getD k false=true->b'.st.getD k 0=b.st.getD k 0
theorem BAg.put {b b':Bd} (h:BAg b b') {n:Nat} (hn:n<b.st.length) (s:Int):BAg (b.put n s) (b'.put n s):=by
 refine⟨by unfold Bd.put;simp only;rw[h.pl],by unfold Bd.put;simp only[List.length_set];exact h.ls,fun k hk=> ?_⟩;unfold Bd.put at hk ⊢;simp only at hk ⊢
 by_cases e:k=n
 ·subst e;rw[getD_set_eq hn,getD_set_eq (by rw[h.ls];exact hn)]
 ·rw[getD_set_ne e] at hk;rw[getD_set_ne e,getD_set_ne e];exact h.st k hk
theorem BAg.runs {j:JobP} {b b':Bd} (h:BAg b b') (m:Int) (i:Nat):runsB j b' m i=runsB j b m i:=by
 unfold runsB endV;rw[h.pl];cases hp:b.pl.getD i false
 ·rfl
 ·rw[h.st i hp]
theorem BAg.used {j:JobP} {b b':Bd} (h:BAg b b') (r m:Int):usedV j b' r m=usedV j b r m:=by
 unfold usedV;rw[usedTo_sum,usedTo_sum];exact sumTo_congr fun k _=>h.runs m k
theorem BAg.fits {j:JobP} {b b':Bd} (h:BAg b b') (n:Nat) (t:Int):fitsV j b' n t=fitsV j b n t:=by
 have hc:∀u m,crowdB j b' u m=crowdB j b u m:=fun u m=>by unfold crowdB;rw[h.used]
 have hs:∀f t' i u,(startsIn b' f t' i&&crowdB j b u (b'.st.getD i 0))=(startsIn b f t' i&&crowdB j b u (b.st.getD i 0)):=fun f t' i u=>by
  unfold startsIn;rw[h.pl];cases hp:b.pl.getD i false
  ·simp
  ·rw[h.st i hp]
 unfold fitsV freeV;simp only[hc,hs]
theorem readyGo_ag {j:JobP} {b b':Bd} (h:BAg b b'):∀(l:List Int) (a:Int),(∀k∈l,b.pl.getD k.toNat false=true)->readyGo j b' l a=readyGo j b l a
 | [],a,_=>rfl
 | k::l,a,hl=>by
  have h1:endV j b' k.toNat=endV j b k.toNat:=by unfold endV;rw[h.st _ (hl k (zL ..))]
  simp only[readyGo,h1];exact readyGo_ag h l _ (fun x hx=>hl x (zQ _ hx))
theorem BAg.place {j:JobP} {b b':Bd} (h:BAg b b') (hG:JGood j) {n:Nat} {fr:Int} (hn:n<j.tasks.length) (hs:standB b.pl (j.tasks.getD n default).needs=true):placeV j b' fr n=placeV j b fr n:=by
 unfold standB at hs;rw[List.all_eq_true] at hs;have hr:readyV j b' fr n=readyV j b fr n:=readyGo_ag h _ _ hs;obtain⟨p1,p2⟩:=place_spec hG (b:=b) (fr:=fr) hn;obtain⟨q1,q2⟩:=place_spec hG (b:=b') (fr:=fr) hn;rw[hr] at q1 q2;simp only[h.fits] at q1 q2;cases hp:placeV j b fr n with
 | none=>
  cases hq:placeV j b' fr n with
  | none=>rfl
  | some t=>
   have h1:=q1 t hq;rw[p2 hp t h1.1] at h1;exact absurd h1.2.1 (by decide)
 | some s=>
  have h2:=p1 s hp;cases hq:placeV j b' fr n with
  | none=>rw[q2 hq s h2.1] at h2;exact absurd h2.2.1 (by decide)
  | some t=>
   have h1:=q1 t hq
   congr 1
   rcases Int.lt_trichotomy t s with h3 | h3 | h3
   ·rw[h2.2.2 t h1.1 h3] at h1;exact absurd h1.2.1 (by decide)
   ·exact h3
   ·rw[h1.2.2 s h2.1 h3] at h2;exact absurd h2.2.1 (by decide)
theorem find_filter {P nk:Int->Bool}:∀ {l:List Int},(∀x∈l,P x=true->nk x=true)->(l.filter nk).find? P=l.find? P
 | [],_=>rfl
 | x::l,h=>by
  have ih:=find_filter (P:=P) (nk:=nk) (l:=l) (fun y hy=>h y (zQ _ hy))
  by_cases hn:nk x=true
  ·rw[List.filter_cons_of_pos hn,List.find?_cons,List.find?_cons,ih]
  ·rw[List.filter_cons_of_neg hn,List.find?_cons,ih];have:P x=false:=Bool.eq_false_iff.2 fun hp=>hn (h x (zL ..) hp)
   rw[this]
theorem serial_ag {j:JobP} (hG:JGood j) {fr:Int} {order order':List Int} (K:Nat->Bool) (hf:order=order'.filter (fun x=> !K x.toNat)) (hord:∀x∈order',0<=x/\x<j.tasks.length):∀(f:Nat) (b b':Bd),BLen j b->BAg b b'->(∀k,K k=true->b.pl.getD k false=true)->(serialGo j fr order' f b').1=(serialGo j fr order f b).1/\BAg (serialGo j fr order f b).2 (serialGo j fr order' f b').2
 | 0,b,b',_,h,_=>⟨rfl,h⟩
 | f+1,b,b',hl,h,hK=>by
  have hfi:order'.find? (fun n=>mayB j b'.pl n.toNat)=order.find? (fun n=>mayB j b.pl n.toNat):=by
   rw[h.pl,hf];refine(find_filter fun x _ hp=> ?_).symm;have h1:=(may_parts.1 hp).1;cases hk:K x.toNat
   ·rfl
   ·rw[hK _ hk] at h1;cases h1
  cases hc:order.find? (fun n=>mayB j b.pl n.toNat) with
  | none=>rw[serialGo_none hc,serialGo_none (hfi.trans hc)];exact⟨rfl,h⟩
  | some x=>
   have hm:=may_parts.1 (show mayB j b.pl x.toNat=true from by have h9:=List.find?_some hc;exact h9);have hx:=hord x (List.mem_of_find?_eq_some (hfi.trans hc));have hp:=h.place hG (fr:=fr) (n:=x.toNat) (by omega) hm.2;cases hv:placeV j b fr x.toNat with
   | none=>rw[serialGo_no hc hv,serialGo_no (hfi.trans hc) (hp.trans hv)];exact⟨rfl,h⟩
   | some s=>
    rw[serialGo_put hc hv,serialGo_put (hfi.trans hc) (hp.trans hv)];refine serial_ag hG K hf hord f _ _ (hl.put _ _) (h.put (by rw[hl.1];omega) s) (fun k hk=> ?_);have h1:=hK k hk;exact(ble_put (s:=s) hm.1 k h1).1
theorem fail_same {j:JobP} {st:List Int} {now until':Int} {q:Nat} (h:FailOk j st now q until') {f:Nat} (hf:f=(failOrd j st now q).length) :
  (serialGo (failJob j q now until') now (rOrd st j.tasks.length) f ⟨st,(List.range j.tasks.length).map (keptB j st now q)⟩).1=(failRun j st now q until').1 ∧
  ((failRun j st now q until').1=true->(serialGo (failJob j q now until') now (rOrd st j.tasks.length) f ⟨st,(List.range j.tasks.length).map (keptB j st now q)⟩).2.st=(failRun j st now q until').2.st):=by
 have hE:=failJob_err h;have hG:=good_of hE
 have hl:BLen (failJob j q now until') (failBd j st now q):=by
  unfold BLen failBd;simp[failJob]
 have hpl:∀n,(failBd j st now q).pl.getD n false=(decide (n<j.tasks.length)&&keptB j st now q n):=fun n=>map_range_getD
 have hag:BAg (failBd j st now q) ⟨st,(List.range j.tasks.length).map (keptB j st now q)⟩:=by
  refine⟨rfl,by unfold failBd;simp[h.len],fun k hk=> ?_⟩;rw[hpl,zY,decide_eq_true_eq] at hk;unfold failBd;rw[map_range_getI hk.1,if_pos hk.2]
 have hag2:∀k,(decide (k<j.tasks.length)&&keptB j st now q k)=true->(failBd j st now q).pl.getD k false=true:=fun k hk=>by rw[hpl];exact hk
 have hfo:failOrd j st now q=(rOrd st j.tasks.length).filter (fun x=> !(decide (x.toNat<j.tasks.length)&&keptB j st now q x.toNat)):=by
  rw[failOrd_eq];refine List.filter_congr fun x hx=> ?_
  have:=rOrd_mem hx;rw[zD (by omega),Bool.true_and]
 obtain⟨s1,s2⟩:=serial_ag hG (fr:=now) (fun k=>decide (k<j.tasks.length)&&keptB j st now q k) hfo (fun x hx=>rOrd_mem hx) f _ _ hl hag hag2;have hrun:serialGo (failJob j q now until') now (failOrd j st now q) f (failBd j st now q)=failRun j st now q until':=by rw[hf];rfl
 rw[hrun] at s1 s2;refine⟨s1,fun hr=> ?_⟩;have hg:=fail_goes h hr
 have hall:∀n,n<j.tasks.length->(failRun j st now q until').2.pl.getD n false=true:=by
  have hp:=failOrd_perm j st now q
  have hmem:∀x,x∈failOrd j st now q↔∃i,i<j.tasks.length/\keptB j st now q i=false/\(i:Int)=x:=fun x=>by
   rw[hp.mem_iff,List.mem_map];simp only[List.mem_filter,List.mem_range,Bool.not_eq_true',and_assoc]
  refine serialGo_all (j:=failJob j q now until') hE (order:=failOrd j st now q) (fun x hx=> ?_) (failOrd j st now q).length (failBd j st now q) _ hl (by
   rw[hp.length_eq,List.length_map];unfold notPl failBd;rw[count_map_range];exact zm _) (fun n hn hpn=> ?_) (by rw[<- hr];rfl)
  ·obtain⟨i,hi,_,rfl⟩:=(hmem x).1 hx
   show _/\(i:Int)<j.tasks.length
   omega
  ·have hn:n<j.tasks.length:=hn;refine(hmem _).2 ⟨n,hn,?_,rfl⟩;rw[hpl,zD hn] at hpn
   simpa using hpn
 have hlen:=hg.len;refine List.ext_getElem (by rw[s2.ls]) fun k h1 h2=> ?_
 have h3:=s2.st k (hall k (by omega));rw[zA,zA,zB h1,zB h2] at h3;exact h3
end W8
