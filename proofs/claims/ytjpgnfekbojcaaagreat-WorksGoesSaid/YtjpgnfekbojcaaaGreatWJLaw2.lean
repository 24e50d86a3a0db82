/- Plain laws of boards: the specification's test whether a task may start against the program's own. -/
import Derived.Test.YtjpgnfekbojcaaaGreatWRJob7
import Derived.Test.YtjpgnfekbojcaaaGreatWJLaw1
import Derived.Test.YtjpgnfekbojcaaaGreatWSer
namespace W8
open W7
theorem fitsR_iff {j:JobP} {b:Bd} {k:Nat} {s:Int}:fitsR j b k s=true↔isTm s=true/\fitsV j b k s=true/\∀q∈(j.tasks.getD k default).needs,b.pl.getD q.toNat false=true->endV j b q.toNat<=s:=by
 rw[fits_iff];unfold fitsR needFits;simp only[Bool.and_eq_true,Bool.or_eq_true,decide_eq_true_eq,List.all_eq_true,Bool.not_eq_true',Bool.and_eq_false_iff,decide_eq_false_iff_not]
 constructor
 ·rintro⟨⟨⟨h1,h2⟩,h3⟩,h4⟩;refine⟨h1,⟨h2,h4⟩,fun q hq hp=> ?_⟩;rcases h3 q hq with h5 | h5
  ·rw[hp] at h5;cases h5
  ·omega
 ·rintro⟨h1,⟨h2,h4⟩,h3⟩;refine⟨⟨⟨h1,h2⟩,fun q hq=> ?_⟩,h4⟩;cases hp:b.pl.getD q.toNat false
  ·exact .inl rfl
  ·exact .inr (by have:=h3 q hq hp;omega)
theorem fitsR_step {j:JobP} {b:Bd} {n:Nat} {t:Int} (h1:fitsR j b n t=true) (h0:fitsR j b n (t-1)=false) (ht0:0<t) :
  (∃q∈(j.tasks.getD n default).needs,b.pl.getD q.toNat false=true/\endV j b q.toNat=t)\/fitsV j b n (t-1)=false:=by
 obtain⟨a1,a2,a3⟩:=fitsR_iff.1 h1
 by_cases h9:fitsV j b n (t-1)=true
 ·refine .inl ?_;have htm:isTm (t-1)=true:=isTm_true.2 (by have:=isTm_true.1 a1;omega)
  have h8: ¬ ∀q∈(j.tasks.getD n default).needs,b.pl.getD q.toNat false=true->endV j b q.toNat<=t-1:=fun h=>by
   rw[fitsR_iff.2 ⟨htm,h9,h⟩] at h0;cases h0
  rw[Classical.not_forall] at h8;obtain⟨q,h8⟩:=h8;rw[Classical.not_imp] at h8;obtain⟨hq,h8⟩:=h8;rw[Classical.not_imp] at h8;refine⟨q,hq,h8.1,?_⟩;have h7:=a3 q hq h8.1;have h6:=h8.2;omega
 ·exact .inr (Bool.eq_false_iff.2 h9)
theorem least_cand {j:JobP} (hG:JGood j) {b:Bd} {n:Nat} {t0 fr:Int} (hn:n<j.tasks.length) (h0:0<=fr) (hge:fr<t0) (h:fitsR j b n t0=true) (hmin:fitsR j b n (t0-1)=false) :
  (∃i,i<j.tasks.length/\b.pl.getD i false=true/\endV j b i=t0)\/∃r∈j.res,∃sp∈r.off,sp.hi+1=t0:=by
 rcases fitsR_step h hmin (by omega) with⟨q,hq,hp,he⟩ | hV
 ·have hm:j.tasks.getD n default∈j.tasks:=by rw[getD_of hn];exact List.getElem_mem _
  have:=hG.needs _ hm q hq;exact .inl ⟨q.toNat,by omega,hp,he⟩
 ·have hm:j.tasks.getD n default∈j.tasks:=by rw[getD_of hn];exact List.getElem_mem _
  rcases fits_step hG hn hge (fitsR_iff.1 h).2.1 hV with h1 | h1
  ·unfold endsAfter at h1;rw[List.mem_filterMap] at h1;obtain⟨i,hi,h2⟩:=h1
   split at h2
   ·rename_i h3
    simp only[Bool.and_eq_true,decide_eq_true_eq] at h3;exact .inl ⟨i,List.mem_range.1 hi,h3.1,Option.some.inj h2⟩
   ·cases h2
  ·unfold usesAfter at h1;rw[List.mem_flatMap] at h1;obtain⟨u,hu,h2⟩:=h1;unfold offsAfter at h2;rw[List.mem_filterMap] at h2;obtain⟨sp,hsp,h3⟩:=h2;have hu2:=hG.uses _ hm u hu;have hr:u.res.toNat<j.res.length:=by omega
   split at h3
   ·exact .inr ⟨j.res.getD u.res.toNat default,by rw[getD_of hr];exact List.getElem_mem _,sp,hsp,Option.some.inj h3⟩
   ·cases h3
def BestC (F:Int->Bool) (fr:Int) (P:Int->Prop) (best:Int):Prop:=
 (best= -1/\∀c,P c->fr<c->F c=false)\/(fr<best/\F best=true/\P best/\∀c,P c->fr<c->F c=true->best<=c)
theorem BestC.first {F:Int->Bool} {fr:Int}:BestC F fr (fun _=>False) (-1):= .inl ⟨rfl,fun _ h=>h.elim⟩
theorem BestC.put {F:Int->Bool} {fr best c:Int} {P:Int->Prop} (h:BestC F fr P best) (h0:0<=fr) (hc:fr<c) (hF:F c=true) (hb:best<0\/c<best):BestC F fr (fun x=>P x\/x=c) c:=by
 refine .inr ⟨hc,hF,.inr rfl,fun x hx hx1 hx2=> ?_⟩;rcases hx with hx | hx
 ·rcases h with⟨_,h2⟩ | ⟨h1,_,_,h4⟩
  ·rw[h2 x hx hx1] at hx2;cases hx2
  ·have:=h4 x hx hx1 hx2;omega
 ·omega
theorem BestC.skip {F:Int->Bool} {fr best c:Int} {P:Int->Prop} (h:BestC F fr P best) (hs: ¬(fr<c/\(best<0\/c<best)/\F c=true)):BestC F fr (fun x=>P x\/x=c) best:=by
 rcases h with⟨h1,h2⟩ | ⟨h1,h2,h3,h4⟩
 ·refine .inl ⟨h1,fun x hx hx1=> ?_⟩;rcases hx with hx | hx
  ·exact h2 x hx hx1
  ·subst hx;exact Bool.eq_false_iff.2 fun hF=>hs ⟨hx1,.inl (by omega),hF⟩
 ·refine .inr ⟨h1,h2,.inl h3,fun x hx hx1 hx2=> ?_⟩;rcases hx with hx | hx
  ·exact h4 x hx hx1 hx2
  ·subst hx;rcases Int.lt_or_le x best with h9 | h9
   ·exact absurd ⟨hx1,.inr h9,hx2⟩ hs
   ·exact h9
theorem BestC.same {F:Int->Bool} {fr best:Int} {P Q:Int->Prop} (h:BestC F fr P best) (hPQ:∀x,P x↔Q x):BestC F fr Q best:=by
 rcases h with⟨h1,h2⟩ | ⟨h1,h2,h3,h4⟩
 ·exact .inl ⟨h1,fun x hx=>h2 x ((hPQ x).2 hx)⟩
 ·exact .inr ⟨h1,h2,(hPQ best).1 h3,fun x hx=>h4 x ((hPQ x).2 hx)⟩
theorem BestC.least {F:Int->Bool} {fr best:Int} {P:Int->Prop} (h:BestC F fr P best) (hfr:F fr=false) (hP:∀t,fr<t->F t=true->F (t-1)=false->P t) :
  (best= -1/\∀t,fr<=t->F t=false)\/(fr<best/\F best=true/\∀t,fr<=t->t<best->F t=false):=by
 have key:∀(d:Nat) (t:Int),(t-fr).toNat=d->fr<=t->F t=true->∃t0,fr<t0/\t0<=t/\F t0=true/\P t0:=by
  intro d
  induction d with
  | zero=>intro t hd ht hF;rw[show t=fr by omega,hfr] at hF;cases hF
  | succ d ih=>
   intro t hd ht hF;cases hp:F (t-1)
   ·exact⟨t,by omega,Int.le_refl _,hF,hP t (by omega) hF hp⟩
   ·obtain⟨t0,a1,a2,a3,a4⟩:=ih (t-1) (by omega) (by omega) hp;exact⟨t0,a1,by omega,a3,a4⟩
 rcases h with⟨h1,h2⟩ | ⟨h1,h2,h3,h4⟩
 ·refine .inl ⟨h1,fun t ht=>Bool.eq_false_iff.2 fun hF=> ?_⟩;obtain⟨t0,a1,_,a3,a4⟩:=key _ t rfl ht hF;rw[h2 t0 a4 a1] at a3;cases a3
 ·refine .inr ⟨h1,h2,fun t ht htb=>Bool.eq_false_iff.2 fun hF=> ?_⟩;obtain⟨t0,a1,a2,a3,a4⟩:=key _ t rfl ht hF;have:=h4 t0 a4 a1 a3;omega
def LeastT (F:Int->Bool) (fr v:Int):Prop:=(v= -1/\∀t,fr<=t->F t=false)\/(fr<=v/\F v=true/\∀t,fr<=t->t<v->F t=false)
theorem readyGo_iff {j:JobP} {b:Bd}:∀ {l:List Int} {at' t:Int},readyGo j b l at'<=t↔at'<=t/\∀k∈l,endV j b k.toNat<=t
 | [],at',t=>by simp[readyGo]
 | k::l,at',t=>by
  simp only[readyGo];rw[readyGo_iff];simp only[List.mem_cons,forall_eq_or_imp]
  constructor
  ·rintro⟨h1,h2⟩;exact⟨by omega,by omega,h2⟩
  ·rintro⟨h1,h2,h3⟩;exact⟨by omega,h3⟩
theorem fitsR_ready {j:JobP} (hG:JGood j) {b:Bd} {fr t:Int} {n:Nat} (hn:n<j.tasks.length) (h0:0<=fr) (ht:fr<=t) (hs:standB b.pl (j.tasks.getD n default).needs=true) :
  fitsR j b n t=true↔readyV j b fr n<=t/\fitsV j b n t=true:=by
 have hm:j.tasks.getD n default∈j.tasks:=by rw[getD_of hn];exact List.getElem_mem _
 have htk:=hG.takes _ hm;unfold standB at hs;rw[List.all_eq_true] at hs;rw[fitsR_iff];unfold readyV;rw[readyGo_iff]
 constructor
 ·rintro⟨h1,h2,h3⟩;exact⟨⟨ht,fun k hk=>h3 k hk (hs k hk)⟩,h2⟩
 ·rintro⟨⟨h1,h2⟩,h3⟩;have h4:=(fits_iff.1 h3).1;exact⟨isTm_true.2 (by omega),h3,fun k hk _=>h2 k hk⟩
theorem least_place {j:JobP} (hG:JGood j) {b:Bd} {fr v:Int} {n:Nat} (hn:n<j.tasks.length) (h0:0<=fr) (hs:standB b.pl (j.tasks.getD n default).needs=true) (hv:LeastT (fitsR j b n) fr v) :
  (v= -1/\placeV j b fr n=none)\/(fr<=v/\placeV j b fr n=some v):=by
 have hfr:fr<=readyV j b fr n:=(readyGo_iff.1 (Int.le_refl (readyGo j b (j.tasks.getD n default).needs fr))).1;obtain⟨p1,p2⟩:=place_spec hG (b:=b) (fr:=fr) hn;have key:=fun t (h:fr<=t)=>fitsR_ready hG (b:=b) hn h0 h hs
 rcases hv with⟨hv1,hv2⟩ | ⟨hv1,hv2,hv3⟩
 ·refine .inl ⟨hv1,?_⟩;cases hp:placeV j b fr n with
  | none=>rfl
  | some s=>
   obtain⟨a1,a2,_⟩:=p1 s hp;have h1:=(key s (by omega)).2 ⟨a1,a2⟩;rw[hv2 s (by omega)] at h1;cases h1
 ·refine .inr ⟨hv1,?_⟩;obtain⟨a1,a2⟩:=(key v hv1).1 hv2;cases hp:placeV j b fr n with
  | none=>rw[p2 hp v a1] at a2;cases a2
  | some s=>
   obtain⟨b1,b2,b3⟩:=p1 s hp
   congr 1
   rcases Int.lt_trichotomy s v with h | h | h
   ·have h1:=(key s (by omega)).2 ⟨b1,b2⟩;rw[hv3 s (by omega) h] at h1;cases h1
   ·exact h
   ·rw[b3 v a1 h] at a2;cases a2
def CandE (j:JobP) (b:Bd) (i:Nat) (c:Int):Prop:=∃k,k<i/\b.pl.getD k false=true/\endV j b k=c
def CandR (j:JobP) (r:Nat) (c:Int):Prop:=∃k,k<r/\∃sp∈(j.res.getD k default).off,sp.hi+1=c
def CandO (l:List JSpan) (k:Nat) (c:Int):Prop:=∃i,i<k/\(l.getD i default).hi+1=c
theorem candE_no {j:JobP} {b:Bd} {i:Nat} (h:b.pl.getD i false=false) (c:Int):CandE j b i c↔CandE j b (i+1) c:=by
 constructor
 ·rintro⟨k,h1,h2,h3⟩;exact⟨k,by omega,h2,h3⟩
 ·rintro⟨k,h1,h2,h3⟩;refine⟨k,?_,h2,h3⟩
  by_cases e:k=i
  ·subst e;rw[h] at h2;cases h2
  ·omega
theorem candE_yes {j:JobP} {b:Bd} {i:Nat} (h:b.pl.getD i false=true) (c:Int):(CandE j b i c\/c=endV j b i)↔CandE j b (i+1) c:=by
 constructor
 ·rintro(⟨k,h1,h2,h3⟩ | rfl)
  ·exact⟨k,by omega,h2,h3⟩
  ·exact⟨i,by omega,h,rfl⟩
 ·rintro⟨k,h1,h2,h3⟩
  by_cases e:k=i
  ·subst e;exact .inr h3.symm
  ·exact .inl ⟨k,by omega,h2,h3⟩
def CandB (j:JobP) (b:Bd) (n r k:Nat) (c:Int):Prop:=CandE j b n c\/CandR j r c\/CandO (j.res.getD r default).off k c
theorem candB_first {j:JobP} {b:Bd} {n:Nat} (c:Int):CandE j b n c↔CandB j b n 0 0 c:=by
 constructor
 ·exact fun h=> .inl h
 ·rintro(h | ⟨k,h,_⟩ | ⟨k,h,_⟩)
  ·exact h
  ·omega
  ·omega
theorem candB_put {j:JobP} {b:Bd} {n r k:Nat} (c:Int):(CandB j b n r k c\/c=((j.res.getD r default).off.getD k default).hi+1)↔CandB j b n r (k+1) c:=by
 constructor
 ·rintro((h | h | ⟨i,h1,h2⟩) | rfl)
  ·exact .inl h
  ·exact .inr (.inl h)
  ·exact .inr (.inr ⟨i,by omega,h2⟩)
  ·exact .inr (.inr ⟨k,by omega,rfl⟩)
 ·rintro(h | h | ⟨i,h1,h2⟩)
  ·exact .inl (.inl h)
  ·exact .inl (.inr (.inl h))
  ·by_cases e:i=k
   ·subst e;exact .inr h2.symm
   ·exact .inl (.inr (.inr ⟨i,by omega,h2⟩))
theorem candB_next {j:JobP} {b:Bd} {n r:Nat} (c:Int):CandB j b n r (j.res.getD r default).off.length c↔CandB j b n (r+1) 0 c:=by
 constructor
 ·rintro(h | ⟨k,h1,h2⟩ | ⟨i,h1,h2⟩)
  ·exact .inl h
  ·exact .inr (.inl ⟨k,by omega,h2⟩)
  ·exact .inr (.inl ⟨r,by omega,_,by rw[getD_of h1];exact List.getElem_mem _,h2⟩)
 ·rintro(h | ⟨k,h1,h2⟩ | ⟨i,h1,h2⟩)
  ·exact .inl h
  ·by_cases e:k=r
   ·subst e;obtain⟨sp,hsp,h3⟩:=h2;obtain⟨i,hi,rfl⟩:=List.getElem_of_mem hsp;exact .inr (.inr ⟨i,hi,by rw[getD_of hi];exact h3⟩)
   ·exact .inr (.inl ⟨k,by omega,h2⟩)
  ·omega
theorem best_least {j:JobP} (hG:JGood j) {b:Bd} {n:Nat} {fr best:Int} (hn:n<j.tasks.length) (h0:0<=fr) (hfr:fitsR j b n fr=false) (h:BestC (fitsR j b n) fr (CandB j b j.tasks.length j.res.length 0) best):LeastT (fitsR j b n) fr best:=by
 rcases h.least hfr (fun t ht h1 h2=>by
  rcases least_cand hG hn h0 ht h1 h2 with⟨i,h3,h4,h5⟩ | ⟨r,h3,h4⟩
  ·exact .inl ⟨i,h3,h4,h5⟩
  ·obtain⟨k,hk,rfl⟩:=List.getElem_of_mem h3;exact .inr (.inl ⟨k,hk,by rw[getD_of hk];exact h4⟩)) with h1 | ⟨h1,h2,h3⟩
 ·exact .inl h1
 ·exact .inr ⟨by omega,h2,h3⟩
theorem may_parts {j:JobP} {pl:List Bool} {n:Nat}:mayB j pl n=true↔pl.getD n false=false/\standB pl (j.tasks.getD n default).needs=true:=by
 unfold mayB;rw[Bool.and_eq_true,Bool.not_eq_true']
def lastO (P:Int->Bool) (l:List Int) (q:Nat):Int:=((l.drop q).find? P).getD (-1)
theorem lastO_none {P:Int->Bool} {l:List Int}:lastO P l l.length= -1:=by unfold lastO;simp
theorem lastO_hit {P:Int->Bool} {l:List Int} {q:Nat} (h:q<l.length) (h2:P l[q]=true):lastO P l q=l[q]:=by
 unfold lastO;rw[List.drop_eq_getElem_cons h,List.find?_cons,h2];rfl
theorem lastO_skip {P:Int->Bool} {l:List Int} {q:Nat} (h:q<l.length) (h2:P l[q]=false):lastO P l q=lastO P l (q+1):=by
 unfold lastO;rw[List.drop_eq_getElem_cons h,List.find?_cons,h2]
theorem lastO_zero {P:Int->Bool} {l:List Int} (h:∀x∈l,0<=x):(lastO P l 0= -1/\l.find? P=none)\/(0<=lastO P l 0/\lastO P l 0∈l/\l.find? P=some (lastO P l 0)):=by
 unfold lastO;rw[List.drop_zero];cases hf:l.find? P with
 | none=>exact .inl ⟨rfl,rfl⟩
 | some x=>
  have hm:=List.mem_of_find?_eq_some hf;exact .inr ⟨h x hm,hm,rfl⟩
theorem serialGo_full {j:JobP} {fr:Int} {order:List Int} {b:Bd} (h:order.find? (fun n=>mayB j b.pl n.toNat)=none):∀f,serialGo j fr order f b=(true,b)
 | 0=>rfl
 | _+1=>serialGo_none h
end W8
