/- Plain laws of boards: the start that a task is given is the least one from the end of all that it needs at which it fits. -/
import Derived.Test.YtjpgnfekbojcaaaGreatWRJob7
import Derived.Test.YtjpgnfekbojcaaaGreatWSer
namespace W8
open W7
theorem least_ge (P:Int->Bool):∀(k:Nat) (a t:Int),a<=t->(t-a).toNat=k->P t=true->∃t0,a<=t0/\t0<=t/\P t0=true/\∀x,a<=x->x<t0->P x=false
 | 0,a,t,h,hk,ht=>⟨t,h,Int.le_refl _,ht,fun x h1 h2=>by omega⟩
 | k+1,a,t,h,hk,ht=>by
  by_cases ha:P a=true
  ·exact⟨a,Int.le_refl _,h,ha,fun x h1 h2=>by omega⟩
  ·have hne:a≠t:=fun e=>ha (e▸ht)
   obtain⟨t0,h1,h2,h3,h4⟩:=least_ge P k (a+1) t (by omega) (by omega) ht;refine⟨t0,by omega,h2,h3,fun x hx1 hx2=> ?_⟩
   by_cases hxa:x=a
   ·subst hxa;exact Bool.eq_false_iff.2 ha
   ·exact h4 x (by omega) hx2
theorem pieces_nn {r:Int}:∀ {l:List JUse},(∀u∈l,1<=u.many)->0<=pieces r l
 | [],_=>by simp[pieces]
 | u::l,h=>by
  have h1:=pieces_nn (r:=r) (l:=l) (fun x hx=>h x (zQ _ hx));have h2:=h u (zL ..);simp only[pieces]
  split<;>omega
theorem usedTo_mono {j:JobP} (hG:JGood j) (b:Bd) (r m m':Int) (h:∀i,i<j.tasks.length->runsB j b m i=true->runsB j b m' i=true):∀i,i<=j.tasks.length->usedTo j b r m i<=usedTo j b r m' i
 | 0,_=>by simp[usedTo]
 | i+1,hi=>by
  have h1:=usedTo_mono hG b r m m' h i (by omega);have h2:=pieces_nn (r:=r) (l:=(j.tasks.getD i default).uses) (fun u hu=>(hG.uses _ (by rw[getD_of (by omega)];exact zC _) u hu).2.2.1);have h3:=h i (by omega);simp only[usedTo]
  by_cases hr:runsB j b m i=true
  ·rw[if_pos hr,if_pos (h3 hr)];omega
  ·rw[if_neg hr];split<;>omega
theorem runs_iff {j:JobP} {b:Bd} {m:Int} {i:Nat}:runsB j b m i=true↔b.pl.getD i false=true/\b.st.getD i 0<=m/\m<endV j b i:=by
 unfold runsB;simp only[zY,decide_eq_true_eq,and_assoc]
theorem crowd_iff {j:JobP} {b:Bd} {u:JUse} {m:Int}:crowdB j b u m=true↔(j.res.getD u.res.toNat default).many<usedV j b u.res m+u.many:=by
 unfold crowdB;exact decide_eq_true_iff
theorem free_iff {j:JobP} {b:Bd} {u:JUse} {f t:Int}:freeV j b u f t=true↔(∀s∈(j.res.getD u.res.toNat default).off, ¬(s.lo<t/\f<=s.hi))/\crowdB j b u f=false/\∀i,i<j.tasks.length->b.pl.getD i false=true->f<b.st.getD i 0->b.st.getD i 0<t->crowdB j b u (b.st.getD i 0)=false:=by
 unfold freeV;simp only[zY,Bool.not_eq_true',List.any_eq_false,List.mem_range,startsIn,overB,decide_eq_true_eq,and_assoc]
 constructor
 ·rintro⟨h1,h2,h3⟩;exact⟨h1,h2,fun i hi hp h4 h5=>Bool.eq_false_iff.2 fun hc=>h3 i hi ⟨hp,h4,h5,hc⟩⟩
 ·rintro⟨h1,h2,h3⟩;exact⟨h1,h2,fun i hi h=>by rw[h3 i hi h.1 h.2.1 h.2.2.1] at h;exact absurd h.2.2.2 (by decide)⟩
theorem fits_iff {j:JobP} {b:Bd} {n:Nat} {t:Int}:fitsV j b n t=true↔t+(j.tasks.getD n default).takes<=100000/\((j.tasks.getD n default).takes=0\/∀u∈(j.tasks.getD n default).uses,freeV j b u t (t+(j.tasks.getD n default).takes)=true):=by
 unfold fitsV;simp only[zY,Bool.or_eq_true,Bool.not_eq_true',List.any_eq_false,decide_eq_true_eq,Bool.not_eq_false]
theorem fits_step {j:JobP} (hG:JGood j) {b:Bd} {n:Nat} {t first:Int} (hn:n<j.tasks.length) (hf:first<t) (h1:fitsV j b n t=true) (h0:fitsV j b n (t-1)=false):t∈endsAfter j b first j.tasks.length\/t∈usesAfter j first (j.tasks.getD n default).uses:=by
 have hm:j.tasks.getD n default∈j.tasks:=by rw[getD_of hn];exact zC _
 have htk:=hG.takes _ hm;generalize ht:j.tasks.getD n default=tk at *;have h1':=fits_iff.1 h1;rw[ht] at h1';have h0': ¬(fitsV j b n (t-1)=true):=by rw[h0];decide
 rw[fits_iff,ht] at h0'
 by_cases hz:tk.takes=0
 ·exact absurd ⟨by omega,.inl hz⟩ h0'
 have hall:=h1'.2.resolve_left hz;have hno: ¬ ∀u∈tk.uses,freeV j b u (t-1) (t-1+tk.takes)=true:=fun h=>h0' ⟨by omega,.inr h⟩
 rw[Classical.not_forall] at hno;obtain⟨u,hno⟩:=hno;rw[Classical.not_forall] at hno;obtain⟨hu,hno⟩:=hno;have hfr:=free_iff.1 (hall u hu)
 have hoff:∀s∈(j.res.getD u.res.toNat default).off,s.hi+1=t->t∈usesAfter j first tk.uses:=by
  intro s hs he;unfold usesAfter;refine List.mem_flatMap.2 ⟨u,hu,?_⟩;unfold offsAfter;refine List.mem_filterMap.2 ⟨s,hs,?_⟩;rw[if_pos (by omega),he]
 have hcr:crowdB j b u (t-1)=true->t∈endsAfter j b first j.tasks.length:=by
  intro hc;have c1:=crowd_iff.1 hc;have c2: ¬crowdB j b u t=true:=by rw[hfr.2.1];decide
  rw[crowd_iff] at c2;have hlt:usedV j b u.res t<usedV j b u.res (t-1):=by omega
  have: ¬ ∀i,i<j.tasks.length->runsB j b (t-1) i=true->runsB j b t i=true:=fun h=>by
   have:=usedTo_mono hG b u.res (t-1) t h j.tasks.length (zm _);unfold usedV at hlt;omega
  rw[Classical.not_forall] at this;obtain⟨i,this⟩:=this;simp only[Classical.not_forall] at this;obtain⟨hi,hr,hr'⟩:=this;have r1:=runs_iff.1 hr;have r2: ¬(b.st.getD i 0<=t/\t<endV j b i):=fun h=>hr' (runs_iff.2 ⟨r1.1,h⟩)
  have he:endV j b i=t:=by omega
  unfold endsAfter;refine List.mem_filterMap.2 ⟨i,List.mem_range.2 hi,?_⟩;rw[r1.1,he];simp[hf]
 by_cases hc:crowdB j b u (t-1)=true
 ·exact .inl (hcr hc)
 have hc:=Bool.eq_false_iff.2 hc;rw[free_iff] at hno
 by_cases hs:∀s∈(j.res.getD u.res.toNat default).off, ¬(s.lo<t-1+tk.takes/\t-1<=s.hi)
 ·have hst: ¬ ∀i,i<j.tasks.length->b.pl.getD i false=true->t-1<b.st.getD i 0->b.st.getD i 0<t-1+tk.takes->crowdB j b u (b.st.getD i 0)=false:=fun h=>hno ⟨hs,hc,h⟩
  simp only[Classical.not_forall] at hst;obtain⟨i,hi,hp,h2,h3,h4⟩:=hst
  by_cases he:b.st.getD i 0=t
  ·rw[he,hfr.2.1] at h4;exact absurd rfl h4
  ·exact absurd (hfr.2.2 i hi hp (by omega) (by omega)) h4
 ·simp only[Classical.not_forall,Classical.not_not] at hs;obtain⟨s,hs,h2,h3⟩:=hs;have h4:=hfr.1 s hs;exact .inr (hoff s hs (by omega))
theorem sortI_pair:∀l:List Int,(sortI l).Pairwise (· <= ·)
 | []=>by simp[sortI]
 | x::l=>insI_sorted x _ (sortI_pair l)
theorem find_least {P:Int->Bool}:∀ {l:List Int},l.Pairwise (· <= ·)->∀ {s:Int},l.find? P=some s->∀x∈l,P x=true->s<=x
 | [],_,s,h,_,hx,_=>by cases hx
 | y::l,hp,s,h,x,hx,hP=>by
  have h1:=List.pairwise_cons.1 hp;rw[List.find?_cons] at h;cases hy:P y
  ·rw[hy] at h;rcases List.mem_cons.1 hx with rfl | hx
   ·rw[hP] at hy;cases hy
   ·exact find_least h1.2 h x hx hP
  ·rw[hy] at h;cases h;rcases List.mem_cons.1 hx with rfl | hx
   ·exact Int.le_refl _
   ·exact h1.1 x hx
theorem tries_ge {j:JobP} {b:Bd} {fr:Int} {n:Nat} {x:Int} (h:x∈triesV j b fr n):readyV j b fr n<=x:=by
 unfold triesV at h;rcases List.mem_append.1 h with h | h
 ·rcases List.mem_append.1 h with h | h
  ·rw[zN.1 h];exact Int.le_refl _
  ·unfold endsAfter at h;obtain⟨i,_,h⟩:=List.mem_filterMap.1 h
   split at h
   ·rename_i hc
    simp only[zY,decide_eq_true_eq] at hc;cases h;omega
   ·cases h
 ·unfold usesAfter at h;obtain⟨u,_,h⟩:=List.mem_flatMap.1 h;unfold offsAfter at h;obtain⟨s,_,h⟩:=List.mem_filterMap.1 h
  split at h
  ·cases h;omega
  ·cases h
theorem place_spec {j:JobP} (hG:JGood j) {b:Bd} {fr:Int} {n:Nat} (hn:n<j.tasks.length) :
  (∀s,placeV j b fr n=some s->readyV j b fr n<=s/\fitsV j b n s=true/\∀x,readyV j b fr n<=x->x<s->fitsV j b n x=false) ∧
  (placeV j b fr n=none->∀x,readyV j b fr n<=x->fitsV j b n x=false):=by
 have key:∀x,readyV j b fr n<=x->fitsV j b n x=true->∃y,y<=x/\y∈sortI (triesV j b fr n)/\fitsV j b n y=true:=by
  intro x hx hf;obtain⟨t0,h1,h2,h3,h4⟩:=least_ge (fitsV j b n) _ (readyV j b fr n) x hx rfl hf;refine⟨t0,h2,(sortI_perm _).mem_iff.2 ?_,h3⟩;unfold triesV
  by_cases he:t0=readyV j b fr n
  ·exact List.mem_append_left _ (List.mem_append_left _ (zN.2 he))
  ·rcases fits_step hG hn (show readyV j b fr n<t0 by omega) h3 (h4 (t0-1) (by omega) (by omega)) with h | h
   ·exact List.mem_append_left _ (List.mem_append_right _ h)
   ·exact List.mem_append_right _ h
 refine⟨fun s hs=> ?_,fun hs x hx=> ?_⟩
 ·unfold placeV at hs;have h1:=List.find?_some hs;have h2:=List.mem_of_find?_eq_some hs;refine⟨tries_ge ((sortI_perm _).mem_iff.1 h2),h1,fun x hx hlt=> ?_⟩;rw[Bool.eq_false_iff];intro hf;obtain⟨y,hy,hm,hfy⟩:=key x hx hf;have:=find_least (sortI_pair _) hs y hm hfy;omega
 ·rw[Bool.eq_false_iff];intro hf;obtain⟨y,hy,hm,hfy⟩:=key x hx hf;unfold placeV at hs;rw[List.find?_eq_none] at hs;exact hs y hm hfy
theorem fitsR_iff {j:JobP} {b:Bd} {k:Nat} {s:Int}:fitsR j b k s=true↔isTm s=true/\fitsV j b k s=true/\∀q∈(j.tasks.getD k default).needs,b.pl.getD q.toNat false=true->endV j b q.toNat<=s:=by
 rw[fits_iff];unfold fitsR needFits;simp only[zY,Bool.or_eq_true,decide_eq_true_eq,List.all_eq_true,Bool.not_eq_true',Bool.and_eq_false_iff,decide_eq_false_iff_not]
 constructor
 ·rintro⟨⟨⟨h1,h2⟩,h3⟩,h4⟩;refine⟨h1,⟨h2,h4⟩,fun q hq hp=> ?_⟩;rcases h3 q hq with h5 | h5
  ·rw[hp] at h5;cases h5
  ·omega
 ·rintro⟨h1,⟨h2,h4⟩,h3⟩;refine⟨⟨⟨h1,h2⟩,fun q hq=> ?_⟩,h4⟩;cases hp:b.pl.getD q.toNat false
  ·exact .inl rfl
  ·exact .inr (by have:=h3 q hq hp;omega)
theorem fitsR_step {j:JobP} {b:Bd} {n:Nat} {t:Int} (h1:fitsR j b n t=true) (h0:fitsR j b n (t-1)=false) (ht0:0<t) :
  (∃q∈(j.tasks.getD n default).needs,b.pl.getD q.toNat false=true/\endV j b q.toNat=t)\/fitsV j b n (t-1)=false:=by
 obtain⟨a1,a2,a3⟩:=fitsR_iff.1 h1
 by_cases h9:fitsV j b n (t-1)=true
 ·refine .inl ?_;have htm:isTm (t-1)=true:=isTm_true.2 (by have:=isTm_true.1 a1;omega)
  have h8: ¬ ∀q∈(j.tasks.getD n default).needs,b.pl.getD q.toNat false=true->endV j b q.toNat<=t-1:=fun h=>by
   rw[fitsR_iff.2 ⟨htm,h9,h⟩] at h0;cases h0
  rw[Classical.not_forall] at h8;obtain⟨q,h8⟩:=h8;rw[Classical.not_imp] at h8;obtain⟨hq,h8⟩:=h8;rw[Classical.not_imp] at h8;refine⟨q,hq,h8.1,?_⟩;have h7:=a3 q hq h8.1;have h6:=h8.2;omega
 ·exact .inr (Bool.eq_false_iff.2 h9)
theorem least_cand {j:JobP} (hG:JGood j) {b:Bd} {n:Nat} {t0 fr:Int} (hn:n<j.tasks.length) (h0:0<=fr) (hge:fr<t0) (h:fitsR j b n t0=true) (hmin:fitsR j b n (t0-1)=false) :
  (∃i,i<j.tasks.length/\b.pl.getD i false=true/\endV j b i=t0)\/∃r∈j.res,∃sp∈r.off,sp.hi+1=t0:=by
 rcases fitsR_step h hmin (by omega) with⟨q,hq,hp,he⟩ | hV
 ·have hm:j.tasks.getD n default∈j.tasks:=by rw[getD_of hn];exact zC _
  have:=hG.needs _ hm q hq;exact .inl ⟨q.toNat,by omega,hp,he⟩
 ·have hm:j.tasks.getD n default∈j.tasks:=by rw[getD_of hn];exact zC _
  rcases fits_step hG hn hge (fitsR_iff.1 h).2.1 hV with h1 | h1
  ·unfold endsAfter at h1;rw[List.mem_filterMap] at h1;obtain⟨i,hi,h2⟩:=h1
   split at h2
   ·rename_i h3
    simp only[zY,decide_eq_true_eq] at h3;exact .inl ⟨i,List.mem_range.1 hi,h3.1,zJ h2⟩
   ·cases h2
  ·unfold usesAfter at h1;rw[List.mem_flatMap] at h1;obtain⟨u,hu,h2⟩:=h1;unfold offsAfter at h2;rw[List.mem_filterMap] at h2;obtain⟨sp,hsp,h3⟩:=h2;have hu2:=hG.uses _ hm u hu;have hr:u.res.toNat<j.res.length:=by omega
   split at h3
   ·exact .inr ⟨j.res.getD u.res.toNat default,by rw[getD_of hr];exact zC _,sp,hsp,zJ h3⟩
   ·cases h3
def BestC (F:Int->Bool) (fr:Int) (P:Int->Prop) (best:Int):Prop:=
 (best= -1/\∀c,P c->fr<c->F c=false)\/(fr<best/\F best=true/\P best/\∀c,P c->fr<c->F c=true->best<=c)
theorem BestC.first {F:Int->Bool} {fr:Int}:BestC F fr (fun _=>False) (-1):= .inl ⟨rfl,fun _ h=>h.elim⟩
theorem BestC.put {F:Int->Bool} {fr best c:Int} {P:Int->Prop} (h:BestC F fr P best) (h0:0<=fr) (hc:fr<c) (hF:F c=true) (hb:best<0\/c<best):BestC F fr (fun x=>P x\/x=c) c:=by
 refine .inr ⟨hc,hF,.inr rfl,fun x hx hx1 hx2=> ?_⟩;rcases hx with hx | hx
 ·rcases h with⟨_,h2⟩ | ⟨h1,_,_,h4⟩
  ·rw[h2 x hx hx1] at hx2;cases hx2
  ·have:=h4 x hx hx1 hx2;omega
 ·omega
theorem BestC.skip {F:Int->Bool} {fr best c:Int} {P:Int->Prop} (h:BestC F fr P best) (hs: ¬(fr<c/\(best<0\/c<best)/\F c=true)):BestC F fr (fun x=>P x\/x=c) best:=by
 rcases h with⟨h1,h2⟩ | ⟨h1,h2,h3,h4⟩
 ·refine .inl ⟨h1,fun x hx hx1=> ?_⟩;rcases hx with hx | hx
  ·exact h2 x hx hx1
  ·subst hx;exact Bool.eq_false_iff.2 fun hF=>hs ⟨hx1,.inl (by omega),hF⟩
 ·refine .inr ⟨h1,h2,.inl h3,fun x hx hx1 hx2=> ?_⟩;rcases hx with hx | hx
  ·exact h4 x hx hx1 hx2
  ·subst hx;rcases Int.lt_or_le x best with h9 | h9
   ·exact absurd ⟨hx1,.inr h9,hx2⟩ hs
   ·exact h9
theorem BestC.same {F:Int->Bool} {fr best:Int} {P Q:Int->Prop} (h:BestC F fr P best) (hPQ:∀x,P x↔Q x):BestC F fr Q best:=by
 rcases h with⟨h1,h2⟩ | ⟨h1,h2,h3,h4⟩
 ·exact .inl ⟨h1,fun x hx=>h2 x ((hPQ x).2 hx)⟩
 ·exact .inr ⟨h1,h2,(hPQ best).1 h3,fun x hx=>h4 x ((hPQ x).2 hx)⟩
theorem BestC.least {F:Int->Bool} {fr best:Int} {P:Int->Prop} (h:BestC F fr P best) (hfr:F fr=false) (hP:∀t,fr<t->F t=true->F (t-1)=false->P t) :
  (best= -1/\∀t,fr<=t->F t=false)\/(fr<best/\F best=true/\∀t,fr<=t->t<best->F t=false):=by
 have key:∀(d:Nat) (t:Int),(t-fr).toNat=d->fr<=t->F t=true->∃t0,fr<t0/\t0<=t/\F t0=true/\P t0:=by
  intro d
  induction d with
  | zero=>intro t hd ht hF;rw[show t=fr by omega,hfr] at hF;cases hF
  | succ d ih=>
   intro t hd ht hF;cases hp:F (t-1)
   ·exact⟨t,by omega,Int.le_refl _,hF,hP t (by omega) hF hp⟩
   ·obtain⟨t0,a1,a2,a3,a4⟩:=ih (t-1) (by omega) (by omega) hp;exact⟨t0,a1,by omega,a3,a4⟩
 rcases h with⟨h1,h2⟩ | ⟨h1,h2,h3,h4⟩
 ·refine .inl ⟨h1,fun t ht=>Bool.eq_false_iff.2 fun hF=> ?_⟩;obtain⟨t0,a1,_,a3,a4⟩:=key _ t rfl ht hF;rw[h2 t0 a4 a1] at a3;cases a3
 ·refine .inr ⟨h1,h2,fun t ht htb=>Bool.eq_false_iff.2 fun hF=> ?_⟩;obtain⟨t0,a1,a2,a3,a4⟩:=key _ t rfl ht hF;have:=h4 t0 a4 a1 a3;omega
def LeastT (F:Int->Bool) (fr v:Int):Prop:=(v= -1/\∀t,fr<=t->F t=false)\/(fr<=v/\F v=true/\∀t,fr<=t->t<v->F t=false)
theorem readyGo_iff {j:JobP} {b:Bd}:∀ {l:List Int} {at' t:Int},readyGo j b l at'<=t↔at'<=t/\∀k∈l,endV j b k.toNat<=t
 | [],at',t=>by simp[readyGo]
 | k::l,at',t=>by
  simp only[readyGo];rw[readyGo_iff];simp only[List.mem_cons,forall_eq_or_imp]
  constructor
  ·rintro⟨h1,h2⟩;exact⟨by omega,by omega,h2⟩
  ·rintro⟨h1,h2,h3⟩;exact⟨by omega,h3⟩
theorem fitsR_ready {j:JobP} (hG:JGood j) {b:Bd} {fr t:Int} {n:Nat} (hn:n<j.tasks.length) (h0:0<=fr) (ht:fr<=t) (hs:standB b.pl (j.tasks.getD n default).needs=true) :
  fitsR j b n t=true↔readyV j b fr n<=t/\fitsV j b n t=true:=by
 have hm:j.tasks.getD n default∈j.tasks:=by rw[getD_of hn];exact zC _
 have htk:=hG.takes _ hm;unfold standB at hs;rw[List.all_eq_true] at hs;rw[fitsR_iff];unfold readyV;rw[readyGo_iff]
 constructor
 ·rintro⟨h1,h2,h3⟩;exact⟨⟨ht,fun k hk=>h3 k hk (hs k hk)⟩,h2⟩
 ·rintro⟨⟨h1,h2⟩,h3⟩;have h4:=(fits_iff.1 h3).1;exact⟨isTm_true.2 (by omega),h3,fun k hk _=>h2 k hk⟩
theorem least_place {j:JobP} (hG:JGood j) {b:Bd} {fr v:Int} {n:Nat} (hn:n<j.tasks.length) (h0:0<=fr) (hs:standB b.pl (j.tasks.getD n default).needs=true) (hv:LeastT (fitsR j b n) fr v) :
  (v= -1/\placeV j b fr n=none)\/(fr<=v/\placeV j b fr n=some v):=by
 have hfr:fr<=readyV j b fr n:=(readyGo_iff.1 (Int.le_refl (readyGo j b (j.tasks.getD n default).needs fr))).1;obtain⟨p1,p2⟩:=place_spec hG (b:=b) (fr:=fr) hn;have key:=fun t (h:fr<=t)=>fitsR_ready hG (b:=b) hn h0 h hs
 rcases hv with⟨hv1,hv2⟩ | ⟨hv1,hv2,hv3⟩
 ·refine .inl ⟨hv1,?_⟩;cases hp:placeV j b fr n with
  | none=>rfl
  | some s=>
   obtain⟨a1,a2,_⟩:=p1 s hp;have h1:=(key s (by omega)).2 ⟨a1,a2⟩;rw[hv2 s (by omega)] at h1;cases h1
 ·refine .inr ⟨hv1,?_⟩;obtain⟨a1,a2⟩:=(key v hv1).1 hv2;cases hp:placeV j b fr n with
  | none=>rw[p2 hp v a1] at a2;cases a2
  | some s=>
   obtain⟨b1,b2,b3⟩:=p1 s hp
   congr 1
   rcases Int.lt_trichotomy s v with h | h | h
   ·have h1:=(key s (by omega)).2 ⟨b1,b2⟩;rw[hv3 s (by omega) h] at h1;cases h1
   ·exact h
   ·rw[b3 v a1 h] at a2;cases a2
def CandE (j:JobP) (b:Bd) (i:Nat) (c:Int):Prop:=∃k,k<i/\b.pl.getD k false=true/\endV j b k=c
def CandR (j:JobP) (r:Nat) (c:Int):Prop:=∃k,k<r/\∃sp∈(j.res.getD k default).off,sp.hi+1=c
def CandO (l:List JSpan) (k:Nat) (c:Int):Prop:=∃i,i<k/\(l.getD i default).hi+1=c
theorem candE_no {j:JobP} {b:Bd} {i:Nat} (h:b.pl.getD i false=false) (c:Int):CandE j b i c↔CandE j b (i+1) c:=by
 constructor
 ·rintro⟨k,h1,h2,h3⟩;exact⟨k,by omega,h2,h3⟩
 ·rintro⟨k,h1,h2,h3⟩;refine⟨k,?_,h2,h3⟩
  by_cases e:k=i
  ·subst e;rw[h] at h2;cases h2
  ·omega
theorem candE_yes {j:JobP} {b:Bd} {i:Nat} (h:b.pl.getD i false=true) (c:Int):(CandE j b i c\/c=endV j b i)↔CandE j b (i+1) c:=by
 constructor
 ·rintro(⟨k,h1,h2,h3⟩ | rfl)
  ·exact⟨k,by omega,h2,h3⟩
  ·exact⟨i,by omega,h,rfl⟩
 ·rintro⟨k,h1,h2,h3⟩
  by_cases e:k=i
  ·subst e;exact .inr h3.symm
  ·exact .inl ⟨k,by omega,h2,h3⟩
def CandB (j:JobP) (b:Bd) (n r k:Nat) (c:Int):Prop:=CandE j b n c\/CandR j r c\/CandO (j.res.getD r default).off k c
theorem candB_first {j:JobP} {b:Bd} {n:Nat} (c:Int):CandE j b n c↔CandB j b n 0 0 c:=by
 constructor
 ·exact fun h=> .inl h
 ·rintro(h | ⟨k,h,_⟩ | ⟨k,h,_⟩)
  ·exact h
  ·omega
  ·omega
theorem candB_put {j:JobP} {b:Bd} {n r k:Nat} (c:Int):(CandB j b n r k c\/c=((j.res.getD r default).off.getD k default).hi+1)↔CandB j b n r (k+1) c:=by
 constructor
 ·rintro((h | h | ⟨i,h1,h2⟩) | rfl)
  ·exact .inl h
  ·exact .inr (.inl h)
  ·exact .inr (.inr ⟨i,by omega,h2⟩)
  ·exact .inr (.inr ⟨k,by omega,rfl⟩)
 ·rintro(h | h | ⟨i,h1,h2⟩)
  ·exact .inl (.inl h)
  ·exact .inl (.inr (.inl h))
  ·by_cases e:i=k
   ·subst e;exact .inr h2.symm
   ·exact .inl (.inr (.inr ⟨i,by omega,h2⟩))
theorem candB_next {j:JobP} {b:Bd} {n r:Nat} (c:Int):CandB j b n r (j.res.getD r default).off.length c↔CandB j b n (r+1) 0 c:=by
 constructor
 ·rintro(h | ⟨k,h1,h2⟩ | ⟨i,h1,h2⟩)
  ·exact .inl h
  ·exact .inr (.inl ⟨k,by omega,h2⟩)
  ·exact .inr (.inl ⟨r,by omega,_,by rw[getD_of h1];exact zC _,h2⟩)
 ·rintro(h | ⟨k,h1,h2⟩ | ⟨i,h1,h2⟩)
  ·exact .inl h
  ·by_cases e:k=r
   ·subst e;obtain⟨sp,hsp,h3⟩:=h2;obtain⟨i,hi,rfl⟩:=List.getElem_of_mem hsp;exact .inr (.inr ⟨i,hi,by rw[getD_of hi];exact h3⟩)
   ·exact .inr (.inl ⟨k,by omega,h2⟩)
  ·omega
theorem best_least {j:JobP} (hG:JGood j) {b:Bd} {n:Nat} {fr best:Int} (hn:n<j.tasks.length) (h0:0<=fr) (hfr:fitsR j b n fr=false) (h:BestC (fitsR j b n) fr (CandB j b j.tasks.length j.res.length 0) best):LeastT (fitsR j b n) fr best:=by
 rcases h.least hfr (fun t ht h1 h2=>by
  rcases least_cand hG hn h0 ht h1 h2 with⟨i,h3,h4,h5⟩ | ⟨r,h3,h4⟩
  ·exact .inl ⟨i,h3,h4,h5⟩
  ·obtain⟨k,hk,rfl⟩:=List.getElem_of_mem h3;exact .inr (.inl ⟨k,hk,by rw[getD_of hk];exact h4⟩)) with h1 | ⟨h1,h2,h3⟩
 ·exact .inl h1
 ·exact .inr ⟨by omega,h2,h3⟩
theorem may_parts {j:JobP} {pl:List Bool} {n:Nat}:mayB j pl n=true↔pl.getD n false=false/\standB pl (j.tasks.getD n default).needs=true:=by
 unfold mayB;rw[zY,Bool.not_eq_true']
def lastO (P:Int->Bool) (l:List Int) (q:Nat):Int:=((l.drop q).find? P).getD (-1)
theorem lastO_none {P:Int->Bool} {l:List Int}:lastO P l l.length= -1:=by unfold lastO;simp
theorem lastO_hit {P:Int->Bool} {l:List Int} {q:Nat} (h:q<l.length) (h2:P l[q]=true):lastO P l q=l[q]:=by
 unfold lastO;rw[List.drop_eq_getElem_cons h,List.find?_cons,h2];rfl
theorem lastO_skip {P:Int->Bool} {l:List Int} {q:Nat} (h:q<l.length) (h2:P l[q]=false):lastO P l q=lastO P l (q+1):=by
 unfold lastO;rw[List.drop_eq_getElem_cons h,List.find?_cons,h2]
theorem lastO_zero {P:Int->Bool} {l:List Int} (h:∀x∈l,0<=x):(lastO P l 0= -1/\l.find? P=none)\/(0<=lastO P l 0/\lastO P l 0∈l/\l.find? P=some (lastO P l 0)):=by
 unfold lastO;rw[List.drop_zero];cases hf:l.find? P with
 | none=>exact .inl ⟨rfl,rfl⟩
 | some x=>
  have hm:=List.mem_of_find?_eq_some hf;exact .inr ⟨h x hm,hm,rfl⟩
theorem serialGo_full {j:JobP} {fr:Int} {order:List Int} {b:Bd} (h:order.find? (fun n=>mayB j b.pl n.toNat)=none):∀f,serialGo j fr order f b=(true,b)
 | 0=>rfl
 | _+1=>serialGo_none h
end W8
