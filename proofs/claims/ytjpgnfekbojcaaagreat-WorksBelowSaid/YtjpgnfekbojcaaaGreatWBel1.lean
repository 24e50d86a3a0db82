/- Plain laws of the best schedule: some order comes to no later starts than any schedule that keeps the job;the best one is no longer than that of any order. -/
import Derived.Test.YtjpgnfekbojcaaaGreatWBst0
import Derived.Test.YtjpgnfekbojcaaaGreatWBel0
namespace W8
open W7
def insY (k:Int->Int) (x:Int):List Int->List Int
 | []=>[x]
 | y::l=>if k x<=k y then x::y::l else y::insY k x l
def sortY (k:Int->Int):List Int->List Int
 | []=>[]
 | x::l=>insY k x (sortY k l)
theorem insY_perm (k:Int->Int) (x:Int):∀l:List Int,(insY k x l).Perm (x::l)
 | []=>List.Perm.refl _
 | y::l=>by
  unfold insY
  split
  ·exact List.Perm.refl _
  ·exact((insY_perm k x l).cons y).trans (List.Perm.swap x y l)
theorem sortY_perm (k:Int->Int):∀l:List Int,(sortY k l).Perm l
 | []=>List.Perm.refl _
 | x::l=>(insY_perm k x _).trans ((sortY_perm k l).cons x)
theorem insY_sorted (k:Int->Int) (x:Int):∀l:List Int,l.Pairwise (fun a b=>k a<=k b)->(insY k x l).Pairwise (fun a b=>k a<=k b)
 | [],_=>by simp[insY]
 | y::l,h=>by
  have h1:=List.pairwise_cons.1 h;unfold insY
  split
  ·rename_i hxy
   refine List.pairwise_cons.2 ⟨fun a ha=> ?_,h⟩;rcases List.mem_cons.1 ha with rfl | ha
   ·exact hxy
   ·have:=h1.1 a ha;omega
  ·rename_i hxy
   refine List.pairwise_cons.2 ⟨fun a ha=> ?_,insY_sorted k x l h1.2⟩;rcases List.mem_cons.1 ((insY_perm k x l).mem_iff.1 ha) with rfl | ha
   ·omega
   ·exact h1.1 a ha
theorem sortY_sorted (k:Int->Int):∀l:List Int,(sortY k l).Pairwise (fun a b=>k a<=k b)
 | []=>List.Pairwise.nil
 | x::l=>insY_sorted k x _ (sortY_sorted k l)
theorem find_pre {P:Int->Bool} {x:Int}:∀ {pre suf:List Int},(∀y∈pre,P y=false)->P x=true->(pre++x::suf).find? P=some x
 | [],_,_,hx=>by rw[List.nil_append,List.find?_cons,hx]
 | y::pre,suf,h,hx=>by
  rw[List.cons_append,List.find?_cons,h y (List.mem_cons_self ..)];exact find_pre (fun z hz=>h z (List.mem_cons_of_mem _ hz)) hx
theorem dom_go {j:JobP} (hj:jobErr j=0) {st:List Int} (hK:KeepB j (fullB j st)) {o:List Int} (hnd:o.Nodup) (hrng:∀x∈o,0<=x/\x<j.tasks.length) (hall:∀k,k<j.tasks.length->(k:Int)∈o)
  (hkey:o.Pairwise fun a b=>st.getD a.toNat 0<st.getD b.toNat 0\/(st.getD a.toNat 0=st.getD b.toNat 0/\rankOf j a.toNat<=rankOf j b.toNat)):∀(suf pre:List Int) (b:Bd),o=pre++suf->BLen j b->(∀k,k<j.tasks.length->(b.pl.getD k false=true↔(k:Int)∈pre))->(∀k,k<j.tasks.length->b.pl.getD k false=true->b.st.getD k 0<=st.getD k 0) →
   ∃bF,serialGo j 0 o suf.length b=(true,bF)/\∀k,k<j.tasks.length->bF.pl.getD k false=true/\bF.st.getD k 0<=st.getD k 0
 | [],pre,b,ho,hl,hpl,hst=>by
  refine⟨b,rfl,fun k hk=> ?_⟩;have h1:=(hpl k hk).2 (by have:=hall k hk;rw[ho,List.append_nil] at this;exact this);exact⟨h1,hst k hk h1⟩
 | x::suf,pre,b,ho,hl,hpl,hst=>by
  have hG:=good_of hj;have hx:=hrng x (by rw[ho];simp);have hxn:x.toNat<j.tasks.length:=by omega
  have hxe:((x.toNat:Nat):Int)=x:=by omega
  have hsplit:=hkey;rw[ho] at hsplit hnd;have hp2:=List.pairwise_append.1 hsplit;have hp3:=List.pairwise_cons.1 hp2.2.1
  have hxp:x ∉ pre:=fun h=>by
   have:=(List.nodup_append.1 hnd).2.2 x h x (by simp);exact this rfl
  have hnx:b.pl.getD x.toNat false=false:=by
   rw[Bool.eq_false_iff];intro h;have:=(hpl _ hxn).1 h;rw[hxe] at this;exact hxp this
  obtain⟨a1,a2,a3,a4⟩:=hK.at' x.toNat hxn (full_pl hxn);have a1':0<=st.getD x.toNat 0:=a1;have a2':st.getD x.toNat 0+(j.tasks.getD x.toNat default).takes<=100000:=a2
  have hneed:∀q∈(j.tasks.getD x.toNat default).needs,b.pl.getD q.toNat false=true/\st.getD q.toNat 0+(j.tasks.getD q.toNat default).takes<=st.getD x.toNat 0:=fun q hq=>by
   have hq1:=hG.needs _ (tk_mem hxn) q hq;have hq2:st.getD q.toNat 0+(j.tasks.getD q.toNat default).takes<=st.getD x.toNat 0:=(a4 q hq).2;have hr:=rank_needs hj hxn hq;have htk:=hG.takes _ (tk_mem (show q.toNat<j.tasks.length by omega));refine⟨(hpl _ (by omega)).2 ?_,hq2⟩;rw[Int.toNat_of_nonneg hq1.1];have hqo:q∈o:=by have:=hall q.toNat (by omega);rwa [Int.toNat_of_nonneg hq1.1] at this
   rw[ho] at hqo;rcases List.mem_append.1 hqo with h | h
   ·exact h
   ·exfalso;rcases List.mem_cons.1 h with rfl | h
    ·omega
    ·have:=hp3.1 q h;omega
  have hmay:mayB j b.pl x.toNat=true:=may_parts.2 ⟨hnx,by
   unfold standB;rw[List.all_eq_true];exact fun q hq=>(hneed q hq).1⟩
  have hfind:o.find? (fun n=>mayB j b.pl n.toNat)=some x:=by
   rw[ho];refine find_pre (fun y hy=> ?_) hmay;have hy1:=hrng y (by rw[ho];simp[hy]);rw[Bool.eq_false_iff];intro h;have h1:=(may_parts.1 h).1;rw[(hpl y.toNat (by omega)).2 (by rw[Int.toNat_of_nonneg hy1.1];exact hy)] at h1;cases h1
  have hmono:∀k,k<j.tasks.length->b.pl.getD k false=true->st.getD k 0<=st.getD x.toNat 0:=fun k hk hp=>by
   have:=hp2.2.2 (k:Int) ((hpl k hk).1 hp) x (by simp);rw[Int.toNat_natCast] at this;omega
  have hfit:fitsV j b x.toNat (st.getD x.toNat 0)=true:=by
   rcases a3 with a3 | a3
   ·exact fits_zero a3 a2'
   ·refine fits_of_cap hG (b':=fullB j st) hxn hK.cap (fun m hm k hk hkn hr=> ?_) (fun m=> ?_) (fun m hm1 hm2=> ?_) a3 a2'
    ·obtain⟨c1,c2,c3⟩:=runs_iff.1 hr;unfold endV at c3;have h1:=hmono k hk c1;have h2:=hst k hk c1;refine runs_iff.2 ⟨full_pl hk,?_,?_⟩
     ·show st.getD k 0<=m;omega
     ·unfold endV;show m<st.getD k 0+_;omega
    ·unfold runsB;rw[hnx];rfl
    ·exact runs_iff.2 ⟨full_pl hxn,hm1,hm2⟩
  have hready:readyV j b 0 x.toNat<=st.getD x.toNat 0:=by
   unfold readyV;refine readyGo_iff.2 ⟨a1',fun q hq=> ?_⟩;have h1:=hneed q hq;have hq1:=hG.needs _ (tk_mem hxn) q hq;have h2:=hst q.toNat (by omega) h1.1;unfold endV;omega
  obtain⟨p1,p2⟩:=place_spec hG (b:=b) (fr:=0) hxn;cases hv:placeV j b 0 x.toNat with
  | none=>rw[p2 hv _ hready] at hfit;cases hfit
  | some s=>
   obtain⟨s1,s2,s3⟩:=p1 s hv
   have hsle:s<=st.getD x.toNat 0:=by
    rcases Int.lt_or_le (st.getD x.toNat 0) s with h | h
    ·rw[s3 _ hready h] at hfit;cases hfit
    ·exact h
   rw[List.length_cons,serialGo_put hfind hv]
   have hput:∀k,k<j.tasks.length->((b.put x.toNat s).pl.getD k false=true↔(k:Int)∈pre++[x]):=fun k hk=>by
    unfold Bd.put;simp only
    by_cases e:k=x.toNat
    ·rw[e,getD_set_eq (by rw[hl.2];exact hxn),hxe];simp
    ·rw[getD_set_ne e,hpl k hk,List.mem_append,List.mem_singleton];have:(k:Int)≠x:=by omega
     simp[this]
   refine dom_go hj hK (by rw[ho];exact hnd) hrng hall hkey suf (pre++[x]) _ (by rw[ho];simp) (hl.put _ _) hput (fun k hk hp=> ?_);unfold Bd.put at hp ⊢;simp only at hp ⊢
   by_cases e:k=x.toNat
   ·rw[e,getD_set_eq (by rw[hl.1];exact hxn)];exact hsle
   ·rw[getD_set_ne e] at hp;rw[getD_set_ne e];exact hst k hk hp
theorem lenTo_mono {j:JobP} {st st':List Int}:∀i,(∀k,k<i->st.getD k 0<=st'.getD k 0)->lenTo j st i<=lenTo j st' i
 | 0,_=>Int.le_refl _
 | i+1,h=>by
  have h1:=lenTo_mono (j:=j) i (fun k hk=>h k (by omega));have h2:=h i (by omega);simp only[lenTo];omega
theorem dom_some {j:JobP} (hj:jobErr j=0) {st:List Int} (hk:keepsV j st=true):∃o,serErr j o=0/\lenOf j (serV j o)<=lenOf j st:=by
 have hG:=good_of hj;have hK:=(keepsV_iff hG).1 hk;obtain⟨key,hkey⟩:∃key:Int->Int,key=fun a=>st.getD a.toNat 0*100+rankOf j a.toNat:=⟨_,rfl⟩
 obtain⟨o,ho⟩:∃o,o=sortY key ((List.range j.tasks.length).map (fun(k:Nat)=>(k:Int))):=⟨_,rfl⟩
 have hperm:o.Perm ((List.range j.tasks.length).map (fun(k:Nat)=>(k:Int))):=by rw[ho];exact sortY_perm _ _
 have hrng:∀x∈o,0<=x/\x<j.tasks.length:=fun x hx=>by
  obtain⟨k,hk,rfl⟩:=List.mem_map.1 (hperm.mem_iff.1 hx);have:=List.mem_range.1 hk;omega
 have hall:∀k,k<j.tasks.length->(k:Int)∈o:=fun k hk=>hperm.mem_iff.2 (List.mem_map.2 ⟨k,List.mem_range.2 hk,rfl⟩)
 have hnd:o.Nodup:=by
  rw[hperm.nodup_iff,List.Nodup,List.pairwise_map];exact List.nodup_range.imp (fun h e=>h (by omega))
 have hsort:o.Pairwise fun a b=>key a<=key b:=by rw[ho];exact sortY_sorted _ _
 have hlen:o.length=j.tasks.length:=by rw[hperm.length_eq];simp
 have hnt:=hG.nt
 have hp:permB o j.tasks.length=true:=by
  unfold permB;simp only[Bool.and_eq_true,decide_eq_true_eq,List.all_eq_true];exact⟨⟨hlen,fun x hx=>withinB_true.2 (by have:=hrng x hx;omega)⟩,hnd⟩
 obtain⟨bF,h1,h2⟩:=dom_go hj hK hnd hrng hall ((List.Pairwise.and_mem.1 hsort).imp fun{a b} h=>by
  obtain⟨ha,hb,h⟩:=h;have ra:=rank_lt hj (n:=a.toNat) (by have:=hrng a ha;omega);have rb:=rank_lt hj (n:=b.toNat) (by have:=hrng b hb;omega);rw[hkey] at h;simp only at h;omega) o [] (bd0 j) rfl (bd0_len j) (fun k _=>by rw[bd0_pl];simp) (fun k _ h=>by rw[bd0_pl] at h;cases h)
 have hE:serErr j o=0:=by rw[serErr_rest hj hp,h1];rfl
 refine⟨o,hE,?_⟩;rw[serV_ok hE,h1];exact lenTo_mono _ fun k hk=>(h2 k hk).2
def okO (j:JobP) (o:List Int):Prop:=(serialGo j 0 o o.length (bd0 j)).1=true
def stO (j:JobP) (o:List Int):List Int:=(serialGo j 0 o o.length (bd0 j)).2.st
structure BestOf (j:JobP) (P:List Int->Prop) (F F':BFd):Prop where
 bAll:∀o,P o->okO j o->∃s n,F'=some (s,n)/\n<=lenOf j (stO j o)
 bOld:∀s n,F=some (s,n)->∃s' n',F'=some (s',n')/\n'<=n
 bOne:∀s n,F'=some (s,n)->F=some (s,n)\/∃o,P o/\okO j o/\s=stO j o/\n=lenOf j (stO j o)
theorem BestOf.refl (j:JobP) (F:BFd):BestOf j (fun _=>False) F F:=⟨fun _ h=>h.elim,fun s n h=>⟨s,n,h,Int.le_refl _⟩,fun _ _ h=> .inl h⟩
theorem BestOf.trans {j:JobP} {P Q R:List Int->Prop} {F G H:BFd} (h:BestOf j P F G) (h2:BestOf j Q G H) (hR:∀o,R o↔P o\/Q o):BestOf j R F H:=by
 refine⟨fun o ho hk=> ?_,fun s n hs=> ?_,fun s n hs=> ?_⟩
 ·rcases (hR o).1 ho with ho | ho
  ·obtain⟨s,n,h3,h4⟩:=h.bAll o ho hk;obtain⟨s',n',h5,h6⟩:=h2.bOld s n h3;exact⟨s',n',h5,by omega⟩
  ·exact h2.bAll o ho hk
 ·obtain⟨s',n',h3,h4⟩:=h.bOld s n hs;obtain⟨s2,n2,h5,h6⟩:=h2.bOld s' n' h3;exact⟨s2,n2,h5,by omega⟩
 ·rcases h2.bOne s n hs with h3 | ⟨o,h3,h4⟩
  ·rcases h.bOne s n h3 with h5 | ⟨o,h5,h6⟩
   ·exact .inl h5
   ·exact .inr ⟨o,(hR o).2 (.inl h5),h6⟩
  ·exact .inr ⟨o,(hR o).2 (.inr h3),h4⟩
theorem try_best (j:JobP) (h:List Int) (F:BFd):BestOf j (fun o=>o=h) F (tryV j h F):=by
 by_cases hk:okO j h
 ·have e:tryV j h F=pickV (stO j h) (lenOf j (stO j h)) F:=by unfold tryV;exact if_pos hk
  rw[e];cases F with
  | none=>
   refine⟨fun o ho _=>⟨_,_,rfl,by rw[ho];exact Int.le_refl _⟩,fun s n hs=>(by cases hs),fun s n hs=> .inr ⟨h,rfl,hk,?_⟩⟩;simp only[pickV,Option.some.injEq,Prod.mk.injEq] at hs;exact⟨hs.1.symm,hs.2.symm⟩
  | some F=>
   obtain⟨s0,n0⟩:=F;simp only[pickV]
   split
   ·rename_i hlt
    refine⟨fun o ho _=>⟨_,_,rfl,by rw[ho];exact Int.le_refl _⟩,fun s n hs=> ?_,fun s n hs=> .inr ⟨h,rfl,hk,?_⟩⟩
    ·simp only[Option.some.injEq,Prod.mk.injEq] at hs;exact⟨_,_,rfl,by omega⟩
    ·simp only[Option.some.injEq,Prod.mk.injEq] at hs;exact⟨hs.1.symm,hs.2.symm⟩
   ·rename_i hlt
    refine⟨fun o ho _=>⟨_,_,rfl,by rw[ho];omega⟩,fun s n hs=>⟨s,n,hs,Int.le_refl _⟩,fun _ _ hs=> .inl hs⟩
 ·have e:tryV j h F=F:=by unfold tryV;exact if_neg hk
  rw[e];exact⟨fun o ho hk2=>absurd (ho▸hk2) hk,fun s n hs=>⟨s,n,hs,Int.le_refl _⟩,fun _ _ hs=> .inl hs⟩
def Ext (j:JobP) (h o:List Int):Prop:=(∃r,o=h++r)/\permB o j.tasks.length=true
theorem best_go {j:JobP}:∀(f:Nat) (h:List Int) (F:BFd),HaveOk j f h->BestOf j (Ext j h) F (bestGo j f h F)
 | 0,h,F,H=>by
  have h1:=try_best j h F
  have hE:∀o,Ext j h o↔o=h:=fun o=>by
   constructor
   ·rintro⟨⟨r,rfl⟩,hp⟩;have h2:=H.len;have h3:(h++r).length=j.tasks.length:=by unfold permB at hp;simp only[Bool.and_eq_true,decide_eq_true_eq] at hp;exact hp.1.1
    rw[List.length_append] at h3;have:r=[]:=List.length_eq_zero_iff.1 (by omega);rw[this,List.append_nil]
   ·rintro rfl;exact⟨⟨[],by simp⟩,H.isPerm⟩
  exact(BestOf.refl j F).trans h1 (fun o=>by rw[hE];simp)
 | f+1,h,F,H=>by
  rw[bestGo_succ]
  have key:∀i,i<=j.tasks.length->BestOf j (fun o=>∃k,k<i/\h.contains (k:Int)=false/\Ext j (h++[(k:Int)]) o) F (bestTo j f h F i):=by
   intro i
   induction i with
   | zero=>intro _;exact(BestOf.refl j F).trans (BestOf.refl j F) (fun o=>by simp)
   | succ i ih=>
    intro hi;rw[bestTo_succ];unfold stepB
    split
    ·rename_i hc
     refine(ih (by omega)).trans (BestOf.refl j _) (fun o=> ?_);simp only[or_false]
     constructor
     ·rintro⟨k,hk,h1,h2⟩
      by_cases e:k=i
      ·subst e;rw[hc] at h1;cases h1
      ·exact⟨k,by omega,h1,h2⟩
     ·rintro⟨k,hk,h1⟩;exact⟨k,by omega,h1⟩
    ·rename_i hc
     have hc:=Bool.eq_false_iff.2 hc;refine(ih (by omega)).trans (best_go f _ _ (H.snoc (by omega) hc)) (fun o=> ?_)
     constructor
     ·rintro⟨k,hk,h1,h2⟩
      by_cases e:k=i
      ·subst e;exact .inr h2
      ·exact .inl ⟨k,by omega,h1,h2⟩
     ·rintro(⟨k,hk,h1⟩ | h1)
      ·exact⟨k,by omega,h1⟩
      ·exact⟨i,by omega,hc,h1⟩
  refine(BestOf.refl j F).trans (key j.tasks.length (Nat.le_refl _)) (fun o=> ?_);simp only[false_or]
  constructor
  ·rintro⟨⟨r,rfl⟩,hp⟩;have hp0:=hp;unfold permB at hp;simp only[Bool.and_eq_true,decide_eq_true_eq,List.length_append] at hp;cases r with
   | nil=>have:=H.len;simp at hp;omega
   | cons x r=>
    have hx:=perm_mem hp0 x (by simp);have hd:=List.nodup_append.1 hp.2;have hxe:((x.toNat:Nat):Int)=x:=by omega
    refine⟨x.toNat,by omega,?_,⟨r,by rw[hxe];simp⟩,hp0⟩;rw[hxe,Bool.eq_false_iff];intro hc;exact hd.2.2 x (List.contains_iff_mem.1 hc) x (by simp) rfl
  ·rintro⟨k,hk,_,⟨r,rfl⟩,hp⟩;exact⟨⟨(k:Int)::r,by simp⟩,hp⟩
theorem best_all {j:JobP}:BestOf j (fun o=>permB o j.tasks.length=true) none (bestGo j j.tasks.length [] none):=by
 refine(BestOf.refl j none).trans (best_go j.tasks.length [] none ⟨by simp,fun x hx=>absurd hx (by simp),List.nodup_nil⟩) (fun o=> ?_);unfold Ext;simp
theorem ser_parts {j:JobP} {o:List Int} (h:serErr j o=0):jobErr j=0/\permB o j.tasks.length=true/\okO j o/\serV j o=stO j o:=by
 have hj:jobErr j=0:=by
  by_cases h1:jobErr j=0
  ·exact h1
  ·rw[serErr_job h1] at h;exact absurd h h1
 have hp:permB o j.tasks.length=true:=by
  cases h1:permB o j.tasks.length
  ·rw[serErr_perm hj h1] at h;cases h
  ·rfl
 have hV:=serV_ok h;rw[serErr_rest hj hp] at h;refine⟨hj,hp,?_,hV⟩;unfold okO;cases h2:(serialGo j 0 o o.length (bd0 j)).1
 ·rw[h2] at h;cases h
 ·rfl
structure BestG (j:JobP):Prop where
 kp:kpErr j (bestSt j)=0
 ks:keepsV j (bestSt j)=true
 len:lenOf j (bestSt j)=bestN j
 low:∀st,keepsV j st=true->bestN j<=lenOf j st
 ser:∀o,serErr j o=0->bestN j<=lenOf j (serV j o)
theorem best_goes {j:JobP} (h:bestErr j=0):BestG j:=by
 have hs:bestSt j=((bestGo j j.tasks.length [] none).getD ([],0)).1/\bestN j=((bestGo j j.tasks.length [] none).getD ([],0)).2:=by unfold bestSt bestN;rw[if_pos h,if_pos h];exact⟨rfl,rfl⟩
 have hj:jobErr j=0:=by
  unfold bestErr at h
  by_cases h1:jobErr j=0
  ·exact h1
  ·rw[if_pos h1] at h;exact absurd h h1
 have hsome:∃s n,bestGo j j.tasks.length [] none=some (s,n):=by
  unfold bestErr at h;rw[if_neg (by simpa using hj)] at h
  split at h
  ·cases h
  ·cases hb:bestGo j j.tasks.length [] none with
   | none=>rw[hb] at h;simp at h
   | some x=>exact⟨x.1,x.2,rfl⟩
 obtain⟨s,n,hsn⟩:=hsome;rw[hsn] at hs;simp only[Option.getD_some] at hs;have hB:=best_all (j:=j);rw[hsn] at hB
 have hser:∀o,serErr j o=0->bestN j<=lenOf j (serV j o):=fun o ho=>by
  obtain⟨_,h2,h3,h4⟩:=ser_parts ho;obtain⟨s',n',h5,h6⟩:=hB.bAll o h2 h3;simp only[Option.some.injEq,Prod.mk.injEq] at h5;rw[hs.2,h4];omega
 rcases hB.bOne s n rfl with h1 | ⟨o,h1,h2,h3,h4⟩
 ·cases h1
 ·have hE:serErr j o=0:=by rw[serErr_rest hj h1];exact if_pos h2
  have hk:=serial_keeps hE;have hV:=(ser_parts hE).2.2.2;have hst:bestSt j=serV j o:=by rw[hs.1,hV,h3]
  have hks:keepsV j (serV j o)=true:=(keepsV_iff (good_of hj)).2 hk.2.1;refine⟨by unfold kpErr;rw[if_neg (by simpa using hj),hst,if_pos hk.1],by rw[hst];exact hks,by rw[hst,hV,hs.2,h4],fun st hst2=> ?_,hser⟩;obtain⟨o2,h5,h6⟩:=dom_some hj hst2;have:=hser o2 h5;omega
theorem best_some {j:JobP} {o:List Int} (ho:serErr j o=0):bestErr j≠9:=by
 obtain⟨h1,h2,h3,h4⟩:=ser_parts ho;obtain⟨s',n',h5,h6⟩:=(best_all (j:=j)).bAll o h2 h3;unfold bestErr;rw[if_neg (by simpa using h1),h5]
 split<;>simp
end W8
