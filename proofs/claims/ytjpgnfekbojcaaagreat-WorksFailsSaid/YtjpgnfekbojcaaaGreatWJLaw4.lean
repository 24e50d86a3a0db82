/- Plain laws of boards: what tasks use of a resource at a time never is more than it has,just where each of them may start. -/
import Derived.Test.YtjpgnfekbojcaaaGreatWJLaw1
import Derived.Test.YtjpgnfekbojcaaaGreatWLon0
namespace W8
open W7
def sumTo (j:JobP) (R:Nat->Bool) (r:Int):Nat->Int
 | 0=>0
 | i+1=>sumTo j R r i+if R i then pieces r (j.tasks.getD i default).uses else 0
theorem usedTo_sum {j:JobP} {b:Bd} {r m:Int}:∀ {i:Nat},usedTo j b r m i=sumTo j (runsB j b m) r i
 | 0=>rfl
 | i+1=>by simp only[usedTo,sumTo];rw[usedTo_sum]
theorem tk_mem {j:JobP} {n:Nat} (hn:n<j.tasks.length):j.tasks.getD n default∈j.tasks:=by rw[getD_of hn];exact zC _
theorem pieces_nnj {j:JobP} (hG:JGood j) {n:Nat} (hn:n<j.tasks.length) (r:Int):0<=pieces r (j.tasks.getD n default).uses:=
 pieces_nn fun u hu=>(hG.uses _ (tk_mem hn) u hu).2.2.1
theorem sumTo_le {j:JobP} (hG:JGood j) {R R':Nat->Bool} {r:Int}:∀ {i:Nat},i<=j.tasks.length->(∀k,k<i->R k=true->0<pieces r (j.tasks.getD k default).uses->R' k=true)->sumTo j R r i<=sumTo j R' r i
 | 0,_,_=>Int.le_refl _
 | i+1,hi,h=>by
  have h1:=sumTo_le hG (r:=r) (i:=i) (by omega) (fun k hk=>h k (by omega));have h2:=h i (by omega);have h3:=pieces_nnj hG (n:=i) (by omega) r;simp only[sumTo]
  by_cases hR:R i=true
  ·rw[if_pos hR]
   by_cases hp:0<pieces r (j.tasks.getD i default).uses
   ·rw[if_pos (h2 hR hp)];omega
   ·split<;>omega
  ·rw[if_neg hR];split<;>omega
theorem sumTo_congr {j:JobP} {R R':Nat->Bool} {r:Int}:∀ {i:Nat},(∀k,k<i->R' k=R k)->sumTo j R' r i=sumTo j R r i
 | 0,_=>rfl
 | i+1,h=>by simp only[sumTo];rw[sumTo_congr (fun k hk=>h k (by omega)),h i (by omega)]
theorem sumTo_add {j:JobP} {R R':Nat->Bool} {r:Int} {n:Nat}:∀ {i:Nat},n<i->(∀k,k<i->k≠n->R' k=R k)->R n=false->sumTo j R' r i=sumTo j R r i+if R' n then pieces r (j.tasks.getD n default).uses else 0
 | 0,h,_,_=>absurd h (by omega)
 | i+1,h,h1,h2=>by
  simp only[sumTo]
  by_cases e:n=i
  ·subst e;rw[sumTo_congr (fun k hk=>h1 k (by omega) (by omega)),h2];simp
  ·rw[sumTo_add (i:=i) (by omega) (fun k hk=>h1 k (by omega)) h2,h1 i (by omega) (fun h=>e h.symm)];omega
theorem max_nat {P:Nat->Prop} (f:Nat->Int):∀N:Nat,(∀k,k<N-> ¬P k)\/∃k,k<N/\P k/\∀k',k'<N->P k'->f k'<=f k
 | 0=> .inl fun k h=>absurd h (by omega)
 | N+1=>by
  rcases max_nat (P:=P) f N with h | ⟨k,h1,h2,h3⟩
  ·by_cases hN:P N
   ·refine .inr ⟨N,by omega,hN,fun k' h4 h5=> ?_⟩
    by_cases e:k'=N
    ·rw[e];exact Int.le_refl _
    ·exact absurd h5 (h k' (by omega))
   ·refine .inl fun k h4 h5=> ?_
    by_cases e:k=N
    ·rw[e] at h5;exact hN h5
    ·exact h k (by omega) h5
  ·by_cases hN:P N/\f k<f N
   ·refine .inr ⟨N,by omega,hN.1,fun k' h4 h5=> ?_⟩
    by_cases e:k'=N
    ·rw[e];exact Int.le_refl _
    ·have:=h3 k' (by omega) h5;have:=hN.2;omega
   ·refine .inr ⟨k,by omega,h2,fun k' h4 h5=> ?_⟩
    by_cases e:k'=N
    ·subst e;rcases Int.lt_or_le (f k) (f k') with h6 | h6
     ·exact absurd ⟨h5,h6⟩ hN
     ·exact h6
    ·exact h3 k' (by omega) h5
theorem pieces_one {r:Int}:∀ {l:List JUse},(l.map (·.res)).Nodup->0<pieces r l->∃u∈l,u.res=r/\pieces r l=u.many
 | [],_,h=>by simp[pieces] at h
 | u::l,hn,h=>by
  rw[List.map_cons,List.nodup_cons] at hn
  by_cases hu:u.res=r
  ·refine⟨u,zL ..,hu,?_⟩
   have:pieces r l=0:=pieces_no (by
    rw[List.any_eq_false];intro x hx hxr;have:x.res=r:=eq_of_beq hxr;exact hn.1 (List.mem_map.2 ⟨x,hx,by rw[this,hu]⟩))
   simp[pieces,hu,this]
  ·have hb:(u.res==r)=false:=beq_eq_false_iff_ne.2 hu;simp only[pieces,hb] at h ⊢;obtain⟨v,h1,h2,h3⟩:=pieces_one hn.2 (by simpa using h);exact⟨v,zQ _ h1,h2,by simpa using h3⟩
theorem pieces_of {r:Int} {l:List JUse} (hn:(l.map (·.res)).Nodup) (hp:∀u∈l,1<=u.many) {u:JUse} (hu:u∈l) (hr:u.res=r):pieces r l=u.many:=by
 have h0:0<pieces r l:=by
  clear hn
  induction l with
  | nil=>cases hu
  | cons x l ih=>
   have h1:=pieces_nn (r:=r) (l:=l) (fun y hy=>hp y (zQ _ hy));have h2:=hp x (zL ..);simp only[pieces];rcases List.mem_cons.1 hu with rfl | h3
   ·rw[hr];simp;omega
   ·have:=ih (fun y hy=>hp y (zQ _ hy)) h3
    split<;>omega
 obtain⟨v,h1,h2,h3⟩:=pieces_one hn h0;rw[h3]
 have:u=v:=by
  obtain⟨i,hi,rfl⟩:=List.getElem_of_mem hu;obtain⟨k,hk,rfl⟩:=List.getElem_of_mem h1;have h4:(l.map (·.res))[i]'(by simpa using hi)=(l.map (·.res))[k]'(by simpa using hk):=by simp only[List.getElem_map];rw[hr,h2]
  rcases Nat.lt_trichotomy i k with h5 | h5 | h5
  ·exact absurd h4 (List.pairwise_iff_getElem.1 hn i k (by simpa using hi) (by simpa using hk) h5)
  ·subst h5;rfl
  ·exact absurd h4.symm (List.pairwise_iff_getElem.1 hn k i (by simpa using hk) (by simpa using hi) h5)
 rw[this]
def CapOk (j:JobP) (b:Bd):Prop:=∀r:Nat,r<j.res.length->∀m,usedV j b r m<=(j.res.getD r default).many
def OffOk (j:JobP) (n:Nat) (s:Int):Prop:=∀u∈(j.tasks.getD n default).uses,∀sp∈(j.res.getD u.res.toNat default).off, ¬(sp.lo<s+(j.tasks.getD n default).takes/\s<=sp.hi)
theorem cap_put {j:JobP} (hG:JGood j) {b b':Bd} {n:Nat} {s:Int} (hn:n<j.tasks.length) (hc:CapOk j b) (hR:∀m k,k<j.tasks.length->k≠n->runsB j b' m k=runsB j b m k) (h0:∀m,runsB j b m n=false)
  (h1:∀m,runsB j b' m n=decide (s<=m/\m<s+(j.tasks.getD n default).takes)) (hf:fitsV j b n s=true):CapOk j b':=by
 intro r hr m;have hnu:=hG.nuses _ (tk_mem hn)
 have hadd:usedV j b' r m=usedV j b r m+if runsB j b' m n then pieces r (j.tasks.getD n default).uses else 0:=by
  unfold usedV;rw[usedTo_sum,usedTo_sum];exact sumTo_add hn (fun k hk hkn=>hR m k hk hkn) (h0 m)
 rw[hadd,h1]
 by_cases hin:s<=m/\m<s+(j.tasks.getD n default).takes
 rotate_left
 ·rw[zE hin,if_neg (by decide)];have:=hc r hr m;omega
 rw[zD hin,if_pos rfl]
 by_cases hp:0<pieces r (j.tasks.getD n default).uses
 rotate_left
 ·have:=hc r hr m;omega
 obtain⟨u,hu,hur,hum⟩:=pieces_one hnu hp;have hall:=(fits_iff.1 hf).2.resolve_left (by omega);have hfr:=free_iff.1 (hall u hu)
 have hcap:∀m',crowdB j b u m'=false->usedV j b r m'+pieces r (j.tasks.getD n default).uses<=(j.res.getD r default).many:=fun m' hm'=>by
  have h9: ¬crowdB j b u m'=true:=by rw[hm'];decide
  rw[crowd_iff,hur] at h9;rw[show((r:Int)).toNat=r from rfl] at h9;rw[hum];omega
 rcases max_nat (P:=fun k=>runsB j b m k=true/\s<b.st.getD k 0) (fun k=>b.st.getD k 0) j.tasks.length with hno | ⟨k,hk,⟨hk1,hk2⟩,hk3⟩
 ·have h9:usedV j b r m<=usedV j b r s:=by
   unfold usedV;rw[usedTo_sum,usedTo_sum];refine sumTo_le hG (zm _) fun k hk hk1 _=> ?_
   obtain⟨a1,a2,a3⟩:=runs_iff.1 hk1;have a4: ¬s<b.st.getD k 0:=fun h=>hno k hk ⟨hk1,h⟩
   exact runs_iff.2 ⟨a1,by omega,by omega⟩
  have:=hcap s hfr.2.1;omega
 ·obtain⟨a1,a2,a3⟩:=runs_iff.1 hk1
  have h9:usedV j b r m<=usedV j b r (b.st.getD k 0):=by
   unfold usedV;rw[usedTo_sum,usedTo_sum];refine sumTo_le hG (zm _) fun k' hk' hk1' _=> ?_
   obtain⟨c1,c2,c3⟩:=runs_iff.1 hk1';refine runs_iff.2 ⟨c1,?_,by omega⟩
   by_cases h8:s<b.st.getD k' 0
   ·exact hk3 k' hk' ⟨hk1',h8⟩
   ·omega
  have:=hcap _ (hfr.2.2 k hk a1 hk2 (by omega));omega
theorem fits_of_cap {j:JobP} (hG:JGood j) {b b':Bd} {n:Nat} {s:Int} (hn:n<j.tasks.length) (hc:CapOk j b') (hsub:∀m,s<=m->∀k,k<j.tasks.length->k≠n->runsB j b m k=true->runsB j b' m k=true) (h0:∀m,runsB j b m n=false)
  (h1:∀m,s<=m->m<s+(j.tasks.getD n default).takes->runsB j b' m n=true) (hoff:OffOk j n s) (he:s+(j.tasks.getD n default).takes<=100000):fitsV j b n s=true:=by
 refine fits_iff.2 ⟨he,?_⟩
 by_cases hz:(j.tasks.getD n default).takes=0
 ·exact .inl hz
 refine .inr fun u hu=> ?_
 have htk:=hG.takes _ (tk_mem hn);have hus:=hG.uses _ (tk_mem hn) u hu;obtain⟨r,hr⟩:∃r:Nat,u.res=r:=⟨u.res.toNat,by omega⟩
 have key:∀m,s<=m->m<s+(j.tasks.getD n default).takes->crowdB j b u m=false:=fun m hm1 hm2=>by
  rw[Bool.eq_false_iff,Ne,crowd_iff,hr];have h9:=hc r (by omega) m
  have h8:usedV j b r m+u.many<=usedV j b' r m:=by
   unfold usedV;rw[usedTo_sum,usedTo_sum];have h7:=sumTo_add (j:=j) (R:=runsB j b m) (R':=fun k=>if k=n then true else runsB j b m k) (r:=r) hn (fun k _ hk=>by simp[hk]) (h0 m);simp only[if_true] at h7;rw[pieces_of (hG.nuses _ (tk_mem hn)) (fun u hu=>(hG.uses _ (tk_mem hn) u hu).2.2.1) hu hr] at h7;rw[<- h7];refine sumTo_le hG (zm _) fun k hk hk1 _=> ?_
   by_cases e:k=n
   ·rw[e];exact h1 m hm1 hm2
   ·simp only[e,if_false] at hk1;exact hsub m hm1 k hk e hk1
  rw[show((r:Int)).toNat=r from rfl];omega
 refine free_iff.2 ⟨fun sp hsp=>hoff u hu sp hsp,key s (Int.le_refl _) (by omega),fun i _ _ h2 h3=>key _ (by omega) (by omega)⟩
structure KeepB (j:JobP) (b:Bd):Prop where
 at':∀n,n<j.tasks.length->b.pl.getD n false=true->0<=b.st.getD n 0/\endV j b n<=100000/\((j.tasks.getD n default).takes=0\/OffOk j n (b.st.getD n 0))/\∀q∈(j.tasks.getD n default).needs,b.pl.getD q.toNat false=true/\endV j b q.toNat<=b.st.getD n 0
 cap:CapOk j b
def fullB (j:JobP) (st:List Int):Bd:=⟨st,List.replicate j.tasks.length true⟩
theorem full_pl {j:JobP} {st:List Int} {n:Nat} (hn:n<j.tasks.length):(fullB j st).pl.getD n false=true:=by
 unfold fullB;rw[zA,List.getElem?_replicate,if_pos hn];rfl
theorem map_range_getD {f:Nat->Bool} {N n:Nat}:((List.range N).map f).getD n false=(decide (n<N)&&f n):=by
 rw[zA,List.getElem?_map]
 by_cases h:n<N
 ·rw[List.getElem?_range h,zD h];simp
 ·rw[List.getElem?_eq_none (by simpa using h),zE h];rfl
theorem firstB_pl {i n N:Nat}:(firstB i N).getD n false=(decide (n<N)&&decide (n<i)):=map_range_getD
theorem off_of_fits {j:JobP} {b:Bd} {n:Nat} {s:Int} (h:fitsV j b n s=true):(j.tasks.getD n default).takes=0\/OffOk j n s:=by
 rcases (fits_iff.1 h).2 with h1 | h1
 ·exact .inl h1
 ·exact .inr fun u hu=>(free_iff.1 (h1 u hu)).1
theorem fits_zero {j:JobP} {b:Bd} {n:Nat} {s:Int} (h:(j.tasks.getD n default).takes=0) (he:s+(j.tasks.getD n default).takes<=100000):fitsV j b n s=true:=fits_iff.2 ⟨he,.inl h⟩
theorem keepsV_iff {j:JobP} (hG:JGood j) {st:List Int}:keepsV j st=true↔KeepB j (fullB j st):=by
 unfold keepsV;rw[zY,List.all_eq_true,List.all_eq_true];simp only[List.mem_range]
 constructor
 ·rintro⟨h1,h2⟩
  have hat:∀i,i<j.tasks.length->isTm (st.getD i 0)=true/\st.getD i 0+(j.tasks.getD i default).takes<=100000/\∀q∈(j.tasks.getD i default).needs,st.getD q.toNat 0+(j.tasks.getD q.toNat default).takes<=st.getD i 0:=fun i hi=>by
   have h3:=h1 i hi;unfold keepsAt needsOk at h3;simp only[zY,decide_eq_true_eq,List.all_eq_true] at h3;exact⟨h3.1.1,h3.1.2,fun q hq=>(h3.2 q hq).2⟩
  refine⟨fun n hn _=> ?_,?_⟩
  ·obtain⟨a1,a2,a3⟩:=hat n hn;refine⟨(isTm_true.1 a1).1,a2,off_of_fits (h2 n hn),fun q hq=> ?_⟩;have:=hG.needs _ (tk_mem hn) q hq;exact⟨full_pl (by omega),a3 q hq⟩
  ·have hcap:∀i,i<=j.tasks.length->CapOk j ⟨st,firstB i j.tasks.length⟩:=by
    intro i
    induction i with
    | zero=>
     intro _ r hr m
     have h9:usedV j ⟨st,firstB 0 j.tasks.length⟩ r m=0:=by
      unfold usedV;rw[usedTo_sum]
      have:∀N,sumTo j (runsB j ⟨st,firstB 0 j.tasks.length⟩ m) r N=0:=by
       intro N
       induction N with
       | zero=>rfl
       | succ N ih=>simp only[sumTo,ih,runsB,firstB_pl];simp
      exact this _
     rw[h9];exact(hG.many _ (by rw[getD_of hr];exact zC _)).1
    | succ i ih=>
     intro hi;refine cap_put hG (n:=i) (s:=st.getD i 0) (by omega) (ih (by omega)) (fun m k hk hki=> ?_) (fun m=> ?_) (fun m=> ?_) (h2 i (by omega))
     ·unfold runsB endV;simp only[firstB_pl]
      have:decide (k<i+1)=decide (k<i):=by
       by_cases h8:k<i
       ·simp[h8,show k<i+1 by omega]
       ·simp[h8,show ¬k<i+1 by omega]
      rw[this]
     ·unfold runsB;simp only[firstB_pl];simp
     ·unfold runsB endV;simp only[firstB_pl];rw[zD (show i<j.tasks.length by omega),zD (show i<i+1 by omega)]
      by_cases h8:st.getD i 0<=m<;>by_cases h7:m<st.getD i 0+(j.tasks.getD i default).takes<;>simp only[h8,h7,decide_true,decide_false,Bool.and_true,Bool.and_false,and_self,and_false,false_and]
   have h9:=hcap j.tasks.length (zm _)
   have h8:firstB j.tasks.length j.tasks.length=List.replicate j.tasks.length true:=by
    apply List.ext_getElem
    ·simp[firstB]
    ·intro i h1 h2;simp[firstB] at h1 ⊢;exact h1
   unfold fullB;rw[<- h8];exact h9
 ·rintro⟨h1,h2⟩;refine⟨fun i hi=> ?_,fun i hi=> ?_⟩
  ·obtain⟨a1,a2,a3,a4⟩:=h1 i hi (full_pl hi);have htk:=hG.takes _ (tk_mem hi);unfold endV at a2;unfold keepsAt needsOk;simp only[zY,decide_eq_true_eq,List.all_eq_true];refine⟨⟨isTm_true.2 ⟨a1,by show st.getD i 0<=_;simp only[fullB] at a2;omega⟩,a2⟩,fun q hq=> ?_⟩;have hq2:=hG.needs _ (tk_mem hi) q hq;obtain⟨b1,b2,_⟩:=h1 q.toNat (by omega) (full_pl (by omega));have htq:=hG.takes _ (tk_mem (j:=j) (n:=q.toNat) (by omega));unfold endV at b2;simp only[fullB] at b1 b2;exact⟨isTm_true.2 ⟨b1,by omega⟩,(a4 q hq).2⟩
  ·obtain⟨a1,a2,a3,a4⟩:=h1 i hi (full_pl hi);rcases a3 with a3 | a3
   ·exact fits_zero a3 a2
   ·refine fits_of_cap hG (b':=fullB j st) hi h2 (fun m _ k hk _ hr=> ?_) (fun m=> ?_) (fun m hm1 hm2=> ?_) a3 a2
    ·obtain⟨_,c2,c3⟩:=runs_iff.1 hr;exact runs_iff.2 ⟨full_pl hk,c2,c3⟩
    ·unfold runsB;simp only[firstB_pl];simp
    ·exact runs_iff.2 ⟨full_pl hi,hm1,hm2⟩
def butB (i N:Nat):List Bool:=(List.range N).map (fun k=> !decide (k=i))
theorem butB_pl {i n N:Nat}:(butB i N).getD n false=(decide (n<N)&& !decide (n=i)):=map_range_getD
def keepsR (j:JobP) (st:List Int):Bool:=(List.range j.tasks.length).all fun i=>fitsR j ⟨st,butB i j.tasks.length⟩ i (st.getD i 0)
theorem keepsR_iff {j:JobP} (hG:JGood j) (hself:∀n,n<j.tasks.length->∀q∈(j.tasks.getD n default).needs,q.toNat≠n) {st:List Int}:keepsR j st=true↔KeepB j (fullB j st):=by
 unfold keepsR;rw[List.all_eq_true];simp only[List.mem_range]
 constructor
 ·intro h;refine⟨fun n hn _=> ?_,fun r hr m=> ?_⟩
  ·obtain⟨a1,a2,a3⟩:=fitsR_iff.1 (h n hn);refine⟨(isTm_true.1 a1).1,(fits_iff.1 a2).1,off_of_fits a2,fun q hq=> ?_⟩;have hq2:=hG.needs _ (tk_mem hn) q hq;refine⟨full_pl (by omega),a3 q hq ?_⟩;simp only[butB_pl];rw[zD (show q.toNat<j.tasks.length by omega),zE (hself n hn q hq)]
   rfl
  ·rcases max_nat (P:=fun k=>runsB j (fullB j st) m k=true/\0<pieces r (j.tasks.getD k default).uses) (fun k=>st.getD k 0) j.tasks.length with hno | ⟨k,hk,⟨hk1,hk2⟩,hk3⟩
   ·have h9:usedV j (fullB j st) r m<=0:=by
     unfold usedV;rw[usedTo_sum];have h8:=sumTo_le hG (R:=runsB j (fullB j st) m) (R':=fun _=>false) (r:=r) (zm _) (fun k hk h1 h2=>absurd ⟨h1,h2⟩ (hno k hk))
     have h7:∀N,sumTo j (fun _=>false) r N=0:=by
      intro N
      induction N with
      | zero=>rfl
      | succ N ih=>simp[sumTo,ih]
     rw[h7] at h8;exact h8
    have:=(hG.many _ (by rw[getD_of hr];exact zC _:j.res.getD r default∈j.res)).1;omega
   ·obtain⟨u,hu,hur,hum⟩:=pieces_one (hG.nuses _ (tk_mem hk)) hk2;obtain⟨c1,c2,c3⟩:=runs_iff.1 hk1;have c2':st.getD k 0<=m:=c2;have c3':m<st.getD k 0+(j.tasks.getD k default).takes:=c3;obtain⟨a1,a2,a3⟩:=fitsR_iff.1 (h k hk);have hfr:=free_iff.1 (((fits_iff.1 a2).2.resolve_left (by omega)) u hu);have h9: ¬crowdB j ⟨st,butB k j.tasks.length⟩ u (st.getD k 0)=true:=by rw[hfr.2.1];decide
    rw[crowd_iff,hur,show((r:Int)).toNat=r from rfl] at h9
    have h8:usedV j (fullB j st) r m<=usedV j (fullB j st) r (st.getD k 0):=by
     unfold usedV;rw[usedTo_sum,usedTo_sum];refine sumTo_le hG (zm _) fun k' hk' hr' hp'=> ?_
     obtain⟨d1,d2,d3⟩:=runs_iff.1 hr';exact runs_iff.2 ⟨d1,hk3 k' hk' ⟨hr',hp'⟩,by omega⟩
    have h7:usedV j (fullB j st) r (st.getD k 0)=usedV j ⟨st,butB k j.tasks.length⟩ r (st.getD k 0)+pieces r (j.tasks.getD k default).uses:=by
     unfold usedV;rw[usedTo_sum,usedTo_sum];rw[sumTo_add (R:=runsB j ⟨st,butB k j.tasks.length⟩ (st.getD k 0)) hk (fun k' hk' hne=> ?_) (by unfold runsB;simp only[butB_pl];simp)]
     ·rw[if_pos (show runsB j (fullB j st) (st.getD k 0) k=true from runs_iff.2 ⟨full_pl hk,Int.le_refl _,by show _<st.getD k 0+_;omega⟩)]
     ·unfold runsB endV;rw[full_pl hk'];simp only[butB_pl];rw[zD hk',zE hne]
      rfl
    omega
 ·rintro⟨h1,h2⟩ i hi;obtain⟨a1,a2,a3,a4⟩:=h1 i hi (full_pl hi);have htk:=hG.takes _ (tk_mem hi);have a2':st.getD i 0+(j.tasks.getD i default).takes<=100000:=a2;have a1':0<=st.getD i 0:=a1;refine fitsR_iff.2 ⟨isTm_true.2 ⟨a1',by omega⟩,?_,fun q hq _=>(a4 q hq).2⟩;rcases a3 with a3 | a3
  ·exact fits_zero a3 a2
  ·refine fits_of_cap hG (b':=fullB j st) hi h2 (fun m _ k hk _ hr=> ?_) (fun m=> ?_) (fun m hm1 hm2=> ?_) a3 a2
   ·obtain⟨_,c2,c3⟩:=runs_iff.1 hr;exact runs_iff.2 ⟨full_pl hk,c2,c3⟩
   ·unfold runsB;simp only[butB_pl];simp
   ·exact runs_iff.2 ⟨full_pl hi,hm1,hm2⟩
theorem getD_set_eq {α:Type} {l:List α} {n:Nat} {x d:α} (h:n<l.length):(l.set n x).getD n d=x:=by
 rw[zA,List.getElem?_set_self h];rfl
theorem getD_set_ne {α:Type} {l:List α} {n k:Nat} {x d:α} (h:k≠n):(l.set n x).getD k d=l.getD k d:=by
 rw[zA,List.getElem?_set_ne (fun e=>h e.symm),<-zA]
def BLen (j:JobP) (b:Bd):Prop:=b.st.length=j.tasks.length/\b.pl.length=j.tasks.length
theorem BLen.put {j:JobP} {b:Bd} (h:BLen j b) (n:Nat) (s:Int):BLen j (b.put n s):=by
 unfold BLen Bd.put;simp only[List.length_set];exact h
def BLe (b b':Bd):Prop:=∀k,b.pl.getD k false=true->b'.pl.getD k false=true/\b'.st.getD k 0=b.st.getD k 0
theorem BLe.refl (b:Bd):BLe b b:=fun _ h=>⟨h,rfl⟩
theorem BLe.trans {a b c:Bd} (h:BLe a b) (h2:BLe b c):BLe a c:=fun k hk=>by
 obtain⟨h3,h4⟩:=h k hk;obtain⟨h5,h6⟩:=h2 k h3;exact⟨h5,h6.trans h4⟩
theorem ble_put {b:Bd} {n:Nat} {s:Int} (hp:b.pl.getD n false=false):BLe b (b.put n s):=fun k hk=>by
 have hkn:k≠n:=fun e=>by rw[e,hp] at hk;cases hk
 unfold Bd.put;rw[getD_set_ne hkn,getD_set_ne hkn];exact⟨hk,rfl⟩
theorem keep_put {j:JobP} (hG:JGood j) {b:Bd} {n:Nat} {s fr:Int} (hn:n<j.tasks.length) (hl:BLen j b) (hp:b.pl.getD n false=false) (hs:standB b.pl (j.tasks.getD n default).needs=true) (h0:0<=fr) (hK:KeepB j b) (hv:placeV j b fr n=some s):KeepB j (b.put n s):=by
 obtain⟨h1,h2,_⟩:=(place_spec hG hn).1 s hv;have hle:=ble_put (s:=s) hp;have hpn:(b.put n s).pl.getD n false=true:=getD_set_eq (by rw[hl.2];exact hn);have hsn:(b.put n s).st.getD n 0=s:=getD_set_eq (by rw[hl.1];exact hn);have hpk:∀k,k≠n->(b.put n s).pl.getD k false=b.pl.getD k false:=fun k hk=>getD_set_ne hk
 have hsk:∀k,k≠n->(b.put n s).st.getD k 0=b.st.getD k 0:=fun k hk=>getD_set_ne hk
 have hne:∀q,b.pl.getD q false=true->q≠n:=fun q hq e=>by rw[e,hp] at hq;cases hq
 obtain⟨h3,h4⟩:=readyGo_iff.1 h1;unfold standB at hs;rw[List.all_eq_true] at hs;refine⟨fun k hk hkp=> ?_,?_⟩
 ·by_cases e:k=n
  ·subst e;rw[hsn];unfold endV;rw[hsn];refine⟨by omega,(fits_iff.1 h2).1,off_of_fits h2,fun q hq=> ?_⟩;have hq1:=hs q hq;rw[hpk _ (hne _ hq1),hsk _ (hne _ hq1)];exact⟨hq1,h4 q hq⟩
  ·rw[hpk k e] at hkp;obtain⟨a1,a2,a3,a4⟩:=hK.at' k hk hkp;unfold endV;rw[hsk k e];refine⟨a1,a2,a3,fun q hq=> ?_⟩;obtain⟨b1,b2⟩:=a4 q hq;rw[hpk _ (hne _ b1),hsk _ (hne _ b1)];exact⟨b1,b2⟩
 ·refine cap_put hG hn hK.cap (fun m k _ hk=> ?_) (fun m=> ?_) (fun m=> ?_) h2
  ·unfold runsB endV;rw[hpk k hk,hsk k hk]
  ·unfold runsB;rw[hp];rfl
  ·unfold runsB endV;rw[hpn,hsn]
   by_cases h8:s<=m<;>by_cases h7:m<s+(j.tasks.getD n default).takes<;>simp only[h8,h7,decide_true,decide_false,Bool.and_true,Bool.and_false,and_self,and_false,false_and]
theorem serialGo_spec {j:JobP} (hG:JGood j) {fr:Int} {order:List Int} (h0:0<=fr) (hord:∀x∈order,0<=x/\x<j.tasks.length):∀(f:Nat) (b bF:Bd),BLen j b->serialGo j fr order f b=(true,bF) →
  (KeepB j b->KeepB j bF)/\BLe b bF/\BLen j bF/\∀n,n<j.tasks.length->b.pl.getD n false=false->bF.pl.getD n false=true->∃b1,BLe b b1/\BLe b1 bF/\b1.pl.getD n false=false/\standB b1.pl (j.tasks.getD n default).needs=true/\placeV j b1 fr n=some (bF.st.getD n 0)
 | 0,b,bF,hl,h=>by
  simp only[serialGo,Prod.mk.injEq,true_and] at h;subst h;exact⟨id,BLe.refl _,hl,fun n _ h1 h2=>by rw[h1] at h2;cases h2⟩
 | f+1,b,bF,hl,h=>by
  cases hf:order.find? (fun n=>mayB j b.pl n.toNat) with
  | none=>
   rw[serialGo_none hf] at h;simp only[Prod.mk.injEq,true_and] at h;subst h;exact⟨id,BLe.refl _,hl,fun n _ h1 h2=>by rw[h1] at h2;cases h2⟩
  | some x=>
   have hx:=hord x (List.mem_of_find?_eq_some hf);have hm:=may_parts.1 (show mayB j b.pl x.toNat=true from by have h9:=List.find?_some hf;exact h9);have hxn:x.toNat<j.tasks.length:=by omega
   cases hv:placeV j b fr x.toNat with
   | none=>rw[serialGo_no hf hv] at h;cases h
   | some s=>
    rw[serialGo_put hf hv] at h;obtain⟨i1,i2,i3,i4⟩:=serialGo_spec hG h0 hord f _ bF (hl.put _ _) h;have hle:=ble_put (s:=s) hm.1;refine⟨fun hK=>i1 (keep_put hG hxn hl hm.1 hm.2 h0 hK hv),hle.trans i2,i3,fun n hn h1 h2=> ?_⟩
    by_cases e:n=x.toNat
    ·subst e;refine⟨b,BLe.refl _,hle.trans i2,h1,hm.2,?_⟩;have h3:=(i2 x.toNat (getD_set_eq (by rw[hl.2];exact hn))).2;rw[h3,hv]
     congr 1
     exact(getD_set_eq (by rw[hl.1];exact hn)).symm
    ·obtain⟨b1,j1,j2,j3,j4,j5⟩:=i4 n hn (by show(b.pl.set x.toNat true).getD n false=false;rw[getD_set_ne e];exact h1) h2;exact⟨b1,hle.trans j1,j2,j3,j4,j5⟩
theorem some_may {j:JobP} (h:jobErr j=0) {pl:List Bool}:∀(d n:Nat),rankOf j n<=d->n<j.tasks.length->pl.getD n false=false->∃k,k<j.tasks.length/\mayB j pl k=true
 | d,n,hd,hn,hp=>by
  by_cases hs:standB pl (j.tasks.getD n default).needs=true
  ·exact⟨n,hn,may_parts.2 ⟨hp,hs⟩⟩
  ·unfold standB at hs;rw[List.all_eq_true] at hs;simp only[Classical.not_forall] at hs;obtain⟨q,hq,hqp⟩:=hs;have h1:=rank_needs h hn hq;have h2:=(good_of h).needs _ (tk_mem hn) q hq
   match d,hd with
   | 0,hd=>exact absurd h1 (by omega)
   | d+1,hd=>exact some_may h d q.toNat (by omega) (by omega) (Bool.eq_false_iff.2 hqp)
theorem serialGo_all {j:JobP} (h:jobErr j=0) {fr:Int} {order:List Int} (hord:∀x∈order,0<=x/\x<j.tasks.length):∀(f:Nat) (b bF:Bd),BLen j b->notPl b.pl<=f->(∀n,n<j.tasks.length->b.pl.getD n false=false->(n:Int)∈order)->serialGo j fr order f b=(true,bF) →
  ∀n,n<j.tasks.length->bF.pl.getD n false=true
 | 0,b,bF,hl,hf,_,hs,n,hn=>by
  simp only[serialGo,Prod.mk.injEq,true_and] at hs;subst hs;have h1:b.pl.count false=0:=by unfold notPl at hf;omega
  have h2:=List.count_eq_zero.1 h1;rw[zA,zB (by rw[hl.2];exact hn)];cases h3:b.pl[n]'(by rw[hl.2];exact hn)
  ·exact absurd (h3▸zC _) h2
  ·rfl
 | f+1,b,bF,hl,hf,hin,hs,n,hn=>by
  cases hfi:order.find? (fun n=>mayB j b.pl n.toNat) with
  | none=>
   rw[serialGo_none hfi] at hs;simp only[Prod.mk.injEq,true_and] at hs;subst hs;cases hp:b.pl.getD n false
   ·obtain⟨k,hk,hm⟩:=some_may h _ n (zm _) hn hp;have h1:=hin k hk (may_parts.1 hm).1;rw[List.find?_eq_none] at hfi;exact absurd hm (hfi _ h1)
   ·rfl
  | some x=>
   have hx:=hord x (List.mem_of_find?_eq_some hfi);have hm:=may_parts.1 (show mayB j b.pl x.toNat=true from by have h9:=List.find?_some hfi;exact h9);cases hv:placeV j b fr x.toNat with
   | none=>rw[serialGo_no hfi hv] at hs;cases hs
   | some s=>
    rw[serialGo_put hfi hv] at hs;refine serialGo_all h hord f _ bF (hl.put _ _) ?_ (fun k hk hkp=> ?_) hs n hn
    ·have h1:=notPl_set (pl:=b.pl) (k:=x.toNat) (by rw[hl.2];omega) hm.1
     show notPl (b.pl.set x.toNat true)<=f
     omega
    ·refine hin k hk ?_
     by_cases e:k=x.toNat
     ·subst e;rw[show(b.put x.toNat s).pl.getD x.toNat false=true from getD_set_eq (by rw[hl.2];exact hk)] at hkp;cases hkp
     ·rw[show(b.put x.toNat s).pl.getD k false=b.pl.getD k false from getD_set_ne e] at hkp;exact hkp
theorem full_of {j:JobP} {b:Bd} (hl:BLen j b) (h:∀n,n<j.tasks.length->b.pl.getD n false=true):b=fullB j b.st:=by
 obtain⟨st,pl⟩:=b;unfold fullB
 congr 1
 apply List.ext_getElem
 ·rw[List.length_replicate];exact hl.2
 ·intro i h1 h2;have h3:=h i (by rw[<- hl.2];exact h1);simp only[zA,zB h1,Option.getD_some] at h3;rw[h3,List.getElem_replicate]
end W8
