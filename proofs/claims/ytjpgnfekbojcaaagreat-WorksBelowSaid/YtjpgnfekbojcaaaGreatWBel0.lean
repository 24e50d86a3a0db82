/- Plain laws of floors: a floor that is proved is no greater than any schedule,the greatest one is proved and is the greatest. -/
import Derived.Test.YtjpgnfekbojcaaaGreatWPrv
import Derived.Test.YtjpgnfekbojcaaaGreatWRFlo2
import Derived.Test.YtjpgnfekbojcaaaGreatWJLaw4
namespace W8
open W7
def sumT (f:Int->Int):Nat->Int
 | 0=>0
 | m+1=>sumT f m+f m
theorem sumT_add (f g:Int->Int):∀m,sumT (fun t=>f t+g t) m=sumT f m+sumT g m
 | 0=>rfl
 | m+1=>by simp only[sumT,sumT_add f g m];omega
theorem sumT_span {s e p:Int} (h0:0<=s) (hse:s<=e):∀m:Nat,sumT (fun t=>if decide (s<=t)&&decide (t<e) then p else 0) m=max 0 (min e m-s)*p
 | 0=>by
  have:max 0 (min e ((0:Nat):Int)-s)=0:=by omega
  rw[this];simp[sumT]
 | m+1=>by
  simp only[sumT];rw[sumT_span h0 hse m]
  by_cases h:s<=(m:Int)/\(m:Int)<e
  ·rw[decide_eq_true h.1,decide_eq_true h.2];have e1:max 0 (min e ((m+1:Nat):Int)-s)=max 0 (min e (m:Int)-s)+1:=by omega
   rw[e1,Int.add_mul];simp
  ·have e1:max 0 (min e ((m+1:Nat):Int)-s)=max 0 (min e (m:Int)-s):=by omega
   rw[e1]
   by_cases h1:s<=(m:Int)
   ·rw[decide_eq_false (show ¬(m:Int)<e from fun h2=>h ⟨h1,h2⟩)];simp
   ·rw[decide_eq_false h1];simp
theorem used_sum {j:JobP} (hG:JGood j) {st:List Int} {r:Int} {M:Nat} (hK:∀k,k<j.tasks.length->0<=st.getD k 0/\st.getD k 0+(j.tasks.getD k default).takes<=M):∀i,i<=j.tasks.length->sumT (fun t=>usedTo j (fullB j st) r t i) M=workTo j r i
 | 0,_=>by
  simp only[usedTo,workTo]
  have:∀m,sumT (fun _=>0) m=0:=by
   intro m
   induction m with
   | zero=>rfl
   | succ m ih=>simp only[sumT,ih];rfl
  exact this M
 | i+1,hi=>by
  have ih:=used_sum hG (st:=st) (r:=r) hK i (by omega);have hk:=hK i (by omega);have htk:=hG.takes _ (tk_mem (show i<j.tasks.length by omega));simp only[usedTo,workTo];rw[sumT_add,ih]
  congr 1
  have e1:(fun t=>if runsB j (fullB j st) t i=true then pieces r (j.tasks.getD i default).uses else 0)=fun t=>if decide (st.getD i 0<=t)&&decide (t<st.getD i 0+(j.tasks.getD i default).takes) then pieces r (j.tasks.getD i default).uses else 0:=by
   funext t
   unfold runsB;rw[full_pl (by omega),Bool.true_and]
   rfl
  rw[e1,sumT_span hk.1 (by omega)]
  congr 1
  omega
theorem off_step {m:Int}:∀ {l:List JSpan},(∀s∈l,s.lo<=s.hi)->(l.Pairwise fun a b=>a.hi<b.lo)->(¬(∃s∈l,s.lo<=m/\m<=s.hi)->offTo (m+1) l=offTo m l)/\offTo (m+1) l<=offTo m l+1
 | [],_,_=>by simp[offTo]
 | s::l,h,hp=>by
  have h1:=h s (List.mem_cons_self ..);have h2:=List.pairwise_cons.1 hp;obtain⟨i1,i2⟩:=off_step (m:=m) (l:=l) (fun x hx=>h x (List.mem_cons_of_mem _ hx)) h2.2;simp only[offTo];refine⟨fun hno=> ?_,?_⟩
  ·rw[i1 (fun⟨x,hx,h3⟩=>hno ⟨x,List.mem_cons_of_mem _ hx,h3⟩)];have: ¬(s.lo<=m/\m<=s.hi):=fun h3=>hno ⟨s,List.mem_cons_self ..,h3⟩
   omega
  ·by_cases hin:s.lo<=m/\m<=s.hi
   ·rw[i1 (fun⟨x,hx,h3⟩=>by have:=h2.1 x hx;omega)];omega
   ·omega
theorem used_room {j:JobP} (hG:JGood j) {st:List Int} (hK:KeepB j (fullB j st)) {r:Nat} (hr:r<j.res.length):∀M:Nat,sumT (fun t=>usedV j (fullB j st) r t) M<=((M:Int)-offTo M (j.res.getD r default).off)*(j.res.getD r default).many
 | 0=>by
  have hm:j.res.getD r default∈j.res:=by rw[getD_of hr];exact List.getElem_mem _
  have hg:=off_good hG hm
  have:offTo ((0:Nat):Int) (j.res.getD r default).off=0:=by
   have a1:=offTo_min (m:=0) (L:=0) hg.1 hg.2;have a2:=offTo_le (m:=0) (hG.off _ hm)
   show offTo 0 _=0
   omega
  rw[this];simp[sumT]
 | M+1=>by
  have hm:j.res.getD r default∈j.res:=by rw[getD_of hr];exact List.getElem_mem _
  have hmy:=hG.many _ hm;have ih:=used_room hG hK hr M;obtain⟨o1,o2⟩:=off_step (m:=(M:Int)) (fun s hs=>(off_good hG hm).1 s hs |>.2) (off_good hG hm).2;have hc:=hK.cap r hr M
  have hx:usedV j (fullB j st) r M<=(1-(offTo ((M:Int)+1) (j.res.getD r default).off-offTo M (j.res.getD r default).off))*(j.res.getD r default).many:=by
   by_cases hin:∃s∈(j.res.getD r default).off,s.lo<=(M:Int)/\(M:Int)<=s.hi
   ·have hz:usedV j (fullB j st) r M<=0:=by
     have h0:∀N,sumTo j (fun _=>false) r N=0:=by
      intro N
      induction N with
      | zero=>rfl
      | succ N ih=>simp only[sumTo,ih];rfl
     unfold usedV;rw[usedTo_sum,<-h0 j.tasks.length];refine sumTo_le hG (Nat.le_refl _) fun k hk hrun hp=> ?_
     obtain⟨c1,c2,c3⟩:=runs_iff.1 hrun;obtain⟨u,hu,hur,_⟩:=pieces_one (hG.nuses _ (tk_mem hk)) hp;obtain⟨s,hs,h1,h2⟩:=hin;unfold endV at c3;rcases (hK.at' k hk (full_pl hk)).2.2.1 with h3 | h3
     ·omega
     ·exact absurd ⟨by omega,by omega⟩ (h3 u hu s (by rw[hur];exact hs))
    have:0<=(1-(offTo ((M:Int)+1) (j.res.getD r default).off-offTo M (j.res.getD r default).off))*(j.res.getD r default).many:=Int.mul_nonneg (by omega) hmy.1;omega
   ·rw[o1 hin];have:(1-(offTo (M:Int) (j.res.getD r default).off-offTo M (j.res.getD r default).off))=1:=by omega
    rw[this];omega
  simp only[sumT]
  have e1:(((M+1:Nat):Int)-offTo ((M+1:Nat):Int) (j.res.getD r default).off)*(j.res.getD r default).many=((M:Int)-offTo M (j.res.getD r default).off)*(j.res.getD r default).many+(1-(offTo ((M:Int)+1) (j.res.getD r default).off-offTo M (j.res.getD r default).off))*(j.res.getD r default).many:=by
   rw[<- Int.add_mul]
   congr 1
   rw[Int.natCast_add,Int.natCast_one];omega
  rw[e1];omega
theorem len_ge {j:JobP} {st:List Int}:∀i k,k<i->st.getD k 0+(j.tasks.getD k default).takes<=lenTo j st i
 | 0,_,h=>absurd h (by omega)
 | i+1,k,h=>by
  simp only[lenTo]
  by_cases e:k=i
  ·subst e;omega
  ·have:=len_ge (j:=j) (st:=st) i k (by omega);omega
theorem len_nn {j:JobP} {st:List Int}:∀i,0<=lenTo j st i
 | 0=>Int.le_refl _
 | i+1=>by have:=len_nn (j:=j) (st:=st) i;simp only[lenTo];omega
def LinkF (j:JobP):Int->List Int->Prop
 | _,[]=>True
 | last,x::c=>(0<=x/\x<j.tasks.length)/\(last<0\/last∈(j.tasks.getD x.toNat default).needs)/\LinkF j x c
def sumL (j:JobP):List Int->Int
 | []=>0
 | x::c=>(j.tasks.getD x.toNat default).takes+sumL j c
theorem sumL_app {j:JobP} (x:Int):∀c,sumL j (c++[x])=sumL j c+(j.tasks.getD x.toNat default).takes
 | []=>by simp[sumL]
 | y::c=>by simp only[List.cons_append,sumL,sumL_app x c];omega
theorem sumC_take {j:JobP} {c:List Int}:∀i,i<=c.length->sumC j c i=sumL j (c.take i)
 | 0,_=>by simp[sumC,sumL]
 | i+1,h=>by
  have e:c.getD i 0=c[i]'(by omega):=by rw[List.getD_eq_getElem?_getD,List.getElem?_eq_getElem (by omega)];rfl
  simp only[sumC];rw[sumC_take i (by omega),List.take_succ_eq_append_getElem (by omega),sumL_app,e]
theorem sumC_all {j:JobP} {c:List Int}:sumC j c c.length=sumL j c:=by
 rw[sumC_take _ (Nat.le_refl _),List.take_length]
theorem link_of {j:JobP} {c:List Int} (h:∀i,i<c.length->linkB j c i=true):∀(d k:Nat),c.length-k=d->k<=c.length->LinkF j (if k=0 then -1 else c.getD (k-1) 0) (c.drop k)
 | 0,k,hd,hk=>by rw[List.drop_of_length_le (by omega)];trivial
 | d+1,k,hd,hk=>by
  have hkl:k<c.length:=by omega
  have e:c.getD k 0=c[k]:=by rw[List.getD_eq_getElem?_getD,List.getElem?_eq_getElem hkl];rfl
  have ih:=link_of h d (k+1) (by omega) (by omega);rw[if_neg (by omega),Nat.add_sub_cancel,e] at ih;have h1:=h k hkl;unfold linkB at h1;rw[e,Bool.and_eq_true] at h1;have h2:=withinB_true.1 h1.1;rw[List.drop_eq_getElem_cons hkl];refine⟨⟨h2.1,by omega⟩,?_,ih⟩
  by_cases hk0:k=0
  ·rw[if_pos hk0];exact .inl (by decide)
  ·rw[if_neg hk0]
   right
   have h3:=h1.2;rw[decide_eq_false hk0,Bool.false_or,List.any_eq_true] at h3;obtain⟨y,hy,h4⟩:=h3;rw[<- eq_of_beq h4];exact hy
theorem link_to {j:JobP}:∀ {c:List Int} {last:Int} (pre:List Int),LinkF j last c->(∀i,i<pre.length->linkB j (pre++c) i=true)->(pre=[]/\last<0\/∃p,pre=p++[last]/\0<=last)->∀i,i<(pre++c).length->linkB j (pre++c) i=true
 | [],last,pre,_,hp,_,i,hi=>hp i (by simpa using hi)
 | x::c,last,pre,h,hp,hl,i,hi=>by
  obtain⟨h1,h2,h3⟩:=h;have e1:(pre++x::c).getD pre.length 0=x:=by simp[List.getD_eq_getElem?_getD]
  have hx:linkB j (pre++x::c) pre.length=true:=by
   unfold linkB;rw[e1,Bool.and_eq_true];refine⟨withinB_true.2 ⟨h1.1,by omega⟩,?_⟩;rcases hl with⟨hl,_⟩ | ⟨p,hl,h0⟩
   ·rw[hl];rfl
   ·rw[Bool.or_eq_true]
    right
    rw[List.any_eq_true];refine⟨last,h2.resolve_left (by omega),?_⟩;rw[hl];simp[List.getD_eq_getElem?_getD]
  have:=link_to (c:=c) (last:=x) (pre++[x]) h3 (fun k hk=>by
   rw[List.append_assoc,List.singleton_append];rw[List.length_append,List.length_singleton] at hk
   by_cases e:k=pre.length
   ·rw[e];exact hx
   ·exact hp k (by omega)) (.inr ⟨pre,rfl,h1.1⟩) i (by simpa using hi)
  rwa [List.append_assoc,List.singleton_append] at this
theorem chain_low {j:JobP} {st:List Int} (hK:KeepB j (fullB j st)):∀ {c:List Int} {last:Int} {s:Int},LinkF j last c->s<=lenOf j st->(last<0/\s<=0\/0<=last/\s<=st.getD last.toNat 0+(j.tasks.getD last.toNat default).takes)->s+sumL j c<=lenOf j st
 | [],last,s,_,h,_=>by simp only[sumL];omega
 | x::c,last,s,⟨h1,h2,h3⟩,h,hl=>by
  have hx:x.toNat<j.tasks.length:=by omega
  obtain⟨a1,_,_,a4⟩:=hK.at' x.toNat hx (full_pl hx);have a1':0<=st.getD x.toNat 0:=a1
  have hs:s<=st.getD x.toNat 0:=by
   rcases hl with⟨_,hl⟩ | ⟨h0,hl⟩
   ·omega
   ·have h5:=(a4 last (h2.resolve_left (by omega))).2;have h5':st.getD last.toNat 0+(j.tasks.getD last.toNat default).takes<=st.getD x.toNat 0:=h5;omega
  have hle:=len_ge (j:=j) (st:=st) j.tasks.length x.toNat hx;have:=chain_low hK (c:=c) (last:=x) (s:=s+(j.tasks.getD x.toNat default).takes) h3 (by unfold lenOf;omega) (.inr ⟨h1.1,by omega⟩);simp only[sumL];omega
theorem proves_low {j:JobP} (hG:JGood j) {m r:Int} {c st:List Int} (h:provesB j m c r=true) (hK:KeepB j (fullB j st)):m<=lenOf j st:=by
 have h0:0<=lenOf j st:=len_nn _
 by_cases hm:m<=0
 ·omega
 by_cases hc:c.length=0
 ·rw[prv_res hm hc,Bool.and_eq_true,decide_eq_true_eq] at h;obtain⟨h1,h2⟩:=h;have h1:=withinB_true.1 h1;obtain⟨q,hq⟩:∃q:Nat,r=q:=⟨r.toNat,by omega⟩
  subst hq;have hq:q<j.res.length:=by omega
  have hmr:j.res.getD q default∈j.res:=by rw[getD_of hq];exact List.getElem_mem _
  rw[Int.toNat_natCast] at h2;obtain⟨M,hM⟩:∃M:Nat,lenOf j st=M:=⟨(lenOf j st).toNat,by omega⟩
  have hw:=used_sum hG (st:=st) (r:=(q:Int)) (M:=M) (fun k hk=>⟨(hK.at' k hk (full_pl hk)).1,by
   have:=len_ge (j:=j) (st:=st) j.tasks.length k hk;unfold lenOf at hM;omega⟩) j.tasks.length (Nat.le_refl _)
  have hr:=used_room hG hK hq M
  have hR:((M:Int)-offTo M (j.res.getD q default).off)*(j.res.getD q default).many<=roomV (j.res.getD q default) M:=by
   unfold roomV;refine Int.mul_le_mul_of_nonneg_right ?_ (hG.many _ hmr).1
   have:(M:Int)<=100000:=by
    rw[<- hM]
    have:∀i,i<=j.tasks.length->lenTo j st i<=100000:=by
     intro i
     induction i with
     | zero=>intro _;simp[lenTo]
     | succ i ih=>
      intro hi;have h5:st.getD i 0+(j.tasks.getD i default).takes<=100000:=(hK.at' i (by omega) (full_pl (by omega))).2.1;have:=ih (by omega);simp only[lenTo];omega
    exact this _ (Nat.le_refl _)
   omega
  have hws:workV j q<=roomV (j.res.getD q default) M:=by
   unfold workV;rw[<- hw];exact Int.le_trans hr hR
  rw[hM];rcases Int.lt_or_le (m-1) M with h5 | h5
  ·omega
  ·have h6:=room_cut hG hmr (m-1)
   have h7:=room_mono hG hmr (m:=(M:Int)) (m':=min (m-1) 1099511627776) (by omega) (by
    have:(M:Int)<=1099511627776\/1099511627776<(M:Int):=by omega
    rcases this with h8 | h8
    ·omega
    ·exfalso
     have:∀i,i<=j.tasks.length->lenTo j st i<=100000:=by
      intro i
      induction i with
      | zero=>intro _;simp[lenTo]
      | succ i ih=>
       intro hi;have h5:st.getD i 0+(j.tasks.getD i default).takes<=100000:=(hK.at' i (by omega) (full_pl (by omega))).2.1;have:=ih (by omega);simp only[lenTo];omega
     have:=this _ (Nat.le_refl _);unfold lenOf at hM;omega) (by omega)
   omega
 ·rw[prv_chain hm hc,Bool.and_eq_true,List.all_eq_true,decide_eq_true_eq] at h;have h1:=link_of (fun i hi=>h.1 i (List.mem_range.2 hi)) c.length 0 (by omega) (by omega);rw[if_pos rfl,List.drop_zero] at h1;have h2:=chain_low hK h1 (s:=0) h0 (.inl ⟨by decide,by omega⟩);have h3:=h.2;rw[sumC_all] at h3;omega
theorem lonTo_ge {j:JobP} (n:Nat):∀i k,k<i->(j.tasks.getD k default).needs.contains (n:Int)=true->lonV j k<=lonTo j n i
 | 0,_,h,_=>absurd h (by omega)
 | i+1,k,h,hc=>by
  rw[lonTo_succ];unfold lonStep
  by_cases e:k=i
  ·subst e;rw[if_pos hc];omega
  ·have:=lonTo_ge (j:=j) n i k (by omega) hc
   split<;>omega
theorem lonTo_hit {j:JobP} (n:Nat) {x:Int} (hx:0<x):∀i,x<=lonTo j n i->∃k,k<i/\(j.tasks.getD k default).needs.contains (n:Int)=true/\x<=lonV j k
 | 0,h=>by simp[lonTo] at h;omega
 | i+1,h=>by
  rw[lonTo_succ] at h;unfold lonStep at h
  split at h
  ·rename_i hc
   rcases (show x<=lonTo j n i\/x<=lonV j i by omega) with h1 | h1
   ·obtain⟨k,h2,h3⟩:=lonTo_hit n hx i h1;exact⟨k,by omega,h3⟩
   ·exact⟨i,by omega,hc,h1⟩
  ·obtain⟨k,h2,h3⟩:=lonTo_hit n hx i h;exact⟨k,by omega,h3⟩
theorem longTo_ge {j:JobP}:∀i k,k<i->lonV j k<=longTo j i
 | 0,_,h=>absurd h (by omega)
 | i+1,k,h=>by
  simp only[longTo]
  by_cases e:k=i
  ·subst e;omega
  ·have:=longTo_ge (j:=j) i k (by omega);omega
theorem longTo_hit {j:JobP} {x:Int} (hx:0<x):∀i,x<=longTo j i->∃k,k<i/\x<=lonV j k
 | 0,h=>by simp[longTo] at h;omega
 | i+1,h=>by
  simp only[longTo] at h;rcases (show x<=longTo j i\/x<=lonV j i by omega) with h1 | h1
  ·obtain⟨k,h2,h3⟩:=longTo_hit hx i h1;exact⟨k,by omega,h3⟩
  ·exact⟨i,by omega,h1⟩
theorem chain_le {j:JobP} (h:jobErr j=0):∀ {c:List Int} {x:Int} {last:Int},LinkF j last (x::c)->sumL j (x::c)<=lonV j x.toNat
 | [],x,last,⟨h1,_⟩=>by
  have hG:=good_of h;have:=lonTo_le hG x.toNat j.tasks.length (Nat.le_refl _);rw[lonV_eq h];simp only[sumL];omega
 | y::c,x,last,⟨h1,_,h3⟩=>by
  have h4:=chain_le h (c:=c) (x:=y) (last:=x) h3;obtain⟨h5,h6,_⟩:=h3
  have h7:=lonTo_ge (j:=j) x.toNat j.tasks.length y.toNat (by omega) (List.contains_iff_mem.2 (by
   rw[Int.toNat_of_nonneg h1.1];exact h6.resolve_left (by omega)))
  rw[lonV_eq h];simp only[sumL] at h4 ⊢;omega
theorem chain_ok {j:JobP} (h:jobErr j=0):∀(f:Nat) (last left:Int),0<left->((last= -1/\j.tasks.length<f)\/∃q:Nat,q<j.tasks.length/\last=(q:Int)/\j.tasks.length<=f+rankOf j q)->(∃n,n<j.tasks.length/\nextB j last left n=true)->chainGo j f last left≠[]/\LinkF j last (chainGo j f last left)/\left<=sumL j (chainGo j f last left)
 | 0,last,left,_,hl,⟨n,hn,hx⟩=>by
  rcases hl with⟨_,hl⟩ | ⟨q,hq,_,hl⟩
  ·omega
  ·have:=rank_lt h hq;omega
 | f+1,last,left,h0,hl,⟨n0,hn0,hx0⟩=>by
  cases hf:(List.range j.tasks.length).find? (nextB j last left) with
  | none=>
   rw[List.find?_eq_none] at hf;exact absurd hx0 (hf n0 (List.mem_range.2 hn0))
  | some n=>
   have hx:=List.find?_some hf;have hn:=List.mem_range.1 (List.mem_of_find?_eq_some hf);have e:chainGo j (f+1) last left=(n:Int)::if left-(j.tasks.getD n default).takes<=0 then[] else chainGo j f n (left-(j.tasks.getD n default).takes):=by simp only[chainGo,hf]
   rw[e];unfold nextB at hx;simp only[Bool.and_eq_true,Bool.or_eq_true,decide_eq_true_eq] at hx;have hlk:last<0\/last∈(j.tasks.getD n default).needs:=hx.1.imp id List.contains_iff_mem.1
   by_cases hz:left-(j.tasks.getD n default).takes<=0
   ·rw[if_pos hz];refine⟨by simp,⟨⟨by omega,by omega⟩,hlk,trivial⟩,?_⟩;simp only[sumL,Int.toNat_natCast];omega
   ·rw[if_neg hz];have h1:=hx.2;rw[lonV_eq h] at h1;obtain⟨k,hk1,hk2,hk3⟩:=lonTo_hit (j:=j) n (x:=left-(j.tasks.getD n default).takes) (by omega) j.tasks.length (by omega)
    have h5:=chain_ok h f (n:Int) (left-(j.tasks.getD n default).takes) (by omega) (.inr ⟨n,hn,rfl,by
     rcases hl with⟨_,hl⟩ | ⟨q,hq,e2,hl⟩
     ·omega
     ·have h6:=rank_needs h hn (hlk.resolve_left (by omega));rw[e2,Int.toNat_natCast] at h6;omega⟩) ⟨k,hk1,by
     unfold nextB;rw[hk2,decide_eq_true hk3];simp⟩
    refine⟨by simp,⟨⟨by omega,by omega⟩,hlk,h5.2.1⟩,?_⟩;simp only[sumL,Int.toNat_natCast];omega
theorem fl_res {j:JobP} (hG:JGood j):∀q,q<=j.res.length->flTo j q=flTo j 0\/∃i,i<q/\flTo j q=⟨bisV (j.res.getD i default) (workV j i)+1,[],i⟩
 | 0,_=> .inl rfl
 | q+1,h=>by
  simp only[flTo,flStep]
  split
  ·exact .inr ⟨q,by omega,rfl⟩
  ·rcases fl_res hG q (by omega) with h1 | ⟨i,h1,h2⟩
   ·exact .inl h1
   ·exact .inr ⟨i,by omega,h2⟩
theorem fl_ge {j:JobP}:∀q i,i<q->bisV (j.res.getD i default) (workV j i)+1<=(flTo j q).minutes
 | 0,_,h=>absurd h (by omega)
 | q+1,i,h=>by
  simp only[flTo,flStep]
  by_cases e:i=q
  ·subst e
   split
   ·exact Int.le_refl _
   ·omega
  ·have:=fl_ge (j:=j) q i (by omega)
   split
   ·show _<=bisV _ _+1;omega
   ·exact this
theorem floor_nn {j:JobP} (h:jobErr j=0):0<=(floorV j).minutes/\(floorV j).minutes<=100001:=by
 unfold floorV;rw[if_neg (by simpa using h)]
 split
 ·exact⟨Int.le_refl _,by decide⟩
 ·have:=fl_min (good_of h) j.res.length;have:=fl_max (good_of h) j.res.length (Nat.le_refl _);omega
theorem floor_proved {j:JobP} (h:jobErr j=0):provesB j (floorV j).minutes (floorV j).chain (floorV j).res=true:=by
 have hG:=good_of h
 by_cases hm:(floorV j).minutes<=0
 ·exact prv_pos hm
 unfold floorV at hm ⊢;rw[if_neg (by simpa using h)] at hm ⊢
 by_cases hn:j.tasks.length=0
 ·rw[if_pos hn] at hm;exact absurd (Int.le_refl _) hm
 rw[if_neg hn] at hm ⊢;rcases fl_res hG j.res.length (Nat.le_refl _) with h1 | ⟨i,hi,h1⟩
 ·rw[h1] at hm ⊢;have hm': ¬longV j<=0:=hm
  show provesB j (longV j) (chainV j (longV j)) 0=true
  obtain⟨k,hk,hk2⟩:=longTo_hit (j:=j) (x:=longV j) (by omega) j.tasks.length (by unfold longV;omega);obtain⟨c1,c2,c3⟩:=chain_ok h (j.tasks.length+1) (-1) (longV j) (by omega) (.inl ⟨rfl,by omega⟩) ⟨k,hk,by unfold nextB;rw[decide_eq_true hk2];simp⟩;have e:chainGo j (j.tasks.length+1) (-1) (longV j)=chainV j (longV j):=rfl;rw[e] at c1 c2 c3;rw[prv_chain hm' (by rw[List.length_eq_zero_iff];exact c1),Bool.and_eq_true,List.all_eq_true,decide_eq_true_eq,sumC_all];refine⟨fun i hi=> ?_,c3⟩;have:=link_to (j:=j) (c:=chainV j (longV j)) (last:= -1) [] c2 (fun i hi=>absurd hi (by simp)) (.inl ⟨rfl,by decide⟩) i (by simpa using hi)
  simpa using this
 ·rw[h1] at hm ⊢;have hm': ¬bisV (j.res.getD i default) (workV j i)+1<=0:=hm
  show provesB j (bisV (j.res.getD i default) (workV j i)+1) [] i=true
  rw[prv_res hm' rfl,Bool.and_eq_true,decide_eq_true_eq];refine⟨withinB_true.2 ⟨by omega,by omega⟩,?_⟩;rw[Int.toNat_natCast,show bisV (j.res.getD i default) (workV j i)+1-1=bisV (j.res.getD i default) (workV j i) by omega];exact(bisV_ok hG (by rw[getD_of hi];exact List.getElem_mem _) (workV j i)).2.2.1 _ (by omega) (Int.le_refl _)
theorem floor_top {j:JobP} (h:jobErr j=0) {m r:Int} {c:List Int} (hp:provesB j m c r=true) (hlt:(floorV j).minutes<m):100000<m/\100000<(floorV j).minutes:=by
 have hG:=good_of h;have h0:=floor_nn h;have hm: ¬m<=0:=by omega
 have hfl: ¬j.tasks.length=0->floorV j=flTo j j.res.length:=fun hn=>by
  unfold floorV;rw[if_neg (by simpa using h),if_neg hn]
 by_cases hc:c.length=0
 ·rw[prv_res hm hc,Bool.and_eq_true,decide_eq_true_eq] at hp;have h1:=withinB_true.1 hp.1;obtain⟨q,hq⟩:∃q:Nat,r=q:=⟨r.toNat,by omega⟩
  subst hq;have hq:q<j.res.length:=by omega
  have hmr:j.res.getD q default∈j.res:=by rw[getD_of hq];exact List.getElem_mem _
  have hp2:=hp.2;rw[Int.toNat_natCast] at hp2
  by_cases hn:j.tasks.length=0
  ·have:workV j q=0:=by unfold workV;rw[hn];rfl
   have:=room_nn hG hmr (m-1);omega
  rw[hfl hn] at hlt h0 ⊢;have hge:=fl_ge (j:=j) j.res.length q hq;obtain⟨b1,b2,b3,b4⟩:=bisV_ok hG hmr (workV j q);rcases Int.lt_or_le 100000 (m-1) with h5 | h5
  ·have h6:=room_cut hG hmr (m-1);have h7:=room_mono hG hmr (m:=100000) (m':=min (m-1) 1099511627776) (by omega) (by omega) (by omega);rcases Int.lt_or_le (bisV (j.res.getD q default) (workV j q)) 100000 with h8 | h8
   ·exact absurd (show roomV (j.res.getD q default) 100000<workV j q by omega) (b4 100000 h8 (by omega))
   ·omega
  ·exact absurd hp2 (b4 (m-1) (by omega) h5)
 ·rw[prv_chain hm hc,Bool.and_eq_true,List.all_eq_true,decide_eq_true_eq] at hp;have h1:=link_of (fun i hi=>hp.1 i (List.mem_range.2 hi)) c.length 0 (by omega) (by omega);rw[if_pos rfl,List.drop_zero] at h1;have h3:=hp.2;rw[sumC_all] at h3
  match c,hc,h1,h3 with
  | [],hc,_,_=>exact absurd rfl hc
  | x::c,_,h1,h3=>
   have h4:=chain_le h h1;have hx:=h1.1;have hn: ¬j.tasks.length=0:=by omega
   rw[hfl hn] at hlt h0 ⊢;have h5:=longTo_ge (j:=j) j.tasks.length x.toNat (by omega);have h6:=(fl_min hG j.res.length).2.1;have h7:longV j=min (longTo j j.tasks.length) 100001:=rfl;omega
end W8
