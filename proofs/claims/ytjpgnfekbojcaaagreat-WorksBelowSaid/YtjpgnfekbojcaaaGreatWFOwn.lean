/- A job whose rows are the call's own: as a job in memory;with other spans at a resource. -/
import Derived.Test.YtjpgnfekbojcaaaGreatWFTw
import Derived.Sort.LotA
import Derived.Sort.OwnSorted
namespace W8
open Go
def Res.putOff (r:Res) (off:List JSpan) (A:Option Addr) (c:Nat):Res:=⟨{ r.p with off:=off },A,c⟩
def Job.putOff (j:Job) (q:Nat) (off:List JSpan) (A:Option Addr) (c:Nat):Job:={ j with res:=j.res.set q ((j.R q).putOff off A c) }
end W8
namespace Go.Proofs.YtjpgnfekbojcaaaGreat
open Go.RowKit W7 W8
theorem sl_own {X:World} {base e k n c:Nat} {A:Option Addr} {α:Type} {enc:α->List Value} {xs:List α} (h:X.ownsRow base e k (.slice A n c) n (xs.flatMap enc)) (hk:∀x,(enc x).length=k) (hk0:0<k):Sl X X.heap.size k enc A xs:=fun h0=>by
 have hl:(xs.flatMap enc).length=xs.length*k:=by
  clear h h0
  induction xs with
  | nil=>simp
  | cons a r ih=>rw[List.flatMap_cons,List.length_append,ih,hk,List.length_cons,Nat.succ_mul];omega
 have hn:n*k=xs.length*k:=by rw[<- hl];exact h.1.symm
 have hnx:n=xs.length:=Nat.eq_of_mul_eq_mul_right hk0 hn
 obtain⟨g,rfl⟩:∃g,A=some ⟨g,0,none⟩:=by
  rcases h.2 with⟨e0,h1⟩ | ⟨g,cap,cur,e0,_⟩
  ·omega
  ·injection e0 with e1 _ _;exact⟨g,e1⟩
 refine⟨g,0,rfl,(h.lt g rfl).2,fun i hi m v hv=> ?_⟩;have hm:m<k:=by have:=(List.getElem?_eq_some_iff.1 hv).1;rwa [hk] at this
 have h2:(xs.flatMap enc)[i*k+m]? =some v:=by rw[flatMap_get hk xs i m hi hm];exact hv
 have h3:i*k+m<n*k:=by
  rw[hn];have:(i+1)*k<=xs.length*k:=Nat.mul_le_mul_right k hi;rw[Nat.add_mul] at this;omega
 rw[Nat.zero_add];exact(h.cellAt _ h3).trans h2
theorem lenT:∀t:Task,(encTask t).length=4:=fun _=>rfl
theorem lenR:∀t:Res,(encRes t).length=3:=fun _=>rfl
theorem own_caps {X:World} {base e k n c:Nat} {A:Option Addr} {xs:List Value} (h:X.ownsRow base e k (.slice A n c) n xs):n<=c/\c<=9223372036854775807:=by
 obtain⟨A',c',e1,h1,h2⟩:=own_cap' h
 injection e1 with _ _ e3
 subst e3;exact⟨h1,h2⟩
theorem JOwn.jin {X:World} {base:Nat} {j:Job} (h:JOwn X base j):JIn X X.heap.size j:=
 ⟨sl_own h.tk.row lenT (by omega),sl_own h.rs.row lenR (by omega),(own_caps h.tk.row).1,(own_caps h.tk.row).2,(own_caps h.rs.row).1,(own_caps h.rs.row).2,
  fun t ht=>⟨(h.tk.tk t ht).nm,sl_own (h.tk.tk t ht).ns lenI (by omega),sl_own (h.tk.tk t ht).us lenU (by omega),(own_caps (h.tk.tk t ht).ns).1,(own_caps (h.tk.tk t ht).ns).2,(own_caps (h.tk.tk t ht).us).1,(own_caps (h.tk.tk t ht).us).2⟩,
  fun r hr=>⟨(h.rs.rs r hr).nm,sl_own (h.rs.rs r hr).os lenP (by omega),(own_caps (h.rs.rs r hr).os).1,(own_caps (h.rs.rs r hr).os).2⟩⟩
theorem JOwn.below {X Y:World} {base:Nat} {j:Job} (h:JOwn X base j) (hb:Bl X Y):JOwn Y base j:=
 ⟨⟨own_below h.tk.row hb,fun t ht=>⟨own_below (h.tk.tk t ht).ns hb,own_below (h.tk.tk t ht).us hb,(h.tk.tk t ht).nm⟩⟩,⟨own_below h.rs.row hb,fun r hr=>⟨own_below (h.rs.rs r hr).os hb,(h.rs.rs r hr).nm⟩⟩⟩
theorem JOwn.setB {X:World} {base b k:Nat} {j:Job} (h:JOwn X base j) (hb:b<base) (u:Value):JOwn (X.setCell ⟨b,k,none⟩ u) base j:=
 ⟨⟨ownsRow_setCell_below h.tk.row hb u,fun t ht=>⟨ownsRow_setCell_below (h.tk.tk t ht).ns hb u,ownsRow_setCell_below (h.tk.tk t ht).us hb u,(h.tk.tk t ht).nm⟩⟩,⟨ownsRow_setCell_below h.rs.row hb u,fun r hr=>⟨ownsRow_setCell_below (h.rs.rs r hr).os hb u,(h.rs.rs r hr).nm⟩⟩⟩
theorem own_nil0 {w:World} {base e size n c:Nat} {A:Option Addr} {xs:List Value} (h:w.ownsRow base e size (.slice A n c) n xs) (hA:A=none):n=0/\c=0:=by
 subst hA;rcases h.2 with⟨e0,_⟩ | ⟨g,cap,cur,e0,_⟩
 ·cases e0;exact⟨rfl,rfl⟩
 ·cases e0
theorem encRs_set:∀(l:List Res) (i:Nat) (_:i<l.length) (off:List JSpan) (A:Option Addr) (c:Nat),(l.flatMap encRes).set (i*3+2) (.slice A off.length c)=(l.set i ((l.getD i default).putOff off A c)).flatMap encRes
 | [],_,h,_,_,_=>absurd h (by simp)
 | x::l,0,_,off,A,c=>rfl
 | x::l,i+1,h,off,A,c=>by
  have ih:=encRs_set l i (by simpa using h) off A c
  show([Value.string x.p.name,.int .i64 x.p.many,.slice x.OA x.p.off.length x.oc]++l.flatMap encRes).set ((i+1)*3+2) _=[Value.string x.p.name,.int .i64 x.p.many,.slice x.OA x.p.off.length x.oc]++(l.set i _).flatMap encRes
  rw[show(i+1)*3+2=(i*3+2)+1+1+1 by omega];simp only[List.cons_append,List.nil_append,List.set_cons_succ];rw[ih];rfl
theorem JOwn.put {X:World} {base q g c:Nat} {j:Job} {off:List JSpan} {A:Option Addr} (h:JOwn X base j) (hq:q<j.res.length) (hg:j.RA=some ⟨g,0,none⟩) (ho:X.ownsRow base 50 2 (.slice A off.length c) off.length (off.flatMap encJSpan)) :
  JOwn (X.setCell ⟨g,q*3+2,none⟩ (.slice A off.length c)) base (j.putOff q off A c):=by
 have hr:=h.rs.row;rw[hg] at hr;obtain⟨cs,hcs⟩:=owns_block hr g rfl;have hk:∀ {e k m:Nat} {u:Value} {xs:List Value},X.ownsRow base e k u m xs->e≠43->(X.setCell ⟨g,q*3+2,none⟩ (.slice A off.length c)).ownsRow base e k u m xs:=fun h hne=>own_setK h hcs (Ne.symm hne) _
 refine⟨⟨hk h.tk.row (by decide),fun t ht=>⟨hk (h.tk.tk t ht).ns (by decide),hk (h.tk.tk t ht).us (by decide),(h.tk.tk t ht).nm⟩⟩,⟨?_,fun r hr'=> ?_⟩⟩
 ·obtain⟨h1,_⟩:=hr.stored (q*3+2) (.slice A off.length c);rw[encRs_set _ _ hq] at h1
  show(X.setCell ⟨g,q*3+2,none⟩ (.slice A off.length c)).ownsRow base 43 3 (.slice j.RA (j.res.set q _).length j.rc) (j.res.set q _).length _
  rw[List.length_set,hg];exact h1
 ·rcases List.mem_or_eq_of_mem_set hr' with h1 | h1
  ·exact⟨hk (h.rs.rs r h1).os (by decide),(h.rs.rs r h1).nm⟩
  ·rw[h1];exact⟨hk ho (by decide),(h.rs.rs _ (j.R_mem hq)).nm⟩
theorem putOff_p {j:Job} {q c:Nat} {off:List JSpan} {A:Option Addr}:(j.putOff q off A c).p=⟨j.p.tasks,j.p.res.set q { j.p.res.getD q default with off:=off }⟩:=by
 unfold Job.putOff Job.p;simp only[List.map_set]
 congr 2
 have:=j.pR q;unfold Job.p at this;simp only at this;rw[this]
 rfl
end Go.Proofs.YtjpgnfekbojcaaaGreat
namespace W8
open Go.Sort
variable {α:Type} [Inhabited α] {lt lu:α->α->Bool}
theorem outer_go (a b i:Nat) (d:Array α) (h:i<b):insOuter lt a b i d=insOuter lt a b (i+1) (insInner lt a i d):=by rw[insOuter,if_pos h]
theorem outer_stop (a b i:Nat) (d:Array α) (h: ¬i<b):insOuter lt a b i d=d:=by rw[insOuter,if_neg h]
theorem inner_congr:∀(j:Nat) (d:Array α),j<d.size->(∀p,p<j->lt d[j]! d[p]! =lu d[j]! d[p]!)->insInner lt 0 j d=insInner lu 0 j d
 | 0,d,_,_=>rfl
 | j+1,d,hj,h=>by
  simp only[insInner];rw[h j (by omega)]
  split
  ·have g:=swp_get d hj (show j<d.size by omega);refine inner_congr j _ (by rw[swp_size];omega) (fun p hp=> ?_);rw[g,g];simp only[if_true,show p≠j by omega,show p≠j+1 by omega,if_false];have:=h p (by omega)
   by_cases hjj:j=j+1
   ·omega
   ·simpa [hjj] using this
  ·rfl
theorem inner_above:∀(j:Nat) (d:Array α) (q:Nat),j<d.size->j<q->(insInner lt 0 j d)[q]! =d[q]!
 | 0,d,q,_,_=>rfl
 | j+1,d,q,hj,hq=>by
  simp only[insInner]
  split
  ·rw[inner_above j _ q (by rw[swp_size];omega) (by omega),swp_other d (j+1) j q (by omega) (by omega)]
  ·rfl
theorem inner_size:∀(j:Nat) (d:Array α),(insInner lt 0 j d).size=d.size
 | 0,d=>rfl
 | j+1,d=>by
  simp only[insInner]
  split
  ·rw[inner_size j _,swp_size]
  ·rfl
theorem inner_from:∀(j:Nat) (d:Array α) (p:Nat),j<d.size->p<=j->∃p',p'<=j/\(insInner lt 0 j d)[p]! =d[p']!
 | 0,d,p,_,hp=>⟨p,hp,rfl⟩
 | j+1,d,p,hj,hp=>by
  simp only[insInner]
  split
  ·have g:=swp_get d hj (show j<d.size by omega)
   by_cases he:p<=j
   ·obtain⟨p',h1,h2⟩:=inner_from j (swp d (j+1) j) p (by rw[swp_size];omega) he;rw[h2,g]
    by_cases hj1:p'=j
    ·exact⟨j+1,Nat.le_refl _,by first | rw[if_pos hj1] | rw[if_neg (by omega),if_pos hj1]⟩
    ·exact⟨p',by omega,by rw[if_neg (by omega),if_neg (by omega)]⟩
   ·have hpe:p=j+1:=by omega
    subst hpe;rw[inner_above j _ (j+1) (by rw[swp_size];omega) (by omega),g];exact⟨j,by omega,by simp⟩
  ·exact⟨p,hp,rfl⟩
structure From (o d:Array α) (i:Nat):Prop where
 size:d.size=o.size
 lo:∀p,p<i->∃p',p'<i/\d[p]! =o[p']!
 hi:∀q,i<=q->d[q]! =o[q]!
theorem From.step {o d:Array α} {i:Nat} (h:From o d i) (hi:i<o.size):From o (insInner lt 0 i d) (i+1):=by
 have hid:i<d.size:=by rw[h.size];exact hi
 refine⟨by rw[inner_size,h.size],fun p hp=> ?_,fun q hq=>by rw[inner_above i d q hid (by omega),h.hi q (by omega)]⟩;obtain⟨p',h1,h2⟩:=inner_from (lt:=lt) i d p hid (by omega);rw[h2]
 by_cases he:p'=i
 ·exact⟨i,by omega,by rw[he,h.hi i (Nat.le_refl _)]⟩
 ·obtain⟨p'',h3,h4⟩:=h.lo p' (by omega);exact⟨p'',by omega,h4⟩
theorem outer_congr {o:Array α} (ho:∀p q,p<q->q<o.size->lt o[q]! o[p]! =lu o[q]! o[p]!):∀(k i:Nat) (d:Array α),o.size-i=k->From o d i->insOuter lt 0 o.size i d=insOuter lu 0 o.size i d
 | 0,i,d,hk,h=>by rw[outer_stop _ _ _ _ (by omega),outer_stop _ _ _ _ (by omega)]
 | k+1,i,d,hk,h=>by
  have hi:i<o.size:=by omega
  rw[outer_go _ _ _ _ hi,outer_go _ _ _ _ hi]
  have he:insInner lt 0 i d=insInner lu 0 i d:=inner_congr i d (by rw[h.size];exact hi) (fun p hp=>by
   obtain⟨p',h1,h2⟩:=h.lo p hp;rw[h2,h.hi i (Nat.le_refl _)];exact ho p' i (by omega) hi)
  rw[<- he];exact outer_congr ho k (i+1) _ (by omega) (h.step hi)
theorem ins_congr {o:Array α} (ho:∀p q,p<q->q<o.size->lt o[q]! o[p]! =lu o[q]! o[p]!):insertionSort lt o 0 o.size=insertionSort lu o 0 o.size:=by
 unfold insertionSort
 by_cases h0:o.size<=1
 ·rw[outer_stop _ _ _ _ (by omega),outer_stop _ _ _ _ (by omega)]
 ·exact outer_congr ho _ 1 o rfl ⟨rfl,fun p hp=>⟨p,hp,rfl⟩,fun _ _=>rfl⟩
theorem perm_pair_eq {α:Type} {R:α->α->Prop} (ha:∀a b,R a b->R b a->a=b):∀ {l l':List α},l.Perm l'->l.Pairwise R->l'.Pairwise R->l=l'
 | [],l',hp,_,_=>by rw[List.nil_perm.1 hp]
 | x::l,[],hp,_,_=>absurd hp.length_eq (by simp)
 | x::l,y::l',hp,h,h'=>by
  have h1:=List.pairwise_cons.1 h;have h2:=List.pairwise_cons.1 h'
  have hxy:x=y:=by
   rcases List.mem_cons.1 (hp.mem_iff.2 (List.mem_cons_self ..)) with e | e
   ·exact e.symm
   ·rcases List.mem_cons.1 (hp.mem_iff.1 (List.mem_cons_self ..)) with e' | e'
    ·exact e'
    ·exact ha x y (h1.1 y e) (h2.1 x e')
  subst hxy;rw[perm_pair_eq ha ((List.perm_cons x).1 hp) h1.2 h2.2]
def ltS (st:List Int) (x y:Int):Bool:=decide (st.getD x.toNat 0<st.getD y.toNat 0)
def luS (st:List Int) (x y:Int):Bool:=ltS st x y||(decide (st.getD x.toNat 0=st.getD y.toNat 0)&&decide (x<y))
theorem swo_luS (st:List Int):SWO (luS st) where
 irrefl x:=by simp[luS,ltS]
 trans x y z h1 h2:=by simp[luS,ltS] at *;omega
 ntrans x y z h1 h2:=by simp[luS,ltS] at *;omega
def LeS (st:List Int) (a b:Int):Prop:=luS st b a=false
theorem leS_anti {st:List Int} (a b:Int) (h1:LeS st a b) (h2:LeS st b a):a=b:=by
 simp[LeS,luS,ltS] at *;omega
theorem insO_perm (st:List Int) (x:Int):∀l:List Int,(insO st x l).Perm (x::l)
 | []=>List.Perm.refl _
 | y::l=>by
  unfold insO
  split
  ·exact List.Perm.refl _
  ·exact((insO_perm st x l).cons y).trans (List.Perm.swap x y l)
theorem insO_sorted (st:List Int) (x:Int):∀l:List Int,l.Pairwise (LeS st)->(∀y∈l,y<x)->(insO st x l).Pairwise (LeS st)
 | [],_,_=>by simp[insO]
 | y::l,h,hx=>by
  have h1:=List.pairwise_cons.1 h;have hyx:=hx y (List.mem_cons_self ..);unfold insO
  split
  ·rename_i hlt
   refine List.pairwise_cons.2 ⟨fun a ha=> ?_,h⟩;rcases List.mem_cons.1 ha with rfl | ha
   ·simp[LeS,luS,ltS] at hlt ⊢;omega
   ·have h3:=h1.1 a ha;have h4:=hx a (List.mem_cons_of_mem _ ha);simp[LeS,luS,ltS] at hlt h3 ⊢;omega
  ·rename_i hlt
   refine List.pairwise_cons.2 ⟨fun a ha=> ?_,insO_sorted st x l h1.2 (fun a ha=>hx a (List.mem_cons_of_mem _ ha))⟩;rcases List.mem_cons.1 ((insO_perm st x l).mem_iff.1 ha) with rfl | ha
   ·simp[LeS,luS,ltS] at hlt ⊢;omega
   ·exact h1.1 a ha
theorem sortO_go (st:List Int):∀(l acc:List Int),l.Pairwise (· < ·)->acc.Pairwise (LeS st)->(∀y∈acc,∀x∈l,y<x)->(l.foldl (fun acc x=>insO st x acc) acc).Perm (acc++l)/\(l.foldl (fun acc x=>insO st x acc) acc).Pairwise (LeS st)
 | [],acc,_,ha,_=>by simpa using ha
 | x::l,acc,h,ha,hx=>by
  have h1:=List.pairwise_cons.1 h;rw[List.foldl_cons]
  have ih:=sortO_go st l (insO st x acc) h1.2 (insO_sorted st x acc ha (fun y hy=>hx y hy x (List.mem_cons_self ..))) (fun y hy z hz=>by
   rcases List.mem_cons.1 ((insO_perm st x acc).mem_iff.1 hy) with rfl | hy
   ·exact h1.1 z hz
   ·exact hx y hy z (List.mem_cons_of_mem _ hz))
  refine⟨ih.1.trans ?_,ih.2⟩;exact((insO_perm st x acc).append_right l).trans (List.perm_middle.symm)
theorem sortO_ok (st:List Int) {l:List Int} (h:l.Pairwise (· < ·)):(sortO st l).Perm l/\(sortO st l).Pairwise (LeS st):=by
 have:=sortO_go st l [] h List.Pairwise.nil (fun y hy=>absurd hy (by simp))
 simpa [sortO] using this
theorem stable_eq (st:List Int) {l:List Int} (h:l.Pairwise (· < ·)):(insertionSort (ltS st) l.toArray 0 l.toArray.size).toList=sortO st l:=by
 rw[ins_congr (lu:=luS st) (fun p q hpq hq=>by
  have hq':q<l.length:=by simpa using hq
  have:=List.pairwise_iff_getElem.1 h p q (by omega) hq' hpq;rw[getElem!_pos _ q (by simpa using hq'),getElem!_pos _ p (by simp;omega)];simp only[List.getElem_toArray];unfold luS;rw[decide_eq_false (show ¬l[q]<l[p] by omega)];simp)]
 have h1:=insertionSort_holds (lt:=luS st) (swo_luS st) l.toArray 0 l.toArray.size (Nat.zero_le _) (Nat.le_refl _);generalize insertionSort (luS st) l.toArray 0 l.toArray.size=D at h1 ⊢;obtain⟨⟨hz,_,hp⟩,hs⟩:=h1;have e1:D.extract 0 l.toArray.size=D:=by rw[<- hz];exact Array.extract_size
 have e2:l.toArray.extract 0 l.toArray.size=l.toArray:=Array.extract_size;rw[e1,e2] at hp;have h2:=sortO_ok st h;refine perm_pair_eq leS_anti (hp.trans h2.1.symm) ?_ h2.2;rw[List.pairwise_iff_getElem];intro i j hi hj hij;have hj2:j<l.toArray.size:=by rw[<- hz];simpa using hj
 have h:=hs i j (Nat.zero_le _) hij hj2;simp only[Array.length_toList] at hi hj;rw[getElem!_pos _ j hj,getElem!_pos _ i hi] at h
 simpa [LeS] using h
end W8
