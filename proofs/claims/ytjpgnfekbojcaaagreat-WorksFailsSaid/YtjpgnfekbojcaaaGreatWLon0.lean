/- Plain laws of jobs: a rank of the tasks of a valid job;the longest chain,unfolded. -/
import Derived.Test.YtjpgnfekbojcaaaGreatWJSpec2
import Derived.Maps.OwnSet
import Derived.Maps.OwnOps
set_option maxHeartbeats 8000000
set_option maxRecDepth 100000
namespace W8
open W7
structure OrdInv (j:JobP) (pl:List Bool) (out:List Int):Prop where
 len:pl.length=j.tasks.length
 mem:∀i:Nat,(i:Int)∈out↔pl.getD i false=true
 nd:out.Nodup
 rng:∀x∈out,0<=x/\x<j.tasks.length
 pre:∀p (hp:p<out.length),∀m∈(j.tasks.getD (out[p]).toNat default).needs,m∈out.take p
theorem ordInv_go {j:JobP} (hG:JGood j):∀(f:Nat) (pl:List Bool) (out:List Int),OrdInv j pl out->∃pl',OrdInv j pl' (ordGo j f pl out)
 | 0,pl,out,h=>⟨pl,h⟩
 | f+1,pl,out,h=>by
  cases hm:firstMay j pl with
  | none=>rw[firstMay_none hm];exact⟨pl,h⟩
  | some k=>
   rw[firstMay_some hm];refine ordInv_go hG f _ _ ?_;have hk:=firstMay_lt hm;have hkp:k<pl.length:=by rw[h.len];exact hk.1
   have hst:standB pl (j.tasks.getD k default).needs=true:=by
    unfold firstMay at hm;have h2:=List.find?_some hm;unfold mayB at h2;simp only[zY] at h2;exact h2.2
   refine⟨by simp[h.len],fun i=> ?_,?_,?_,?_⟩
   ·rw[zA,List.getElem?_set]
    by_cases he:k=i
    ·subst he;simp[hkp]
    ·rw[if_neg he,<-zA,<-h.mem i];simp;omega
   ·rw[List.nodup_append];refine⟨h.nd,by simp,fun a ha b hb=> ?_⟩;rw[zN.1 hb];intro e;rw[e,h.mem k,hk.2] at ha;cases ha
   ·intro x hx;rcases List.mem_append.1 hx with hx | hx
    ·exact h.rng x hx
    ·rw[zN.1 hx];have:=hk.1;omega
   ·intro p hp m hmm
    by_cases hpl:p<out.length
    ·rw[List.getElem_append_left hpl] at hmm;rw[List.take_append_of_le_length (by omega)];exact h.pre p hpl m hmm
    ·have hpe:p=out.length:=by simp at hp;omega
     subst hpe;rw[List.getElem_append_right (zm _)] at hmm;simp only[Nat.sub_self,List.getElem_cons_zero,zZ] at hmm;rw[List.take_left];unfold standB at hst;rw[List.all_eq_true] at hst;have h3:=hst m hmm;have h4:=hG.needs (j.tasks.getD k default) (by rw[getD_of hk.1];exact zC _) m hmm;have h5:=(h.mem m.toNat).2 h3
     rwa [Int.toNat_of_nonneg h4.1] at h5
theorem nodup_full:∀(n:Nat) (l:List Nat),l.Nodup->(∀x∈l,x<n)->l.length=n->∀x,x<n->x∈l:=by
 intro n l hn h hl x hx;apply Classical.byContradiction;intro hno
 have h2:=nodup_len n (x::l) (List.nodup_cons.2 ⟨hno,hn⟩) (fun y hy=>by
  rcases List.mem_cons.1 hy with rfl | hy
  ·exact hx
  ·exact h y hy)
 simp at h2;omega
theorem ord_inv {j:JobP} (h:jobErr j=0):∃pl,OrdInv j pl (ordV j):=by
 have hG:=good_of h;refine ordInv_go hG _ _ _ ⟨by simp,fun i=> ?_,by simp,by simp,by simp⟩;simp only[zA,List.getElem?_replicate]
 split<;>simp
theorem ord_full {j:JobP} (h:jobErr j=0):∀n,n<j.tasks.length->(n:Int)∈ordV j:=by
 obtain⟨pl,hI⟩:=ord_inv h;intro n hn
 have hlen:(ordV j).length=j.tasks.length:=by
  have h1:=(err_parts h).2.2.2;have h2:=nodup_lenI (n:=j.tasks.length) hI.nd (fun x hx=>hI.rng x hx);omega
 have h3:=nodup_full j.tasks.length ((ordV j).map Int.toNat) (by
  rw[List.Nodup,List.pairwise_map];refine hI.nd.imp_of_mem ?_;intro a b ha hb hab h2;have:=hI.rng a ha;have:=hI.rng b hb;omega) (fun x hx=>by
  obtain⟨y,hy,rfl⟩:=List.mem_map.1 hx;have:=hI.rng y hy;omega) (by simpa using hlen) n hn
 obtain⟨y,hy,he⟩:=List.mem_map.1 h3;have:=hI.rng y hy;have:y=(n:Int):=by omega
 rw[<- this];exact hy
def rankOf (j:JobP) (n:Nat):Nat:=(ordV j).idxOf (n:Int)
theorem rank_lt {j:JobP} (h:jobErr j=0) {n:Nat} (hn:n<j.tasks.length):rankOf j n<j.tasks.length:=by
 obtain⟨pl,hI⟩:=ord_inv h;have h1:=List.idxOf_lt_length_of_mem (ord_full h n hn);have h2:=nodup_lenI (n:=j.tasks.length) hI.nd (fun x hx=>hI.rng x hx);unfold rankOf;omega
theorem rank_needs {j:JobP} (h:jobErr j=0) {k:Nat} (hk:k<j.tasks.length) {m:Int} (hm:m∈(j.tasks.getD k default).needs):rankOf j m.toNat<rankOf j k:=by
 obtain⟨pl,hI⟩:=ord_inv h;have hmr:=(good_of h).needs (j.tasks.getD k default) (by rw[getD_of hk];exact zC _) m hm;have h1:=List.idxOf_lt_length_of_mem (ord_full h k hk);have h2:=hI.pre (rankOf j k) h1;have h3:(ordV j)[rankOf j k]'h1=(k:Int):=List.getElem_idxOf h1;rw[h3,zZ] at h2;have h4:=h2 m hm;obtain⟨p,hp,he⟩:=List.getElem_of_mem h4;rw[List.length_take] at hp;rw[List.getElem_take] at he;have h5:(ordV j).idxOf (ordV j)[p]=p:=hI.nd.idxOf_getElem p (by omega)
 have h6:rankOf j m.toNat=p:=by
  unfold rankOf;rw[Int.toNat_of_nonneg hmr.1,<-he];exact h5
 omega
theorem foldl_congr_mem {β:Type} {f g:β->Nat->β}:∀(l:List Nat) (b:β),(∀b,∀x∈l,f b x=g b x)->l.foldl f b=l.foldl g b
 | [],_,_=>rfl
 | x::l,b,h=>by
  rw[List.foldl_cons,List.foldl_cons,h b x (zL ..)];exact foldl_congr_mem l _ (fun b y hy=>h b y (zQ _ hy))
theorem lon_stable {j:JobP} (h:jobErr j=0):∀(d n f f':Nat),n<j.tasks.length->j.tasks.length-rankOf j n<=d->j.tasks.length-rankOf j n<=f->j.tasks.length-rankOf j n<=f'->lonGo j f n=lonGo j f' n
 | 0,n,f,f',hn,hd,_,_=>by have:=rank_lt h hn;omega
 | d+1,n,f,f',hn,hd,hf,hf'=>by
  have hr:=rank_lt h hn;obtain⟨g,rfl⟩:∃g,f=g+1:=⟨f-1,by omega⟩
  obtain⟨g',rfl⟩:∃g',f'=g'+1:=⟨f'-1,by omega⟩
  simp only[lonGo]
  congr 1
  refine foldl_congr_mem _ _ (fun b k hk=> ?_);have hkl:=List.mem_range.1 hk
  by_cases hc:(j.tasks.getD k default).needs.contains (n:Int)=true
  ·rw[if_pos hc,if_pos hc];have h1:=rank_needs h hkl (List.contains_iff_mem.1 hc);rw[zZ] at h1;have h2:=rank_lt h hkl;rw[lon_stable h d k g g' hkl (by omega) (by omega) (by omega)]
  ·rw[if_neg hc,if_neg hc]
def lonStep (j:JobP) (n:Nat) (m:Int) (k:Nat):Int:=if (j.tasks.getD k default).needs.contains (n:Int) then max m (lonV j k) else m
def lonTo (j:JobP) (n i:Nat):Int:=(List.range i).foldl (lonStep j n) 0
theorem lonTo_succ (j:JobP) (n i:Nat):lonTo j n (i+1)=lonStep j n (lonTo j n i) i:=by
 unfold lonTo;rw[List.range_succ,List.foldl_append]
 rfl
theorem lonV_eq {j:JobP} (h:jobErr j=0) (n:Nat):lonV j n=(j.tasks.getD n default).takes+lonTo j n j.tasks.length:=by
 have e:lonV j n=(j.tasks.getD n default).takes+(List.range j.tasks.length).foldl (fun m k=>if (j.tasks.getD k default).needs.contains (n:Int) then max m (lonGo j j.tasks.length k) else m) 0:=rfl;rw[e]
 congr 1
 refine foldl_congr_mem _ _ (fun b k hk=> ?_);have hkl:=List.mem_range.1 hk;unfold lonStep
 by_cases hc:(j.tasks.getD k default).needs.contains (n:Int)=true
 ·rw[if_pos hc,if_pos hc];unfold lonV;have h1:=rank_needs h hkl (List.contains_iff_mem.1 hc);rw[zZ] at h1;rw[lon_stable h j.tasks.length k j.tasks.length (j.tasks.length+1) hkl (by omega) (by omega) (by omega)]
 ·rw[if_neg hc,if_neg hc]
theorem foldl_max_le {j:JobP} {n f:Nat} {B:Int} (hB:∀k,k<j.tasks.length->0<=lonGo j f k/\lonGo j f k<=B) (h0:0<=B):∀(l:List Nat) (b:Int),(∀k∈l,k<j.tasks.length)->0<=b->b<=B->0<=l.foldl (fun m k=>if (j.tasks.getD k default).needs.contains (n:Int) then max m (lonGo j f k) else m) b/\l.foldl (fun m k=>if (j.tasks.getD k default).needs.contains (n:Int) then max m (lonGo j f k) else m) b<=B
 | [],_,_,h1,h2=>⟨h1,h2⟩
 | k::l,b,hl,h1,h2=>by
  rw[List.foldl_cons];have h3:=hB k (hl k (zL ..));refine foldl_max_le hB h0 l _ (fun x hx=>hl x (zQ _ hx)) ?_ ?_<;>split<;>omega
theorem lonGo_le {j:JobP} (hG:JGood j):∀(f n:Nat),n<j.tasks.length->0<=lonGo j f n/\lonGo j f n<=100000*f
 | 0,n,_=>by simp[lonGo]
 | f+1,n,hn=>by
  have h1:=hG.takes (j.tasks.getD n default) (by rw[getD_of hn];exact zC _);have h2:=foldl_max_le (n:=n) (f:=f) (B:=100000*f) (fun k hk=>lonGo_le hG f k hk) (by omega) (List.range j.tasks.length) 0 (fun k hk=>List.mem_range.1 hk) (Int.le_refl _) (by omega);simp only[lonGo];omega
theorem lonV_le {j:JobP} (hG:JGood j) {n:Nat} (hn:n<j.tasks.length):0<=lonV j n/\lonV j n<=6500000:=by
 have h:=lonGo_le hG (j.tasks.length+1) n hn;have:=hG.nt;unfold lonV;omega
theorem lonTo_le {j:JobP} (hG:JGood j) (n:Nat):∀i,i<=j.tasks.length->0<=lonTo j n i/\lonTo j n i<=6500000
 | 0,_=>by simp[lonTo]
 | i+1,hi=>by
  have h1:=lonTo_le hG n i (by omega);have h2:=lonV_le hG (n:=i) (by omega);rw[lonTo_succ];unfold lonStep
  split<;>omega
end W8
namespace Go.Proofs.YtjpgnfekbojcaaaGreat
open Go.RowKit W7 W8
attribute [local go_sem] Oper.semAt_some
abbrev keyI (n:Nat):Lit:= .int .i64 (n:Int)
theorem keyI_ne {a b:Nat} (h:a≠b):keyI a≠keyI b:=fun e=>h (by injection e with _ h2;exact Int.ofNat.inj h2)
theorem keyI_is (n:Nat):WideAt.IsKeyLit (keyI n):=by simp[WideAt.IsKeyLit]
theorem keyedI:Maps.Keyed Tryz.prog 3:=Maps.int_keyed Tryz.underlying3
theorem zeroI (w:World):(zeroValue 3).run Tryz.prog w= .ok (.int .i64 0) w:=by kernel_rfl
theorem wf64 {x:Int} (h: -9223372036854775808<=x/\x<=9223372036854775807):(Lit.int .i64 x).wf=true:=by
 have h1:IntKind.i64.min= -9223372036854775808:=by decide
 have h2:IntKind.i64.max=9223372036854775807:=by decide
 simp[Lit.wf,h1,h2,h]
theorem key_of {n:Nat} (hn:n<1000000):keyOf Tryz.prog 3 (.int .i64 (n:Int))=some (keyI n):=Maps.keyOf_int_mk Tryz.underlying3 (wf64 (by omega))
theorem own_fit {w:World} {k:TypeId} {R:Value->Option (DataW Unit×List MemPlace)} {b n:Nat} {D:DataW Unit} (h:w.ownsMap Tryz.prog k R b n D):w.ownsMap Tryz.prog k R b (Maps.size D) D:=by
 obtain⟨es,clock,hb,F,_,rfl⟩:=h;exact⟨es,clock,hb,F,by simp[Maps.size,length_sorted],rfl⟩
structure MemoD (j:JobP) (D:DataW Unit):Prop where
 val:∀n,n<j.tasks.length->Maps.has D (keyI n)=true->D.atKey (keyI n) (.lit (.int .i64 0))= .lit (.int .i64 (lonV j n))
 cnt:Maps.size D=(List.range j.tasks.length).countP (fun n=>Maps.has D (keyI n))
def Memo (X:World) (mb:Nat) (j:JobP):Prop:=∃D:DataW Unit,X.ownsMap Tryz.prog 3 (plainElem Tryz.prog 3) mb (Maps.size D) D/\MemoD j D
theorem Memo.lt {X:World} {mb:Nat} {j:JobP} (h:Memo X mb j):mb<X.heap.size:=by obtain⟨D,h,_⟩:=h;exact h.lt
theorem Memo.kept {X Y:World} {mb:Nat} {j:JobP} (h:Memo X mb j) (he:Y.heap[mb]? =X.heap[mb]?):Memo Y mb j:=by
 obtain⟨D,⟨es,clock,hb,F,hs,hD⟩,hM⟩:=h;exact⟨D,⟨es,clock,he.trans hb,F,hs,hD⟩,hM⟩
theorem Memo.below {X Y:World} {mb:Nat} {j:JobP} (h:Memo X mb j) (hb:Bl X Y):Memo Y mb j:=h.kept (hb.block mb h.lt)
theorem Memo.made (w:World) (j:JobP):Memo (w.alloc (.map #[] 0)) w.heap.size j:=
 ⟨.map [],World.ownsMap_made _ _ _ _,⟨fun n _ h=>by simp[Maps.has] at h,by simp[Maps.size,Maps.has]⟩⟩
theorem count_put:∀(l:List Nat) (p q:Nat->Bool) (n:Nat),l.Nodup->n∈l->(∀k,k≠n->p k=q k)->q n=true->l.countP q=l.countP p+(if p n then 0 else 1)
 | [],_,_,_,_,h,_,_=>absurd h (by simp)
 | a::l,p,q,n,hd,h,hpq,hq=>by
  have hd2:=List.nodup_cons.1 hd
  by_cases he:a=n
  ·subst he;have e1:l.countP q=l.countP p:=List.countP_congr (fun x hx=>by rw[hpq x (fun e=>hd2.1 (e▸hx))]);rw[List.countP_cons,List.countP_cons,e1,hq];cases p a<;>simp
  ·have hm:n∈l:=by
    rcases List.mem_cons.1 h with h | h
    ·exact absurd h.symm he
    ·exact h
   have ih:=count_put l p q n hd2.2 hm hpq hq;rw[List.countP_cons,List.countP_cons,ih,hpq a he];omega
theorem MemoD.put {j:JobP} {D:DataW Unit} (h:MemoD j D) (ht:Maps.Tidy D) {n:Nat} (hn:n<j.tasks.length):MemoD j (D.put (keyI n) (.lit (.int .i64 (lonV j n)))):=by
 refine⟨fun k hk hh=> ?_,?_⟩
 ·by_cases he:k=n
  ·subst he;rw[Maps.atKey_put_same ht.isMap (keyI_is k)]
  ·rw[Maps.atKey_put_other (keyI_ne he)];rw[Maps.has_put_other (keyI_ne he)] at hh;exact h.val k hk hh
 ·rw[Maps.size_put ht];have h1:=count_put (List.range j.tasks.length) (fun n=>Maps.has D (keyI n)) (fun k=>Maps.has (D.put (keyI n) (.lit (.int .i64 (lonV j n)))) (keyI k)) n List.nodup_range (List.mem_range.2 hn) (fun k hk=>(Maps.has_put_other (keyI_ne hk) _).symm) (Maps.has_put_same ht.isMap (keyI_is n) _);rw[h1,h.cnt]
  split<;>rfl
theorem MemoD.size_le {j:JobP} {D:DataW Unit} (h:MemoD j D):Maps.size D<=j.tasks.length:=by
 rw[h.cnt];have:=List.countP_le_length (p:=fun n=>Maps.has D (keyI n)) (l:=List.range j.tasks.length)
 rwa [List.length_range] at this
theorem Kept2.of_grown {w w':World} {b:Nat} (h:w.grownBy w' (some b)):Kept2 w w' b b:=⟨h.os,h.tape,h.output,h.size,fun i hi hne _=>h.block i hi (by simpa using hne)⟩
structure LonR (j:JobP) (n mb:Nat) (w:World) (e:Ending) (w':World):Prop where
 val:e= .returned (.int .i64 (lonV j n))
 kept:Kept2 w w' mb mb
 memo:Memo w' mb j
theorem known_any (j:JobP) (n mb:Nat) (P:Value) (w:World) (hG:JGood j) (hM:Memo w mb j) (hn:n<j.tasks.length) (hc:Calls Tryz.prog 174 #[.int .i64 (n:Int),P] w (LonR j n mb w)) :
  Calls Tryz.prog 173 #[.map (some mb),.int .i64 (n:Int),.func (.func 174) #[] #[P]] w (LonR j n mb w):=by
 have h64:=hG.nt;have hlb:=lonV_le hG hn;obtain⟨D,hown,hMD⟩:=hM;have hkey:=key_of (n:=n) (by omega);have hR:=hI (show Maps.has D (keyI n)=true->LonR j n mb w (.returned (.int .i64 (lonV j n))) w from fun _=>⟨rfl,Kept2.refl _ _ _,⟨D,hown,hMD⟩⟩);have HV:=hI (fun h=>hMD.val n hn h);have HC:=hI hc;have HP:=hI (fun(X:World) (D:DataW Unit) (m:Nat) (h:X.ownsMap Tryz.prog 3 (plainElem Tryz.prog 3) mb m (D.put (keyI n) (.lit (.int .i64 (lonV j n))))) (hM:MemoD j D) (ht:Maps.Tidy D)=>show Memo X mb j from⟨_,own_fit h,hM.put ht hn⟩);generalize hL:lonV j n=L at hlb HV HC hR HP;have HL:=hI hL;clear hc hMD hL;cases hh:Maps.has D (keyI n)
 ·go_enter Tryz.func173,Tryz.ntmps173
  go_wp2_with (first
   | (at_lookup;refine wpList_lookup_own_ok_int _ rfl _ _ 163 rfl 3 3 .i64 keyedI Tryz.underlying163 Tryz.underlying3 (zeroI _) mb _ D rfl hown _ _ rfl hkey ?_;intro c hat hwc)
   | (go_at_call 174;refine HC.o.mono ?_;rintro e w1 ⟨he,hk1,D1,hown1,hMD1⟩;rw[HL.o] at he;subst he;have hs1:=hMD1.size_le;have Hk1:=hI hk1;have HM1:=hI hMD1;have HT1:=hI (hown1.tidy keyedI);clear hk1 hMD1)
   | (at_mapUpdate;refine wpList_mapUpdate_own _ rfl _ _ _ 163 rfl 3 3 keyedI Tryz.underlying163 _ mb _ D1 rfl hown1 (by unfold maxLen;omega) _ _ _ rfl rfl hkey _ [] (plainElem_int Tryz.underlying3 (wf64 (by omega))) ?_;intro w2 hown2 hgrow2))
  go_ret;exact⟨by rw[HL.o];rfl,Hk1.o.trans (Kept2.of_grown hgrow2),HP.o _ _ _ hown2 HM1.o HT1.o⟩
 ·have hat2:=HV.o hh;go_enter Tryz.func173,Tryz.ntmps173;go_wp2_with (at_lookup;refine wpList_lookup_own_ok_int _ rfl _ _ 163 rfl 3 3 .i64 keyedI Tryz.underlying163 Tryz.underlying3 (zeroI _) mb _ D rfl hown _ _ rfl hkey ?_;intro c hat hwc);go_ret
  have hcL:c=L:=by
   rw[hat2] at hat
   injection hat with h1
   injection h1 with _ h2
   exact h2.symm
  rw[hcL];exact hR.out hh
def chnV (j:Job) (mb:Nat):Value:= .agg #[.slice j.TA j.tasks.length j.tc,.slice j.RA j.res.length j.rc,.map (some mb)]
theorem kept_blk {w X:World} {mb b:Nat} {o:Obj} (h:Kept2 w X mb mb) (hb:w.heap[b]? =some o) (hne:b≠mb):X.heap[b]? =some o:=(h.block b (blk_lt hb) hne hne).trans hb
theorem lon1_any (j:Job) (n mb cc B:Nat) (w:World) (hj0:jobErr j.p=0) (hM:Memo w mb j.p) (hj:JIn w B j) (hB:B<=mb) (hn:n<j.tasks.length) (hcc:cc≠mb)
  (hc:w.heap[cc]? =some (.cells #[.slice j.TA j.tasks.length j.tc,.slice j.RA j.res.length j.rc,.map (some mb)] 165 (0,0)))
  (ih:∀k,k<j.tasks.length->rankOf j.p n<rankOf j.p k->∀X,Memo X mb j.p->JIn X B j->Calls Tryz.prog 113 #[chnV j mb,.int .i64 (k:Int)] X (LonR j.p k mb X)) :
  Calls Tryz.prog 174 #[.int .i64 (n:Int),.pointer (some ⟨cc,0,none⟩)] w (LonR j.p n mb w):=by
 obtain⟨m,hm⟩:=eX j.tasks.length;obtain⟨TA,hTA⟩:=eX j.TA;have hG:=good_of hj0;have h64:m<=64:=by have:=hG.nt;rw[j.nt] at this;omega
 have hlc:=hj.tl;have hc2:=hj.tc;rw[hm] at hlc;have HJ:=hI (show ∀X,Kept2 w X mb mb->JIn X B j from fun X hX=>hj.below (hX.below hB hB (by have:=hM.lt;omega)));have HCc:=hI (show ∀X,Kept2 w X mb mb->X.heap[cc]? =some (.cells #[.slice TA m j.tc,.slice j.RA j.res.length j.rc,.map (some mb)] 165 (0,0)) from fun X hX=>by rw[hm,hTA] at hc;exact kept_blk hX hc hcc);have hcv:chnV j mb= .agg #[.slice TA m j.tc,.slice j.RA j.res.length j.rc,.map (some mb)]:=by unfold chnV;rw[hm,hTA]
 have HI:=hI (fun(k:Nat) (hk:k<m) (hr:rankOf j.p n<rankOf j.p k) (X:World) (hX:Memo X mb j.p) (hX2:JIn X B j)=>by have h:=ih k (by omega) hr X hX hX2;rw[hcv] at h;exact h);have HLV:=hI (show lonV j.p n=(j.T n).p.takes+lonTo j.p n m by rw[lonV_eq hj0,j.pT,j.nt,hm]);have HG:=hI hG;have Hj0:=hI hj0;have Hm:=hI hm;have HTA:=hI hTA;have HM0:=hI hM;have hmx:=max_run Tryz.prog;have q0:=kC 0 (HCc.o w (Kept2.refl _ _ _)) rfl;rw[hm] at hn;clear hc ih hcv hj hG hj0 hm hTA hM;go_enter Tryz.func174,Tryz.ntmps174;go_wp2;clear q0;go_loopw [4,11] (fun v4 v11 wr=>∃i:Nat,i<=m/\v11= .int .i64 i/\v4= .int .i64 (lonTo j.p n i)/\Hid (Kept2 w wr mb mb)/\Hid (Memo wr mb j.p)) (fun _ v11 _=>m-(intOf v11).toNat);case atStart=>exact⟨0,by omega,rfl,rfl,hI (Kept2.refl _ _ _),HM0⟩
 case round=>
  obtain⟨i,hi,rfl,rfl,HK,HM⟩:=hrel;have hsr:=HK.o.size;have hcs:=blk_lt (HCc.o w (Kept2.refl _ _ _));have hjn:=HJ.o wr HK.o
  by_cases hlt:i<m
  ·have hil:i<j.tasks.length:=by have:=Hm.o;omega
   obtain⟨tb,off,hTb,htb⟩:=hjn.ta (by omega);have hTe:TA=some ⟨tb,off,none⟩:=by rw[<- HTA.o];exact hTb
   subst hTe;obtain⟨c0,c1,c2,c3⟩:=hjn.tcells hTb hil;have hTk:=hjn.tks _ (j.T_mem hil);have hnl:=hTk.nl;have hnc:=hTk.nc;have HNs:=hI hTk.ns;have hnn:=needs_len HG.o (j.Tp_mem hil);have hlb:=lonTo_le HG.o n i (by rw[j.nt];omega);have hvb:=lonV_le HG.o (n:=i) (by rw[j.nt];omega)
   have HRk:=hI (fun(h:(j.T i).p.needs.contains (n:Int)=true)=>by
    have h1:=rank_needs Hj0.o (k:=i) (by rw[j.nt];omega) (m:=(n:Int)) (by rw[j.pT];exact List.contains_iff_mem.1 h);rw[zZ] at h1;exact h1)
   have HSt:=hI (show lonTo j.p n (i+1)=if (j.T i).p.needs.contains (n:Int) then max (lonTo j.p n i) (lonV j.p i) else lonTo j.p n i by rw[lonTo_succ,<-j.pT];rfl);have HIi:=hI (HI.o i hlt);generalize j.T i=t at c0 c1 c2 c3 hnl hnc HNs hnn HRk HSt;generalize lonTo j.p n i=L at hlb HSt;rw[List.contains_eq_any_beq] at HSt HRk;obtain⟨NA,hNA⟩:=eX t.NA;obtain⟨nn,hnn'⟩:=eX t.p.needs.length;rw[hNA,hnn'] at c2;rw[hNA] at HNs;rw[hnn'] at hnl hnn;obtain⟨W4,hW4⟩:=eY (wr.alloc (.cells #[.string t.p.name,.int .i64 t.p.takes,.slice NA nn t.nc,.slice t.UA t.p.uses.length t.uc] 46));have HB4:=hI (show Bl wr W4 by rw[hW4];exact(zX _ _).alloc (zm _) _);have hs4:=HB4.o.size;have r2:W4.cell? ⟨wr.heap.size,2,none⟩=some (.slice NA nn t.nc):=by rw[hW4];exact alloc_cell rfl
   have HCt:=hI (containsI_any t.p.needs (n:Int) nn hnn'.symm NA t.nc B W4 (HNs.o.below (HB4.o.mono (by have:=HM0.o.lt;omega))) (by have:=HM0.o.lt;omega) (by omega))
   have HK4:=hI (show ∀X,Bl W4 X->Kept2 w X mb mb/\Memo X mb j.p from fun X hX=>by
    have h:Bl wr X:=HB4.o.trans (hX.mono hs4);exact⟨HK.o.trans (Kept2.of_below h),HM.o.below h⟩)
   have q0:=kC 0 (HCc.o wr HK.o) rfl;clear hjn hTk hTb hNA hnn';go_upto_region 5 with fail;rw[<- hW4];clear hW4 c0 c1 c2 c3;generalize t.p.needs.any (fun y=>(n:Int)==y)=an at HSt HRk HCt;cases an
   ·have HS2:=hI (show lonTo j.p n (i+1)=L by rw[HSt.o];rfl);clear HSt HRk;go_wp2_with (go_at_call 121;refine HCt.o.mono ?_;rintro e w5 ⟨rfl,hb5⟩;have Hb5:=hI hb5;clear hb5);go_roundw;case rel=>exact⟨i+1,by omega,by go_num,by rw[HS2.o],hI (HK4.o _ Hb5.o).1,hI (HK4.o _ Hb5.o).2⟩
    case measure=>simp[intOf];omega
   ·have HS2:=hI (show lonTo j.p n (i+1)=max L (lonV j.p i) by rw[HSt.o];rfl);have HIr:=hI (HIi.o (HRk.o rfl));clear HSt HRk HIi;go_upto_region 6 with(go_at_call 121;refine HCt.o.mono ?_;rintro e w5 ⟨rfl,hb5⟩;have Hb5:=hI hb5;clear hb5)
    have HK5:=hI (HK4.o _ Hb5.o).1;have HL5:=hI (HIr.o w5 (HK4.o _ Hb5.o).2 (HJ.o _ HK5.o));have p0:=kC 0 (HCc.o w5 HK5.o) rfl;have p1:=kC 1 (HCc.o w5 HK5.o) rfl;have p2:=kC 2 (HCc.o w5 HK5.o) rfl;go_wp2_with (go_at_call 113;refine HL5.o.mono ?_;rintro e w6 ⟨rfl,hk6,hm6⟩;have Hk6:=hI hk6;have Hm6:=hI hm6;clear hk6 hm6);go_roundw;case rel=>exact⟨i+1,by omega,by go_num,by rw[HS2.o],hI (HK5.o.trans Hk6.o),Hm6⟩
    case measure=>simp[intOf];omega
  ·have hei:i=m:=by omega
   subst hei;have hil:n<j.tasks.length:=by have:=Hm.o;omega
   obtain⟨tb,off,hTb,htb⟩:=hjn.ta (by omega);have hTe:TA=some ⟨tb,off,none⟩:=by rw[<- HTA.o];exact hTb
   subst hTe;obtain⟨_,c1,_,_⟩:=hjn.tcells hTb hil;have hlb:=lonTo_le HG.o n i (by have:=Hm.o;rw[j.nt];omega);have htk:=HG.o.takes _ (j.Tp_mem hil);generalize (j.T n).p.takes=tk at c1 htk HLV;generalize lonTo j.p n i=L at hlb HLV;have q0:=kC 0 (HCc.o wr HK.o) rfl;go_wp2;go_ret;exact⟨by rw[HLV.o];first | rfl | (congr;go_num),HK.o,HM.o⟩
theorem longest_any (j:Job) (mb B:Nat) (hj0:jobErr j.p=0) (hB:B<=mb):∀(d n:Nat) (w:World),Memo w mb j.p->JIn w B j->n<j.tasks.length->j.tasks.length-rankOf j.p n<=d →
  Calls Tryz.prog 113 #[chnV j mb,.int .i64 (n:Int)] w (LonR j.p n mb w)
 | 0,n,w,hM,hj,hn,hd=>by have:=rank_lt hj0 (n:=n) (by rw[j.nt];exact hn);rw[j.nt] at this;omega
 | d+1,n,w,hM,hj,hn,hd=>by
  have IH:=longest_any j mb B hj0 hB d;have hmb:=hM.lt;obtain⟨W0,hW0⟩:=eY (w.alloc (.cells #[.slice j.TA j.tasks.length j.tc,.slice j.RA j.res.length j.rc,.map (some mb)] 165));have HB0:=hI (show Bl w W0 by rw[hW0];exact(zX _ _).alloc (zm _) _);have hX0:W0.heap[w.heap.size]? =some (.cells #[.slice j.TA j.tasks.length j.tc,.slice j.RA j.res.length j.rc,.map (some mb)] 165 (0,0)):=by rw[hW0];exact zW _ _
  have HJ0:=hj.below (HB0.o.mono (by omega));have HM0:=hM.below HB0.o;have HC:=lon1_any j n mb w.heap.size B W0 hj0 HM0 HJ0 hB hn (by omega) hX0 (fun k hk hr X hX hXj=>IH k X hX hXj hk (by omega));have HK:=hI (known_any j.p n mb _ W0 (good_of hj0) HM0 (by rw[j.nt];exact hn) HC);unfold chnV;have q0:=kC 0 hX0 rfl;have q1:=kC 1 hX0 rfl;have q2:=kC 2 hX0 rfl;generalize j.tasks.length=m at *;clear HC IH hX0;go_enter Tryz.func113,Tryz.ntmps113;go_upto_region 1 with fail;rw[<- hW0];clear hW0;go_wp2_with (go_at_call 173;refine HK.o.mono ?_;rintro e w1 ⟨rfl,hk1,hm1⟩);go_ret;exact⟨rfl,(Kept2.of_below HB0.o).trans hk1,hm1⟩
end Go.Proofs.YtjpgnfekbojcaaaGreat
namespace W8
open W7
structure ChInv (j:JobP) (C out:List Int) (last left:Int) (i:Nat):Prop where
 eq:C=out++chainGo j (j.tasks.length+1-out.length) last left
 no:∀k,k<i->nextB j last left k=false
 lst:(last= -1/\out=[])\/∃q:Nat,q<j.tasks.length/\last=(q:Int)/\out.length<=rankOf j q+1
 rng:0<=left/\left<=200000
theorem ChInv.len {j:JobP} {C out:List Int} {last left:Int} {i:Nat} (h:ChInv j C out last left i) (hj:jobErr j=0):out.length<=j.tasks.length:=by
 rcases h.lst with⟨_,rfl⟩ | ⟨q,hq,_,h2⟩
 ·simp
 ·have:=rank_lt hj hq;omega
theorem ChInv.last' {j:JobP} {C out:List Int} {last left:Int} {i:Nat} (h:ChInv j C out last left i) (hj:jobErr j=0): -1<=last/\last<=64:=by
 have:=(good_of hj).nt;rcases h.lst with⟨e,_⟩ | ⟨q,hq,e,_⟩<;>omega
theorem ChInv.start (j:JobP) {left:Int} (h:0<=left/\left<=200000):ChInv j (chainV j left) [] (-1) left 0:=
 ⟨rfl,fun k hk=>by omega,.inl ⟨rfl,rfl⟩,h⟩
theorem ChInv.next {j:JobP} {C out:List Int} {last left:Int} {i:Nat} (h:ChInv j C out last left i) (hi:nextB j last left i=false):ChInv j C out last left (i+1):=
 ⟨h.eq,fun k hk=>by
  by_cases he:k=i
  ·rw[he];exact hi
  ·exact h.no k (by omega),h.lst,h.rng⟩
theorem find_range {P:Nat->Bool} {n i:Nat} (hn:i<n) (hi:P i=true) (hno:∀k,k<i->P k=false):(List.range n).find? P=some i:=by
 rw[List.find?_eq_some_iff_getElem];refine⟨hi,i,by simpa using hn,by simp,fun k hk=> ?_⟩;have:=hno k hk;simp[this]
theorem find_range_no {P:Nat->Bool} {n:Nat} (hno:∀k,k<n->P k=false):(List.range n).find? P=none:=by
 rw[List.find?_eq_none];intro x hx;rw[hno x (List.mem_range.1 hx)];simp
theorem ChInv.done {j:JobP} {C out:List Int} {last left:Int} {i:Nat} (h:ChInv j C out last left i) (hj:jobErr j=0) (hi:j.tasks.length<=i):C=out:=by
 have h2:=h.len hj;obtain⟨f,hf⟩:∃f,j.tasks.length+1-out.length=f+1:=⟨j.tasks.length-out.length,by omega⟩
 rw[h.eq,hf,chainGo,find_range_no (fun k hk=>h.no k (by omega))];simp
theorem ChInv.end' {j:JobP} {C out:List Int} {last left:Int} {i:Nat} (h:ChInv j C out last left i) (hj:jobErr j=0) (hi:i<j.tasks.length) (hn:nextB j last left i=true) (hz:left-(j.tasks.getD i default).takes<=0):C=out++[(i:Int)]:=by
 have h2:=h.len hj;obtain⟨f,hf⟩:∃f,j.tasks.length+1-out.length=f+1:=⟨j.tasks.length-out.length,by omega⟩
 rw[h.eq,hf,chainGo,find_range hi hn h.no];simp only[if_pos hz]
theorem ChInv.take {j:JobP} {C out:List Int} {last left:Int} {i:Nat} (h:ChInv j C out last left i) (hj:jobErr j=0) (hi:i<j.tasks.length) (hn:nextB j last left i=true) (hz: ¬left-(j.tasks.getD i default).takes<=0):ChInv j C (out++[(i:Int)]) i (left-(j.tasks.getD i default).takes) 0:=by
 have h2:=h.len hj;have htk:=(good_of hj).takes (j.tasks.getD i default) (by rw[getD_of hi];exact zC _);obtain⟨f,hf⟩:∃f,j.tasks.length+1-out.length=f+1:=⟨j.tasks.length-out.length,by omega⟩
 refine⟨?_,fun k hk=>by omega,.inr ⟨i,hi,rfl,?_⟩,by have:=h.rng;omega⟩
 ·have e:=h.eq;rw[hf,chainGo,find_range hi hn h.no] at e;simp only[if_neg hz] at e;rw[e,show j.tasks.length+1-(out++[(i:Int)]).length=f by simp;omega];simp
 ·rw[zF];rcases h.lst with⟨_,rfl⟩ | ⟨q,hq,e,h3⟩
  ·simp
  ·have hc:(j.tasks.getD i default).needs.contains last=true:=by
    unfold nextB at hn;rw[e] at hn ⊢;rw[zE (by omega)] at hn;simp only[Bool.false_or,zY] at hn;exact hn.1
   have h4:=rank_needs hj hi (List.contains_iff_mem.1 hc);rw[e,zZ] at h4;simp;omega
theorem longTo_le {j:JobP} (hG:JGood j):∀i,i<=j.tasks.length->0<=longTo j i/\longTo j i<=6500000
 | 0,_=>by simp[longTo]
 | i+1,hi=>by
  have h1:=longTo_le hG i (by omega);have h2:=lonV_le hG (n:=i) (by omega);simp only[longTo];omega
end W8
