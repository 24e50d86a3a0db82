/- The queue of moments: put and take. -/
import Derived.Test.YtjpgnfekbojcaaaGreatWFree
namespace Go.Proofs.YtjpgnfekbojcaaaGreat
open Go.RowKit W7 W8
attribute [local go_sem] Oper.semAt_some
def encMo (m:Nat×Int):List Value:=[.int .i64 (m.1:Int),.int .i64 m.2]
def QRow (X:World) (base:Nat) (v:Value) (ms:List (Nat×Int)):Prop:=
 (v= .slice none 0 0/\ms=[])\/∃(g off cap:Nat) (cur:Array Value),v= .slice (some ⟨g,off,none⟩) ms.length cap/\base<=g/\X.heap[g]? =some (.cells cur 136 (0,0))/\ms.length<=cap/\cap<=maxLen/\off+cap*2<=cur.size ∧
  ∀i,i<ms.length->cur[off+i*2]? =some (.int .i64 ((ms.getD i default).1:Int))/\cur[off+i*2+1]? =some (.int .i64 (ms.getD i default).2)
theorem QRow.kept {X Y:World} {base:Nat} {v:Value} {ms:List (Nat×Int)} (h:QRow X base v ms) (hk:∀g,v.ownBlock=some g->Y.heap[g]? =X.heap[g]?):QRow Y base v ms:=by
 rcases h with h | ⟨g,off,cap,cur,h1,h2,h3,h4⟩
 ·exact .inl h
 ·exact .inr ⟨g,off,cap,cur,h1,h2,(hk g (by rw[h1];rfl)).trans h3,h4⟩
theorem QRow.lt {X:World} {base:Nat} {v:Value} {ms:List (Nat×Int)} (h:QRow X base v ms) {g:Nat} (hg:v.ownBlock=some g):base<=g/\g<X.heap.size/\∃cs,X.heap[g]? =some (.cells cs 136 (0,0)):=by
 rcases h with⟨h,_⟩ | ⟨g',off,cap,cur,h1,h2,h3,h4⟩
 ·rw[h] at hg;cases hg
 ·rw[h1] at hg;cases hg;exact⟨h2,blk_lt h3,_,h3⟩
theorem elemMo:Elem Tryz.prog 202 136 (.agg #[.int .i64 0,.int .i64 0]) 2 16:=Elem.mk' Tryz.underlying202 (by kernel_rfl) rfl (by decide) (by decide)
theorem add0 {b o j:Nat}:(⟨b,o,none⟩:Addr).add j=⟨b,o+j,none⟩:=by unfold Addr.add;split<;>simp_all
theorem run_qput (base ty p:Nat) (v:Value) (ms:List (Nat×Int)) (k:Nat) (t:Int) (c:Nat) (W:World) (h:QRow W base v ms) (hl:ms.length<=100000000) (hbW:base<=W.heap.size) (hp:W.heap[p]? =some (.cells #[.int .i64 (k:Int),.int .i64 t] 136 (0,0))) :
  ∃v' w',(Builtin.append_ #[202,202] ty #[v,.slice (some ⟨p,0,none⟩) 1 c]).run Tryz.prog W= .ok v' w'/\QRow w' base v' (ms++[(k,t)])/\W.grownBy w' v.ownBlock/\(v'.ownBlock=v.ownBlock\/∃g,v'.ownBlock=some g/\W.heap.size<=g):=by
 obtain⟨ht,⟨i,hi,hz,hsz,hby⟩,_⟩:=elemMo;have hWg:∀row,W.grownBy W row:=fun row=>World.grownBy.refl _ _
 have hnew:∀j u,[Value.int .i64 (k:Int),.int .i64 t][j]? =some u->W.cell? ((⟨p,0,none⟩:Addr).add j)=some u:=fun j u hu=>by
  rw[add0,Nat.zero_add];exact bc hp (by simpa using hu)
 have h1:∀u∈[Value.int .i64 (k:Int),.int .i64 t],u.oneCell'=true:=by simp[Value.oneCell']
 have hlen:[Value.int .i64 (k:Int),.int .i64 t].length=1*i.size:=by rw[hsz];rfl
 have hww:W.heap.size<=W.heap.size:=Nat.le_refl _;have hA:∀(o:Obj) (row:Option Nat),W.grownBy (W.drew.alloc o) row:=fun o row=>⟨(hWg none).os,(hWg none).tape,(hWg none).output,Nat.le_trans hww (by simp),fun j hj _=>(Below.heap_alloc W.drew o j (Nat.lt_of_lt_of_le hj hww)).trans ((hWg none).block j hj (by simp))⟩
 have hgetD:∀ {j:Nat},j<ms.length->(ms++[(k,t)]).getD j default=ms.getD j default:=fun{j} hj=>by simp[List.getD_eq_getElem?_getD,List.getElem?_append_left hj]
 have hgetL:(ms++[(k,t)]).getD ms.length default=(k,t):=by simp[List.getD_eq_getElem?_getD]
 rcases h with⟨rfl,rfl⟩ | ⟨g,off,cap,cur,rfl,h2,h3,h4,h5,h6,h7⟩
 ·have hr:=run_append_nil (P:=Tryz.prog) W 202 ty 136 i _ ht hi hz ⟨p,0,none⟩ 1 c _ hlen hnew (by decide) (by decide) (by rw[hby];decide);refine⟨_,_,hr,.inr ⟨W.heap.size,0,_,_,rfl,hbW,heap_alloc_new W.drew _,grownCap_ge _ _ _ _,grownCap_le_maxLen _ _ _ _ (by rw[show maxLen=9223372036854775807 from rfl];omega),?_,?_⟩,hA _ _,.inr ⟨_,rfl,hww⟩⟩
  ·have:=grownCap_ge W 1 0 136;rw[Array.size_append,size_zeroCells];simp[Value.cells];omega
  ·intro j hj;obtain rfl:j=0:=by simpa using hj
   exact⟨(Array.getElem?_append_left (by simp)).trans rfl,(Array.getElem?_append_left (by simp)).trans rfl⟩
 ·by_cases hroom:ms.length+1<=cap
  ·have hg:W.heap[g]? =some (.cells cur 136 (0,0)):=((hWg none).block g (blk_lt h3) (by simp)).trans h3;have hf:=run_firstCells_some (P:=Tryz.prog) W i.size 1 ⟨p,0,none⟩ 1 c _ hlen hnew;have hfit:off+ms.length*2+0+[Value.int .i64 (k:Int),.int .i64 t].length<=cur.size:=by simp;omega
   have hst:=run_storeCells_at Tryz.prog g (off+ms.length*2) 136 _ 0 cur W hg hfit h1;simp only[Nat.add_zero] at hst
   have hr:(Builtin.append_ #[202,202] ty #[.slice (some ⟨g,off,none⟩) ms.length cap,.slice (some ⟨p,0,none⟩) 1 c]).run Tryz.prog W= .ok (.slice (some ⟨g,off,none⟩) (ms.length+1) cap) (W.setRow g (cur.toList.take (off+ms.length*2)++[Value.int .i64 (k:Int),.int .i64 t]++cur.toList.drop (off+ms.length*2+[Value.int .i64 (k:Int),.int .i64 t].length)).toArray):=by
    rw[hsz] at hf;simp[Builtin.append_,run_underlying ht,sizeOf,typeInfo,hi,Builtin.lenOf,hroom,hf,hsz,add0];simp at hst;rw[hst]
    rfl
   have hsizes:off+ms.length*2<=cur.size:=by omega
   refine⟨_,_,hr,.inr ⟨g,off,cap,_,by rw[List.length_append];rfl,h2,setRow_heap W g cur _ _ _ hg,by rw[List.length_append];exact hroom,h5,?_,?_⟩,⟨(hWg none).os,(hWg none).tape,(hWg none).output,by show W.heap.size<=(W.setRow _ _).heap.size;simp,fun j hj hne=>(setRow_other W g j _ (fun e=>hne (by simp[Value.ownBlock,e]))).trans ((hWg none).block j hj (by simp))⟩,.inl rfl⟩
   ·have htl:(cur.toList.take (off+ms.length*2)).length=off+ms.length*2:=by rw[List.length_take,show cur.toList.length=cur.size from Array.length_toList];omega
    have hdl:(cur.toList.drop (off+ms.length*2+[Value.int .i64 (k:Int),.int .i64 t].length)).length=cur.size-(off+ms.length*2+2):=by rw[List.length_drop,show cur.toList.length=cur.size from Array.length_toList];rfl
    rw[List.size_toArray,List.length_append,List.length_append,htl,hdl];simp only[List.length_cons,List.length_nil];omega
   ·intro j hj;rw[List.length_append] at hj;simp only[List.length_cons,List.length_nil] at hj;simp only[List.getElem?_toArray,List.append_assoc];have htl:(cur.toList.take (off+ms.length*2)).length=off+ms.length*2:=by rw[List.length_take,show cur.toList.length=cur.size from Array.length_toList];omega
    by_cases hjl:j<ms.length
    ·rw[List.getElem?_append_left (by omega),List.getElem?_append_left (by omega),List.getElem?_take,List.getElem?_take,if_pos (by omega),if_pos (by omega),hgetD hjl];have:=h7 j hjl
     simpa using this
    ·obtain rfl:j=ms.length:=by omega
     have e0:∀(L N D:List Value) (n r:Nat),L.length=n->r<N.length->(L++(N++D))[n+r]? =N[r]? :=fun L N D n r hL hr=>by
      rw[List.getElem?_append_right (by omega),List.getElem?_append_left (by omega),hL,Nat.add_sub_cancel_left]
     rw[hgetL];exact⟨(e0 _ _ _ _ 0 htl (by simp)).trans rfl,(e0 _ _ _ _ 1 htl (by simp)).trans rfl⟩
  ·have holds:∀j u,(ms.flatMap encMo)[j]? =some u->W.cell? ((⟨g,off,none⟩:Addr).add j)=some u:=fun j u hu=>by
    rw[add0];have hg:W.heap[g]? =some (.cells cur 136 (0,0)):=((hWg none).block g (blk_lt h3) (by simp)).trans h3
    have hj:j<ms.length*2:=by
     have h8:=(List.getElem?_eq_some_iff.1 hu).1
     have h9:(ms.flatMap encMo).length=ms.length*2:=by
      clear h7 h4 hroom hgetD hgetL hu h8 h6 hl
      induction ms with
      | nil=>rfl
      | cons a r ih=>rw[List.flatMap_cons,List.length_append,ih,List.length_cons];simp[encMo];omega
     omega
    have h10:=flat_get (enc:=encMo) (k:=2) (fun _=>rfl) ms (j/2) (j%2) (by omega) (by omega);rw[show j/2*2+j%2=j by omega] at h10;have h11:=h7 (j/2) (by omega);rw[List.getD_eq_getElem?_getD,List.getElem?_eq_getElem (by omega),Option.getD_some] at h11;refine bc hg ?_;rw[<- hu,h10];rcases Nat.mod_two_eq_zero_or_one j with h12 | h12
    ·rw[h12,show off+j=off+j/2*2 by omega,h11.1];rfl
    ·rw[h12,show off+j=off+j/2*2+1 by omega,h11.2];rfl
   have hlo:(ms.flatMap encMo).length=ms.length*i.size:=by
    rw[hsz];clear holds h7 h4 hroom hgetD hgetL h6 hl
    induction ms with
    | nil=>rfl
    | cons a r ih=>rw[List.flatMap_cons,List.length_append,ih,List.length_cons];simp[encMo];omega
   have hr:=run_append_grow (P:=Tryz.prog) W 202 ty 136 i _ ht hi hz ⟨g,off,none⟩ ms.length cap (ms.flatMap encMo) hlo holds ⟨p,0,none⟩ 1 c _ hlen hnew (by omega) (by omega) (growslice_fits (by omega) (by rw[hby];omega));have hcg:=grownCap_ge W (ms.length+1) cap 136;refine⟨_,_,hr,.inr ⟨W.heap.size,0,_,_,by rw[List.length_append];rfl,hbW,heap_alloc_new W.drew _,by rw[List.length_append];exact hcg,grownCap_le_maxLen _ _ _ _ (by rw[show maxLen=9223372036854775807 from rfl];omega),?_,?_⟩,hA _ _,.inr ⟨_,rfl,hww⟩⟩
   ·rw[Array.size_append,Array.size_append,size_zeroCells,List.size_toArray,hlo,hsz];simp[Value.cells];omega
   ·intro j hj;rw[List.length_append] at hj;simp only[List.length_cons,List.length_nil] at hj;rw[hsz] at hlo
    by_cases hjl:j<ms.length
    ·have h10:=fun m hm=>flat_get (enc:=encMo) (k:=2) (fun _=>rfl) ms j m hjl hm
     rw[hgetD hjl,List.getD_eq_getElem?_getD,List.getElem?_eq_getElem hjl,Option.getD_some,Nat.zero_add,Array.append_assoc,Array.getElem?_append_left (by simp[hlo];omega),Array.getElem?_append_left (by simp[hlo];omega),List.getElem?_toArray,List.getElem?_toArray];exact⟨(h10 0 (by omega)).trans rfl,(h10 1 (by omega)).trans rfl⟩
    ·obtain rfl:j=ms.length:=by omega
     have e0:∀(L N D:Array Value) (n r:Nat),L.size=n->r<N.size->(L++N++D)[n+r]? =N[r]? :=fun L N D n r hL hr=>by
      rw[Array.append_assoc,Array.getElem?_append_right (by omega),Array.getElem?_append_left (by omega),hL,Nat.add_sub_cancel_left]
     have hsz1:(ms.flatMap encMo).toArray.size=0+ms.length*2:=by rw[List.size_toArray,hlo];omega
     rw[hgetL];exact⟨(e0 _ _ _ _ 0 hsz1 (by simp)).trans rfl,(e0 _ _ _ _ 1 hsz1 (by simp)).trans rfl⟩
structure KeptS (X Y:World) (S:Nat->Prop):Prop where
 os:Y.os=X.os
 tape:Y.tape=X.tape
 output:Y.output=X.output
 size:X.heap.size<=Y.heap.size
 block:∀i,i<X.heap.size-> ¬S i->Y.heap[i]? =X.heap[i]?
theorem KeptS.refl (X:World) (S:Nat->Prop):KeptS X X S:=⟨rfl,rfl,rfl,Nat.le_refl _,fun _ _ _=>rfl⟩
theorem KeptS.trans {X Y Z:World} {S:Nat->Prop} (h:KeptS X Y S) (k:KeptS Y Z S):KeptS X Z S:=
 ⟨k.os.trans h.os,k.tape.trans h.tape,k.output.trans h.output,Nat.le_trans h.size k.size,fun i hi hn=>(k.block i (Nat.lt_of_lt_of_le hi h.size) hn).trans (h.block i hi hn)⟩
theorem KeptS.of_below {X Y:World} {S:Nat->Prop} (h:Bl X Y):KeptS X Y S:=⟨h.os,h.tape,h.output,h.size,fun i hi _=>h.block i hi⟩
theorem KeptS.of_grown {X Y:World} {S:Nat->Prop} {row:Option Nat} (h:X.grownBy Y row) (hr:∀i,row=some i->S i):KeptS X Y S:=⟨h.os,h.tape,h.output,h.size,fun i hi hn=>h.block i hi (fun e=>hn (hr i e.symm))⟩
theorem KeptS.mono {X Y:World} {S T:Nat->Prop} (h:KeptS X Y S) (hs:∀i,S i->T i):KeptS X Y T:=⟨h.os,h.tape,h.output,h.size,fun i hi hn=>h.block i hi (fun e=>hn (hs i e))⟩
def SLater (w:World) (S:Nat->Prop):Type:={ W:World // KeptS w W S }
def SLater.w {w:World} {S:Nat->Prop} (e:SLater w S):World:=e.1
theorem SLater.k {w:World} {S:Nat->Prop} (e:SLater w S):KeptS w e.w S:=e.2
structure QIn (X:World) (base qb:Nat) (v:Value) (ms:List (Nat×Int)):Prop where
 blk:X.heap[qb]? =some (.cells #[v] 204 (0,0))
 row:QRow X base v ms
theorem QIn.ne {X:World} {base qb:Nat} {v:Value} {ms:List (Nat×Int)} (h:QIn X base qb v ms) {g:Nat} (hg:v.ownBlock=some g):g≠qb:=fun e=>by
 obtain⟨_,_,cs,hc⟩:=h.row.lt hg;rw[e,h.blk] at hc;cases hc
theorem slice1 (g off n cap:Nat) (hn:n+1<=cap) (hc:cap<=9223372036854775807) (w:World) :
  (Instr.sliceAt 202 (.slice (some ⟨g,off,none⟩) (n+1) cap) (some (.int .i64 1)) none none).run Tryz.prog w= .ok (.slice (some ⟨g,if cap=1 then off else off+2,none⟩) n (cap-1)) w:=by
 have hel:Tryz.prog.elem 202=136:=by kernel_rfl
 have hu:Tryz.prog.underlying 202=some (.slice (Tryz.prog.elem 202)):=by rw[hel];exact Tryz.underlying202
 rw[run_sliceAt_slice w _ _ _ _ _ hu,run_slice_l w _ _ _ _ hu .i64 1 (by decide) (by omega),hel,Tryz.sizeOf136]
 show Result.ok (sliced _ _ _ _ _) w=_
 unfold sliced
 by_cases h1:cap=1
 ·subst h1;simp
 ·have h2: ¬cap=Int.toNat 1:=by simpa using h1
  rw[if_neg h2,if_neg h1];simp[add0]
end Go.Proofs.YtjpgnfekbojcaaaGreat
