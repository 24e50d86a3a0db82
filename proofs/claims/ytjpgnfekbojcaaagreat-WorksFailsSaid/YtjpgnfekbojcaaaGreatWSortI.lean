/- slices.Sort at[]int: what a row of the call's own holds behind it. -/
import Derived.Test.YtjpgnfekbojcaaaGreatSortPlain
import Derived.Test.YtjpgnfekbojcaaaGreatWJob3
set_option maxHeartbeats 8000000
set_option maxRecDepth 100000
namespace W8
theorem insI_perm (x:Int):∀l:List Int,(insI x l).Perm (x::l)
 | []=>List.Perm.refl _
 | y::l=>by
  unfold insI
  split
  ·exact List.Perm.refl _
  ·exact((insI_perm x l).cons y).trans (List.Perm.swap x y l)
theorem sortI_perm:∀l:List Int,(sortI l).Perm l
 | []=>List.Perm.refl _
 | x::l=>(insI_perm x (sortI l)).trans ((sortI_perm l).cons x)
theorem insI_sorted (x:Int):∀l:List Int,l.Pairwise (· <= ·)->(insI x l).Pairwise (· <= ·)
 | [],_=>by simp[insI]
 | y::l,h=>by
  have h1:=List.pairwise_cons.1 h;unfold insI
  split
  ·rename_i hxy
   refine List.pairwise_cons.2 ⟨fun a ha=> ?_,h⟩;rcases List.mem_cons.1 ha with rfl | ha
   ·exact hxy
   ·exact Int.le_trans hxy (h1.1 a ha)
  ·rename_i hxy
   refine List.pairwise_cons.2 ⟨fun a ha=> ?_,insI_sorted x l h1.2⟩;have ha:=(insI_perm x l).mem_iff.1 ha;rcases List.mem_cons.1 ha with rfl | ha
   ·omega
   ·exact h1.1 a ha
theorem sortI_sorted:∀l:List Int,(sortI l).Pairwise (· <= ·)
 | []=>List.Pairwise.nil
 | x::l=>insI_sorted x _ (sortI_sorted l)
theorem perm_sorted_eq:∀ {l l':List Int},l.Perm l'->l.Pairwise (· <= ·)->l'.Pairwise (· <= ·)->l=l'
 | [],l',hp,_,_=>by rw[List.nil_perm.1 hp]
 | x::l,[],hp,_,_=>absurd hp.length_eq (by simp)
 | x::l,y::l',hp,h,h'=>by
  have h1:=List.pairwise_cons.1 h;have h2:=List.pairwise_cons.1 h'
  have hxy:x=y:=by
   have a:x<=y:=by
    rcases List.mem_cons.1 (hp.mem_iff.2 (zL ..)) with e | e
    ·omega
    ·exact h1.1 y e
   have b:y<=x:=by
    rcases List.mem_cons.1 (hp.mem_iff.1 (zL ..)) with e | e
    ·omega
    ·exact h2.1 x e
   omega
  subst hxy;rw[perm_sorted_eq ((List.perm_cons x).1 hp) h1.2 h2.2]
theorem merge_sortI (l:List Int):l.mergeSort (fun x y=>decide (x<=y))=sortI l:=by
 refine perm_sorted_eq ((List.mergeSort_perm l _).trans (sortI_perm l).symm) ?_ (sortI_sorted l);have:=List.pairwise_mergeSort (le:=fun x y:Int=>decide (x<=y)) (fun a b c h1 h2=>by simp at *;omega) (fun a b=>by simp;omega) l;exact this.imp (fun h=>by simpa using h)
theorem sortI_length (l:List Int):(sortI l).length=l.length:=(sortI_perm l).length_eq
end W8
namespace Go.Proofs.YtjpgnfekbojcaaaGreat
open Go.RowKit Go.Shelf Go.Sort W7 W8
theorem holds_own1 {w:World} {base g cap n e:Nat} {l:List Int} (h:w.ownsRow base e 1 (.slice (some ⟨g,0,none⟩) n cap) n (l.map (Value.int .i64))):Holds (Value.int .i64) w g 0 l.toArray:=by
 intro j hj;have hj':j<l.length:=by simpa using hj
 have hn:n*1=l.length:=by have:=h.1;simpa using this.symm
 rw[Nat.zero_add];refine⟨?_,h.frozenAt j⟩;rw[h.cellAt j (by omega)];simp[hj']
theorem sorted_own1 {w:World} {base g cap n e m:Nat} {os:Array Obj} {l l':List Int} (h:w.ownsRow base e 1 (.slice (some ⟨g,0,none⟩) n cap) n (l.map (Value.int .i64))) (hl:l'.length=l.length) :
  (grow (putRow (Value.int .i64) (Sort.ahead w m) g 0 l'.toArray) os).ownsRow base e 1 (.slice (some ⟨g,0,none⟩) n cap) n (l'.map (Value.int .i64)):=by
 have hn:n*1=l.length:=by have:=h.1;simpa using this.symm
 rcases h.2 with⟨e0,_⟩ | ⟨g',cap',cur,e0,hb,hg,hnc,hm,hs,ht⟩
 ·cases e0
 ·injection e0 with e1 _ e3
  injection e1 with e1
  injection e1 with e1
  subst e1;subst e3;have hglt:g<w.heap.size:=(zT.1 hg).1;refine⟨by simp;omega,.inr ⟨g,cap,putCells (Value.int .i64) 0 l'.toArray cur,rfl,hb,?_,hnc,hm,by simpa [putCells] using hs,?_⟩⟩
  ·rw[heap_grow_old _ _ (by simpa [putRow,mapBlock,Sort.ahead] using hglt)];simp[putRow,mapBlock,Sort.ahead,Array.getElem?_modify,hg,onCells]
  ·have hcs:n<=cur.size:=by rw[hs];omega
   apply List.ext_getElem?;intro j
   by_cases hj:j<n*1
   ·rw[List.getElem?_take_of_lt hj,Array.getElem?_toList];simp only[putCells,Array.getElem?_mapIdx,Array.getElem?_eq_getElem (show j<cur.size by omega),Option.map_some];have hjl:j<l'.length:=by omega
    rw[if_pos ⟨Nat.zero_le _,by rw[List.size_toArray];omega⟩];simp[hjl]
   ·rw[List.getElem?_take_eq_none (by omega),List.getElem?_eq_none (by simp;omega)]
theorem grown_sorted1 {w:World} {g m:Nat} {os:Array Obj} {d:Array Int}:w.grownBy (grow (putRow (Value.int .i64) (Sort.ahead w m) g 0 d) os) (some g):=by
 refine⟨rfl,rfl,rfl,by simp[putRow,mapBlock,Sort.ahead,grow],fun i hi hne=> ?_⟩;rw[heap_grow_old _ _ (by simpa [putRow,mapBlock,Sort.ahead] using hi)];have:g≠i:=fun e=>hne (by rw[e])
 simp[putRow,mapBlock,Sort.ahead,Array.getElem?_modify,this]
theorem sortInt_any (l:List Int) (base g cap:Nat) (w:World) (hown:w.ownsRow base 3 1 (.slice (some ⟨g,0,none⟩) l.length cap) l.length (l.map (Value.int .i64))) (hl:l.length<=100000) :
  Calls Tryz.prog 130 #[.slice (some ⟨g,0,none⟩) l.length cap] w fun e w'=>e= .returned (.tuple #[])/\w'.ownsRow base 3 1 (.slice (some ⟨g,0,none⟩) l.length cap) l.length ((sortI l).map (Value.int .i64))/\w.grownBy w' (some g):=by
 have hcon:=Any.slices_Sort_int Tryz.sortInt g 0 cap l w (holds_own1 hown) (hown.lt g rfl).2 (by omega)
 change Calls Tryz.prog 130 _ _ _ at hcon
 refine hcon.mono fun e w' ⟨he,n,os,hw⟩=>⟨he,?_⟩
 rw[hw,merge_sortI];exact⟨sorted_own1 hown (sortI_length l),grown_sorted1⟩
end Go.Proofs.YtjpgnfekbojcaaaGreat
namespace W8
open W7
def placeR (j:JobP) (b:Bd) (fr:Int) (n:Nat):Bool×Bd:=match placeV j b fr n with
 | none=>(false,b)
 | some s=>(true,b.put n s)
theorem endsAfter_succ (j:JobP) (b:Bd) (first:Int) (k:Nat):endsAfter j b first (k+1)=endsAfter j b first k++(if b.pl.getD k false&&decide (first<endV j b k) then[endV j b k] else[]):=by
 unfold endsAfter;rw[List.range_succ,List.filterMap_append]
 congr 1
 simp only[List.filterMap_cons,List.filterMap_nil]
 split<;>rename_i h<;>split at h<;>simp_all
theorem offsAfter_snoc (first:Int) (l:List JSpan) (s:JSpan):offsAfter first (l++[s])=offsAfter first l++(if first<s.hi+1 then[s.hi+1] else[]):=by
 unfold offsAfter;rw[List.filterMap_append]
 congr 1
 simp only[List.filterMap_cons,List.filterMap_nil]
 split<;>rename_i h<;>split at h<;>simp_all
theorem usesAfter_snoc (j:JobP) (first:Int) (l:List JUse) (u:JUse):usesAfter j first (l++[u])=usesAfter j first l++offsAfter first (j.res.getD u.res.toNat default).off:=by
 unfold usesAfter;simp
theorem endV_bd {j:JobP} (hG:JGood j) {b:Bd} (hs:∀i,0<=b.st.getD i 0/\b.st.getD i 0<=100000) {n:Nat} (hn:n<j.tasks.length):0<=endV j b n/\endV j b n<=200000:=by
 have ht:=hG.takes (j.tasks.getD n default) (by rw[getD_of hn];exact zC _);have hst:=hs n;unfold endV;omega
theorem ready_bd {j:JobP} (hG:JGood j) {b:Bd} (hs:∀i,0<=b.st.getD i 0/\b.st.getD i 0<=100000) {fr:Int} (hf:0<=fr/\fr<=200000) {n:Nat} (hn:n<j.tasks.length):0<=readyV j b fr n/\readyV j b fr n<=200000:=
 readyGo_le hG hs _ _ (fun k hk=>hG.needs (j.tasks.getD n default) (by rw[getD_of hn];exact zC _) k hk) hf.1 hf.2
theorem ends_bd {j:JobP} (hG:JGood j) {b:Bd} (hs:∀i,0<=b.st.getD i 0/\b.st.getD i 0<=100000) (first:Int) {k:Nat} (hk:k<=j.tasks.length):∀x∈endsAfter j b first k,0<=x/\x<=200000:=by
 intro x hx;unfold endsAfter at hx;obtain⟨i,hi,h⟩:=List.mem_filterMap.1 hx;have hi:=List.mem_range.1 hi
 split at h
 ·cases h;exact endV_bd hG hs (by omega)
 ·cases h
theorem ends_len (j:JobP) (b:Bd) (first:Int) (k:Nat):(endsAfter j b first k).length<=k:=by
 unfold endsAfter;have:=List.length_filterMap_le (fun i=>if b.pl.getD i false&&decide (first<endV j b i) then some (endV j b i) else none) (List.range k)
 simpa using this
theorem offs_bd {l:List JSpan} (h:∀s∈l,0<=s.lo/\s.lo<=s.hi/\s.hi<=100000) (first:Int):∀x∈offsAfter first l,0<=x/\x<=200000:=by
 intro x hx;unfold offsAfter at hx;obtain⟨s,hs,he⟩:=List.mem_filterMap.1 hx;have:=h s hs
 split at he
 ·cases he;omega
 ·cases he
theorem offs_len (first:Int) (l:List JSpan):(offsAfter first l).length<=l.length:=List.length_filterMap_le _ _
theorem getR_mem {j:JobP} {r:Int} (h:0<=r/\r<j.res.length):j.res.getD r.toNat default∈j.res:=by
 rw[getD_of (by omega)];exact zC _
theorem usesA_bd {j:JobP} (hG:JGood j) (first:Int) {l:List JUse} (h:∀u∈l,0<=u.res/\u.res<j.res.length):∀x∈usesAfter j first l,0<=x/\x<=200000:=by
 intro x hx;unfold usesAfter at hx;obtain⟨u,hu,hx⟩:=List.mem_flatMap.1 hx;exact offs_bd (fun s hs=>hG.off _ (getR_mem (h u hu)) s hs) first x hx
theorem usesA_len {j:JobP} (hG:JGood j) (first:Int):∀ {l:List JUse},(∀u∈l,0<=u.res/\u.res<j.res.length)->(usesAfter j first l).length<=16*l.length
 | [],_=>by simp[usesAfter]
 | u::l,h=>by
  have h1:=usesA_len hG first (l:=l) (fun x hx=>h x (zQ _ hx))
  have h2:=offs_len first (j.res.getD u.res.toNat default).off
  have h3:=hG.noff _ (getR_mem (h u (zL ..)));unfold usesAfter at h1 ⊢;rw[List.flatMap_cons,zF,List.length_cons];omega
theorem tries_bd {j:JobP} (hG:JGood j) {b:Bd} (hs:∀i,0<=b.st.getD i 0/\b.st.getD i 0<=100000) {fr:Int} (hf:0<=fr/\fr<=200000) {n:Nat} (hn:n<j.tasks.length):∀x∈triesV j b fr n,0<=x/\x<=200000:=by
 intro x hx;unfold triesV at hx;have hm:j.tasks.getD n default∈j.tasks:=by rw[getD_of hn];exact zC _
 rcases List.mem_append.1 hx with hx | hx
 ·rcases List.mem_append.1 hx with hx | hx
  ·rw[zN.1 hx];exact ready_bd hG hs hf hn
  ·exact ends_bd hG hs _ (zm _) x hx
 ·exact usesA_bd hG _ (fun u hu=>⟨(hG.uses _ hm u hu).1,(hG.uses _ hm u hu).2.1⟩) x hx
theorem place_bd {j:JobP} (hG:JGood j) {b:Bd} (hs:∀i,0<=b.st.getD i 0/\b.st.getD i 0<=100000) {fr:Int} (hf:0<=fr/\fr<=200000) {n:Nat} (hn:n<j.tasks.length) {s:Int} (h:placeV j b fr n=some s):0<=s/\s<=100000/\fitsV j b n s=true:=by
 unfold placeV at h;have h1:=List.find?_some h;have h2:=List.mem_of_find?_eq_some h;have h3:=tries_bd hG hs hf hn s ((sortI_perm _).mem_iff.1 h2);have ht:=hG.takes (j.tasks.getD n default) (by rw[getD_of hn];exact zC _);refine⟨h3.1,?_,h1⟩;unfold fitsV at h1;simp only[zY,decide_eq_true_eq] at h1;omega
end W8
namespace Go.Proofs.YtjpgnfekbojcaaaGreat
open Go.RowKit W7 W8
attribute [local go_sem] Oper.semAt_some
structure Kept2 (w w':World) (a b:Nat):Prop where
 os:w'.os=w.os
 tape:w'.tape=w.tape
 output:w'.output=w.output
 size:w.heap.size<=w'.heap.size
 block:∀i,i<w.heap.size->i≠a->i≠b->w'.heap[i]? =w.heap[i]?
theorem Kept2.refl (w:World) (a b:Nat):Kept2 w w a b:=⟨rfl,rfl,rfl,zm _,fun _ _ _ _=>rfl⟩
theorem Kept2.of_below {w w':World} {a b:Nat} (h:Bl w w'):Kept2 w w' a b:=⟨h.os,h.tape,h.output,h.size,fun i hi _ _=>h.block i hi⟩
theorem Kept2.trans {u v w:World} {a b:Nat} (h:Kept2 u v a b) (k:Kept2 v w a b):Kept2 u w a b:=
 ⟨k.os.trans h.os,k.tape.trans h.tape,k.output.trans h.output,Nat.le_trans h.size k.size,fun i hi x y=>(k.block i (Nat.lt_of_lt_of_le hi h.size) x y).trans (h.block i hi x y)⟩
theorem Kept2.below {w w':World} {a b B:Nat} (h:Kept2 w w' a b) (ha:B<=a) (hb:B<=b) (hB:B<=w.heap.size):Below B w w':=
 ⟨h.os,h.tape,h.output,h.size,fun i hi=>h.block i (Nat.lt_of_lt_of_le hi hB) (by omega) (by omega)⟩
theorem Kept2.setL (w:World) (a b j:Nat) (x:Value):Kept2 w (w.setCell ⟨a,j,none⟩ x) a b:=⟨rfl,rfl,rfl,by simp[World.setCell],fun i _ h _=>Below.heap_setCell _ _ _ _ (fun e=>h e)⟩
theorem Kept2.setR (w:World) (a b j:Nat) (x:Value):Kept2 w (w.setCell ⟨b,j,none⟩ x) a b:=⟨rfl,rfl,rfl,by simp[World.setCell],fun i _ _ h=>Below.heap_setCell _ _ _ _ (fun e=>h e)⟩
theorem BOk.put {b:Bd} {n:Nat} {s:Int} (h:BOk b) (hs:0<=s/\s<=100000):BOk (b.put n s):=fun i=>by
 unfold Bd.put;rw[zA,List.getElem?_set];have:=h i;rw[zA] at this
 split
 ·split
  ·exact hs
  ·exact⟨Int.le_refl _,by decide⟩
 ·exact this
theorem place1_any (j:Job) (b:Bd) (fr x:Int) (k bb bn g sb pb B:Nat) (w:World) (hb:BdIn w g sb pb j b fr) (hj:JIn w B j) (hB:B<=w.heap.size) (hG:JGood j.p) (hs:BOk b) (hk:k<j.tasks.length) (hx:0<=x/\x<=1000000)
  (h0:w.cell? ⟨bb,0,none⟩=some (.pointer (some ⟨g,0,none⟩))) (h1:w.cell? ⟨bn,0,none⟩=some (.int .i64 (k:Int))) :
  Calls Tryz.prog 183 #[.int .i64 x,.pointer (some ⟨bb,0,none⟩),.pointer (some ⟨bn,0,none⟩)] w fun e w'=>e= .returned (.bool (fitsV j.p b k x))/\Bl w w':=by
 have HF:=hI (fits_any j b fr x k g sb pb B w hb hj hB hG hs hk hx);clear hb hj hG hs hk;go_enter Tryz.func183,Tryz.ntmps183;go_wp2_with (go_at_call 139;refine HF.o.mono ?_;rintro e w2 ⟨rfl,hb2⟩;have Hb2:=hI hb2;clear hb2);go_ret;exact⟨rfl,Hb2.o⟩
set_option maxHeartbeats 1000000 in
theorem idxPlace_any (P:Int->Bool) (a0 a1:Value) (xs:List Int) (n:Nat) (hn:n=xs.length) (A:Option Addr) (c B:Nat) (w:World) (hA:Sl w B 1 encInt1 A xs) (hB:B<=w.heap.size) (hl:xs.length<=9223372036854775807)
    (hF:∀(x:Int),x∈xs->∀(W:World),Bl w W->Calls Tryz.prog 183 #[.int .i64 x,a0,a1] W fun e w'=>e= .returned (.bool (P x))/\Bl W w') :
    Calls Tryz.prog 132 #[.slice A n c,.func (.func 183) #[] #[a0,a1]] w fun e w'=>e= .returned (.int .i64 (idxB P xs))/\Bl w w':=by
  subst hn;have HA:=hI hA;have HF:=hI hF;clear hA hF;go_enter Tryz.func132,Tryz.ntmps132;go_wp2;go_loopw [8] (fun i wr=>∃k:Nat,k<=xs.length/\i= .int .i64 k/\Hid ((xs.take k).any P=false)/\Hid (Bl w wr)) (fun i _=>xs.length-(intOf i).toNat);case atStart=>exact⟨0,by omega,rfl,hI (by simp),hI (zX _ _)⟩
  case round=>
    obtain⟨k,hk,rfl,Hno,Hb⟩:=hrel;have hsz:=Hb.o.size
    by_cases hlt:k<xs.length
    · obtain⟨b,off,rfl,hbB,hcells⟩:=(HA.o.below (Hb.o.mono hB)) (by omega)
      have h0:=hcells k hlt;clear hcells;have c0:wr.cell? ⟨b,off+k,none⟩=some (.int .i64 xs[k]):=(by have h:=h0 0 _ rfl;rwa [Nat.mul_one,Nat.add_zero] at h)
      have Hs:=hI (any_take_succ (p:=P) hlt Hno.o);have Hh:=hI (idxB_hit (p:=P) hlt Hno.o);have HK:=hI (fun(W:World) (hW:Bl w W)=>HF.o xs[k] (zC hlt) W hW);generalize xs[k]=x at c0 Hs Hh HK;clear h0;cases hp:P x
      · have HK2:=hI (fun(W:World) (hW:Bl w W)=>hp▸HK.o W hW)
        go_wp2_with (go_at_call 183;refine(HK2.o _ (by first | exact Hb.o | exact Hb.o.alloc (by omega) _)).mono ?_;rintro e w1 ⟨rfl,hb1⟩;have Hb1:=hI hb1;clear hb1);go_roundw;case rel=>exact⟨k+1,by omega,by go_num,hI (Hs.o hp),hI (by first | exact Hb.o.trans (Hb1.o.mono hsz) | exact(Hb.o.alloc (by omega) _).trans (Hb1.o.mono (by simp;omega)))⟩
        case measure=>simp[intOf];omega
      · have HK2:=hI (fun(W:World) (hW:Bl w W)=>hp▸HK.o W hW)
        go_wp2_with (go_at_call 183;refine(HK2.o _ (by first | exact Hb.o | exact Hb.o.alloc (by omega) _)).mono ?_;rintro e w1 ⟨rfl,hb1⟩;have Hb1:=hI hb1;clear hb1);go_ret;exact⟨ret_int (Hh.o hp).symm,(by first | exact Hb.o.trans (Hb1.o.mono hsz) | exact(Hb.o.alloc (by omega) _).trans (Hb1.o.mono (by simp;omega)))⟩
    · have HN:=hI (idxB_none (p:=P) (xs:=xs) (by rw[<- Hno.o,zG (by omega)]))
      go_wp2;go_ret;exact⟨ret_int HN.o.symm,Hb.o⟩

end Go.Proofs.YtjpgnfekbojcaaaGreat
namespace W8
open W7
theorem resErrAt_name {l:List ResP} {k:Nat} (hk:k<l.length) (h:nameB l[k].name=false):resErrAt l k=5:=by
 unfold resErrAt;rw[getD_of hk,h];rfl
theorem resErrAt_twice {l:List ResP} {k:Nat} (hk:k<l.length) (h:nameB l[k].name=true) (h2:(l.take k).any (fun x=>strEq x.name l[k].name)=true):resErrAt l k=6:=by
 unfold resErrAt;rw[getD_of hk,h,h2];rfl
theorem resErrAt_rest {l:List ResP} {k:Nat} (hk:k<l.length) (h:nameB l[k].name=true) (h2:(l.take k).any (fun x=>strEq x.name l[k].name)=false):resErrAt l k=resErr1 l[k]:=by
 unfold resErrAt;rw[getD_of hk,h,h2];rfl
theorem any_map_name (l:List Res) (k:Nat) (nm:ByteArray):((l.map (·.p)).take k).any (fun x=>strEq x.name nm)=(l.take k).any (fun x=>strEq x.p.name nm):=by
 rw[<- List.map_take,List.any_map];rfl
theorem any_map_nameT (l:List Task) (k:Nat) (nm:ByteArray):((l.map (·.p)).take k).any (fun x=>strEq x.name nm)=(l.take k).any (fun x=>strEq x.p.name nm):=by
 rw[<- List.map_take,List.any_map];rfl
end W8
namespace Go.Proofs.YtjpgnfekbojcaaaGreat
open Go.RowKit W7 W8
attribute [local go_sem] Oper.semAt_some
theorem res1_any (x:Res) (nm:ByteArray) (bg:Nat) (w:World) (hc:w.cell? ⟨bg,0,none⟩=some (.string nm)) (hb:bg<w.heap.size) :
  Calls Tryz.prog 165 #[.agg #[.string x.p.name,.int .i64 x.p.many,.slice x.OA x.p.off.length x.oc],.pointer (some ⟨bg,0,none⟩)] w fun e w'=>e= .returned (.bool (strEq x.p.name nm))/\Bl w w':=by
 go_enter Tryz.func165,Tryz.ntmps165;go_wp2;go_ret;exact⟨rfl,(by(repeat (refine Below.alloc ?_ (by first | exact zm _ | omega | (simp;done) | (simp;omega)) _));exact zX _ _)⟩
set_option maxHeartbeats 1000000 in
theorem idxRes_any (P:Res->Bool) (a0:Value) (xs:List Res) (n:Nat) (hn:n=xs.length) (A:Option Addr) (c B:Nat) (w:World) (hA:Sl w B 3 encRes A xs) (hB:B<=w.heap.size) (hl:xs.length<=9223372036854775807)
    (hF:∀(x:Res),x∈xs->∀(W:World),Bl w W->Calls Tryz.prog 165 #[.agg #[.string x.p.name,.int .i64 x.p.many,.slice x.OA x.p.off.length x.oc],a0] W fun e w'=>e= .returned (.bool (P x))/\Bl W w') :
    Calls Tryz.prog 194 #[.slice A n c,.func (.func 165) #[] #[a0]] w fun e w'=>e= .returned (.int .i64 (idxB P xs))/\Bl w w':=by
  subst hn;have HA:=hI hA;have HF:=hI hF;clear hA hF;go_enter Tryz.func194,Tryz.ntmps194;go_wp2;go_loopw [8] (fun i wr=>∃k:Nat,k<=xs.length/\i= .int .i64 k/\Hid ((xs.take k).any P=false)/\Hid (Bl w wr)) (fun i _=>xs.length-(intOf i).toNat);case atStart=>exact⟨0,by omega,rfl,hI (by simp),hI (zX _ _)⟩
  case round=>
    obtain⟨k,hk,rfl,Hno,Hb⟩:=hrel;have hsz:=Hb.o.size
    by_cases hlt:k<xs.length
    · obtain⟨b,off,rfl,hbB,hcells⟩:=(HA.o.below (Hb.o.mono hB)) (by omega)
      have h0:=hcells k hlt;clear hcells;have c0:wr.cell? ⟨b,off+k*3,none⟩=some (.string xs[k].p.name):=h0 0 _ rfl;have c1:wr.cell? ⟨b,off+k*3+1,none⟩=some (.int .i64 xs[k].p.many):=h0 1 _ rfl;have c2:wr.cell? ⟨b,off+k*3+2,none⟩=some (.slice xs[k].OA xs[k].p.off.length xs[k].oc):=h0 2 _ rfl;have Hs:=hI (any_take_succ (p:=P) hlt Hno.o);have Hh:=hI (idxB_hit (p:=P) hlt Hno.o);have HK:=hI (fun(W:World) (hW:Bl w W)=>HF.o xs[k] (zC hlt) W hW);generalize xs[k]=x at c0 c1 c2 Hs Hh HK;clear h0;cases hp:P x
      · have HK2:=hI (fun(W:World) (hW:Bl w W)=>hp▸HK.o W hW)
        go_wp2_with (go_at_call 165;refine(HK2.o _ (by first | exact Hb.o | exact Hb.o.alloc (by omega) _)).mono ?_;rintro e w1 ⟨rfl,hb1⟩;have Hb1:=hI hb1;clear hb1);go_roundw;case rel=>exact⟨k+1,by omega,by go_num,hI (Hs.o hp),hI (by first | exact Hb.o.trans (Hb1.o.mono hsz) | exact(Hb.o.alloc (by omega) _).trans (Hb1.o.mono (by simp;omega)))⟩
        case measure=>simp[intOf];omega
      · have HK2:=hI (fun(W:World) (hW:Bl w W)=>hp▸HK.o W hW)
        go_wp2_with (go_at_call 165;refine(HK2.o _ (by first | exact Hb.o | exact Hb.o.alloc (by omega) _)).mono ?_;rintro e w1 ⟨rfl,hb1⟩;have Hb1:=hI hb1;clear hb1);go_ret;exact⟨ret_int (Hh.o hp).symm,(by first | exact Hb.o.trans (Hb1.o.mono hsz) | exact(Hb.o.alloc (by omega) _).trans (Hb1.o.mono (by simp;omega)))⟩
    · have HN:=hI (idxB_none (p:=P) (xs:=xs) (by rw[<- Hno.o,zG (by omega)]))
      go_wp2;go_ret;exact⟨ret_int HN.o.symm,Hb.o⟩
theorem conRes_any (P:Res->Bool) (a0:Value) (xs:List Res) (n:Nat) (hn:n=xs.length) (A:Option Addr) (c B:Nat) (w:World) (hA:Sl w B 3 encRes A xs) (hB:B<=w.heap.size) (hl:xs.length<=9223372036854775807)
    (hF:∀(x:Res),x∈xs->∀(W:World),Bl w W->Calls Tryz.prog 165 #[.agg #[.string x.p.name,.int .i64 x.p.many,.slice x.OA x.p.off.length x.oc],a0] W fun e w'=>e= .returned (.bool (P x))/\Bl W w') :
    Calls Tryz.prog 164 #[.slice A n c,.func (.func 165) #[] #[a0]] w fun e w'=>e= .returned (.bool (xs.any P))/\Bl w w':=by
  have H:=hI (idxRes_any P a0 xs n hn A c B w hA hB hl hF);have HI:=hI (idxB_any (p:=P) (xs:=xs));clear hA hn hF;go_enter Tryz.func164,Tryz.ntmps164;go_wp2_with (go_at_call 194;refine H.o.mono ?_;rintro e w1 ⟨rfl,hb1⟩;have Hb1:=hI hb1;clear hb1);go_ret;exact⟨ret_bool HI.o,Hb1.o⟩

theorem resources_any (l:List Res) (A:Option Addr) (n c B:Nat) (w:World) (hn:n=l.length) (hA:Sl w B 3 encRes A l) (hR:∀r∈l,RsIn w B r) (hB:B<=w.heap.size) (hnc:n<=c) (_hc:c<=9223372036854775807) :
  Calls Tryz.prog 97 #[.slice A n c] w fun e w'=>e= .returned (.int .i64 (ressErr (l.map (·.p))))/\Bl w w':=by
 have HA:=hI (show ∀X:World,Bl w X->Sl X B 3 encRes A l from fun X hX=>hA.below (hX.mono hB));have HR:=hI (show ∀X:World,Bl w X->∀r∈l,RsIn X B r from fun X hX r hr=>(hR r hr).below (hX.mono hB));have Hn:=hI hn;have HE:=hI (show ressErr (l.map (·.p))=if 16<n then 3 else firstErr (resErrAt (l.map (·.p))) n by unfold ressErr;rw[List.length_map,<-hn]);clear hn hA hR
 by_cases h16:16<n
 ·have HE3:=hI (show ressErr (l.map (·.p))=3 by rw[HE.o,if_pos h16]);go_enter Tryz.func97,Tryz.ntmps97;go_wp2;go_ret;exact⟨ret_int HE3.o.symm,zX _ _⟩
 have HE2:=hI (show ressErr (l.map (·.p))=firstErr (resErrAt (l.map (·.p))) n by rw[HE.o,if_neg h16]);go_enter Tryz.func97,Tryz.ntmps97;go_wp2;go_loopw [12] (fun v12 wr=>∃i:Nat,i<=n/\v12= .int .i64 i/\Hid (Bl w wr)/\Hid (firstErr (resErrAt (l.map (·.p))) i=0)) (fun v12 _=>n-(intOf v12).toNat);case atStart=>exact⟨0,by omega,rfl,hI (zX _ _),hI rfl⟩
 case round=>
  obtain⟨i,hi,rfl,Hb,Hf⟩:=hrel;have hsr:=Hb.o.size
  by_cases hlt:i<n
  ·have hil:i<l.length:=by have:=Hn.o;omega
   obtain⟨b,off,hbe,hbB,hcells⟩:=(HA.o wr Hb.o) (by omega)
   subst hbe;have c0:wr.cell? ⟨b,off+i*3,none⟩=some (.string l[i].p.name):=hcells i hil 0 _ rfl;have c1:wr.cell? ⟨b,off+i*3+1,none⟩=some (.int .i64 l[i].p.many):=hcells i hil 1 _ rfl;have c2:wr.cell? ⟨b,off+i*3+2,none⟩=some (.slice l[i].OA l[i].p.off.length l[i].oc):=hcells i hil 2 _ rfl;have hip:i<(l.map (·.p)).length:=by rw[List.length_map];exact hil
   have Hat:=hI (show resErrAt (l.map (·.p)) i≠0->ressErr (l.map (·.p))=resErrAt (l.map (·.p)) i from fun h=>HE2.o.trans (firstErr_at Hf.o h (by omega)));have Hsn:=hI (show firstErr (resErrAt (l.map (·.p))) (i+1)=resErrAt (l.map (·.p)) i from firstErr_succ Hf.o);have HN1:=hI (fun h=>resErrAt_name (l:=l.map (·.p)) hip h);have HN2:=hI (fun h1 h2=>resErrAt_twice (l:=l.map (·.p)) hip h1 h2);have HN3:=hI (fun h1 h2=>resErrAt_rest (l:=l.map (·.p)) hip h1 h2);rw[List.getElem_map,any_map_name] at HN2 HN3;rw[List.getElem_map] at HN1;have hrr:=HR.o wr Hb.o _ (zC hil);have hnm:=hrr.nm;have hol:=hrr.ol;have hoc:=hrr.oc;have HOs:=hI (show ∀X:World,Bl w X->Sl X B 2 encJSpan l[i].OA l[i].p.off from fun X hX=>(HR.o X hX _ (zC hil)).os);generalize l[i]=r at c0 c1 c2 HN1 HN2 HN3 hnm hol hoc HOs;obtain⟨OA,hOA⟩:=eX r.OA;obtain⟨no,hno⟩:=eX r.p.off.length;rw[hOA,hno] at c2;rw[hOA] at HOs;rw[hno] at hol;have Hno:=hI hno
   clear hcells hOA hno hrr;have HTk:=hI ((HA.o wr Hb.o).take i);obtain⟨W2,hW2⟩:=eY (wr.alloc (.cells #[.string r.p.name,.int .i64 r.p.many,.slice OA no r.oc] 43));have hs2:wr.heap.size+1<=W2.heap.size:=by rw[hW2];simp
   have HB2:=hI (show Bl wr W2 by rw[hW2];exact(zX _ _).alloc (zm _) _);have HU2:=hI (show ∀X:World,Bl W2 X->Bl w X from fun X hX=>Hb.o.trans ((HB2.o.trans (hX.mono (by omega))).mono hsr));have HXr:=hI (show ∀X:World,Bl W2 X->X.heap[wr.heap.size]? =some (.cells #[.string r.p.name,.int .i64 r.p.many,.slice OA no r.oc] 43 (0,0)) from fun X hX=>(hX.block _ (by omega)).trans (by rw[hW2];exact zW _ _));have HCon:=hI (conRes_any (fun x=>strEq x.p.name r.p.name) (.pointer (some ⟨wr.heap.size,0,none⟩)) (l.take i) i (by rw[List.length_take];omega) (some ⟨b,off,none⟩) c B W2 (HTk.o.below (HB2.o.mono (by omega))) (by omega) (by rw[List.length_take];omega) (fun x _ W hW=>res1_any x r.p.name wr.heap.size W (kC 0 (HXr.o W hW) rfl) (by have:=hW.size;omega)));go_upto_region 6 with fail;rw[<- hW2];clear hW2 c0 c1 c2 HTk;have q0:=kC 0 (HXr.o W2 (zX _ _)) rfl;have q1:=kC 1 (HXr.o W2 (zX _ _)) rfl;have q2:=kC 2 (HXr.o W2 (zX _ _)) rfl
   cases hN:nameB r.p.name
   ·have HV:=hI (show ressErr (l.map (·.p))=5 by rw[Hat.o (by rw[HN1.o hN];decide),HN1.o hN]);go_wp2_with (go_at_call 106;refine(isName_any r.p.name hnm _).mono ?_;rintro e w' ⟨rfl,rfl⟩);go_ret;exact⟨ret_int HV.o.symm,HU2.o _ (zX _ _)⟩
   have HN2:=hI (HN2.o hN);have HN3:=hI (HN3.o hN);cases hT:(l.take i).any (fun x=>strEq x.p.name r.p.name);rotate_left
   ·have HV:=hI (show ressErr (l.map (·.p))=6 by rw[Hat.o (by rw[HN2.o hT];decide),HN2.o hT]);rw[hT] at HCon;go_wp2_with (first | (go_at_call 106;refine(isName_any r.p.name hnm _).mono ?_;rintro e w' ⟨rfl,rfl⟩) | (go_at_call 164;refine HCon.o.mono ?_;rintro e w3 ⟨rfl,hb3⟩;have Hb3:=hI hb3;clear hb3));go_ret;exact⟨ret_int HV.o.symm,HU2.o _ Hb3.o⟩
   have HN4:=hI (HN3.o hT);rw[hT] at HCon;go_upto_region 10 with(first | (go_at_call 106;refine(isName_any r.p.name hnm _).mono ?_;rintro e w' ⟨rfl,rfl⟩) | (go_at_call 164;refine HCon.o.mono ?_;rintro e w3 ⟨rfl,hb3⟩;have Hb3:=hI hb3;have hs3:=hb3.size;clear hb3))
   clear q0 q1 q2 HN1 HN2 HN3 hT HCon;have q0:=kC 0 (HXr.o w3 Hb3.o) rfl;have q1:=kC 1 (HXr.o w3 Hb3.o) rfl;have q2:=kC 2 (HXr.o w3 Hb3.o) rfl;have HRe:=hI (show resErr1 r.p=if withinB r.p.many 0 1000 then offErr r.p.off else 1 from rfl);cases hM:withinB r.p.many 0 1000
   ·have HV:=hI (show ressErr (l.map (·.p))=1 by
     have h1:resErrAt (l.map (·.p)) i=1:=by rw[HN4.o,HRe.o,hM];rfl
     rw[Hat.o (by rw[h1];decide),h1])
    go_wp2_with (go_at_call 62;refine(within_any _ _ _ _).mono ?_;rintro e w' ⟨rfl,rfl⟩);go_ret;exact⟨ret_int HV.o.symm,HU2.o _ Hb3.o⟩
   have HRf:=hI (show resErrAt (l.map (·.p)) i=if 16<no then 3 else firstErr (spanErrAt r.p.off) no by rw[HN4.o,HRe.o,hM,if_pos rfl];unfold offErr;rw[Hno.o])
   by_cases ho16:16<no
   ·have HV:=hI (show ressErr (l.map (·.p))=3 by
     have h1:resErrAt (l.map (·.p)) i=3:=by rw[HRf.o,if_pos ho16]
     rw[Hat.o (by rw[h1];decide),h1])
    go_wp2_with (go_at_call 62;refine(within_any _ _ _ _).mono ?_;rintro e w' ⟨rfl,rfl⟩);go_ret;exact⟨ret_int HV.o.symm,HU2.o _ Hb3.o⟩
   have HRg:=hI (show resErrAt (l.map (·.p)) i=firstErr (spanErrAt r.p.off) no by rw[HRf.o,if_neg ho16]);go_wp2_with (go_at_call 62;refine(within_any _ _ _ _).mono ?_;rintro e w' ⟨rfl,rfl⟩);clear q0 q1 q2 HN4 HRe HRf;obtain⟨wa,rfl⟩:∃wa:World,wa=wr:=⟨_,rfl⟩
   go_loopw [41] (fun v41 wr=>∃k:Nat,k<=no/\v41= .int .i64 k/\Hid (Bl W2 wr)/\Hid (firstErr (spanErrAt r.p.off) k=0)) (fun v41 _=>no-(intOf v41).toNat);case atStart=>exact⟨0,by omega,rfl,Hb3,hI rfl⟩
   case round=>
    obtain⟨k,hk,rfl,Hb4,Hf4⟩:=hrel;have hsr4:=Hb4.o.size
    by_cases hlt4:k<no
    ·have hkl:k<r.p.off.length:=by have:=Hno.o;omega
     obtain⟨ob,ooff,hoe,hob,hcells⟩:=(HOs.o _ (HU2.o _ Hb4.o)) (by omega)
     subst hoe;have c0:wr.cell? ⟨ob,ooff+k*2,none⟩=some (.int .i64 r.p.off[k].lo):=hcells k hkl 0 _ rfl;have c1:wr.cell? ⟨ob,ooff+k*2+1,none⟩=some (.int .i64 r.p.off[k].hi):=hcells k hkl 1 _ rfl;obtain⟨ph,hph⟩:=eX ((r.p.off.getD (k-1) default).hi)
     have cp:0<k->wr.cell? ⟨ob,ooff+(k-1)*2+1,none⟩=some (.int .i64 ph):=fun h0=>by
      rw[<- hph,getD_of (by omega)];exact hcells (k-1) (by omega) 1 _ rfl
     have HSp:=hI (show spanErrAt r.p.off k=if isTm r.p.off[k].lo&&isTm r.p.off[k].hi&&decide (r.p.off[k].lo<=r.p.off[k].hi)&&(decide (k=0)||decide (ph<r.p.off[k].lo)) then 0 else 1 by unfold spanErrAt;rw[getD_of hkl,hph])
     have HBad:=hI (show spanErrAt r.p.off k=1->ressErr (l.map (·.p))=1 from fun h=>by
      have h2:resErrAt (l.map (·.p)) i=1:=by rw[HRg.o,firstErr_at Hf4.o (by rw[h];decide) hlt4,h]
      rw[Hat.o (by rw[h2];decide),h2])
     have Hs4:=hI (show firstErr (spanErrAt r.p.off) (k+1)=spanErrAt r.p.off k from firstErr_succ Hf4.o);generalize r.p.off[k]=sp at c0 c1 HSp;obtain⟨W5,hW5⟩:=eY (wr.alloc (.cells #[.int .i64 sp.lo,.int .i64 sp.hi] 50));have hs5:wr.heap.size+1<=W5.heap.size:=by rw[hW5];simp
     have HB5:=hI (show Bl W2 W5 by rw[hW5];exact Hb4.o.alloc hsr4 _);have hBw:Bl wr W5:=by rw[hW5];exact(zX _ _).alloc (zm _) _
     have y0:=zV (show W5.cell? ⟨wr.heap.size,0,none⟩=some (.int .i64 sp.lo) by rw[hW5];exact alloc_cell rfl) (by omega);have y1:=zV (show W5.cell? ⟨wr.heap.size,1,none⟩=some (.int .i64 sp.hi) by rw[hW5];exact alloc_cell rfl) (by omega);have y2:=zV (kC 2 (HXr.o W5 HB5.o) rfl) (by omega);have yp:0<k->∀e:Later W5,e.w.cell? ⟨ob,ooff+(k-1)*2+1,none⟩=some (.int .i64 ph):=fun h0=>zV ((hBw.cell (p:=⟨ob,ooff+(k-1)*2+1,none⟩) (by simp;omega)).trans (cp h0)) (by omega)
     clear hcells hph cp hBw;go_upto_region 17 with fail;rw[<- hW5];clear hW5 c0 c1;cases h1:isTm sp.lo
     ·have HV:=hI (HBad.o (by rw[HSp.o,h1];simp));refine wp_region_later (by kernel_rfl) (by kernel_rfl) ?_
      repeat (any_goals (first | go_big_quiet_step ((go_at_call 70;exact later_call_same _ (isTime_any _ _))) | quiet_step ((go_at_call 70;exact later_call_same _ (isTime_any _ _)))))
      refine wpQuiet_nil ?_;rintro w' ⟨e,rfl⟩;have HEb:=hI (HU2.o _ (HB5.o.trans (e.b.mono (by omega))));go_wp2;go_ret;exact⟨ret_int HV.o.symm,HEb.o⟩
     cases h2:isTm sp.hi
     ·have HV:=hI (HBad.o (by rw[HSp.o,h1,h2];simp));refine wp_region_later (by kernel_rfl) (by kernel_rfl) ?_
      repeat (any_goals (first | go_big_quiet_step ((go_at_call 70;exact later_call_same _ (isTime_any _ _))) | quiet_step ((go_at_call 70;exact later_call_same _ (isTime_any _ _)))))
      refine wpQuiet_nil ?_;rintro w' ⟨e,rfl⟩;have HEb:=hI (HU2.o _ (HB5.o.trans (e.b.mono (by omega))));go_wp2;go_ret;exact⟨ret_int HV.o.symm,HEb.o⟩
     cases h3:decide (sp.hi<sp.lo);rotate_left
     ·have HV:=hI (HBad.o (by rw[HSp.o,h1,h2,zE (show ¬sp.lo<=sp.hi by have:=zI h3;omega)];simp));refine wp_region_later (by kernel_rfl) (by kernel_rfl) ?_
      repeat (any_goals (first | go_big_quiet_step ((go_at_call 70;exact later_call_same _ (isTime_any _ _))) | quiet_step ((go_at_call 70;exact later_call_same _ (isTime_any _ _)))))
      refine wpQuiet_nil ?_;rintro w' ⟨e,rfl⟩;have HEb:=hI (HU2.o _ (HB5.o.trans (e.b.mono (by omega))));go_wp2;go_ret;exact⟨ret_int HV.o.symm,HEb.o⟩
     have h3':=zD (show sp.lo<=sp.hi by have:=zH h3;omega);have H3':=hI h3';clear h3'
     by_cases hk0:0<k
     ·have yp:=yp hk0;cases h4:decide (sp.lo<=ph)
      ·have HV:=hI (show spanErrAt r.p.off k=0 by rw[HSp.o,h1,h2,H3'.o,zD (show ph<sp.lo by have:=zH h4;omega)];simp);refine wp_region_later (by kernel_rfl) (by kernel_rfl) ?_
       repeat (any_goals (first | go_big_quiet_step ((go_at_call 70;exact later_call_same _ (isTime_any _ _))) | quiet_step ((go_at_call 70;exact later_call_same _ (isTime_any _ _)))))
       refine wpQuiet_nil ?_;rintro w' ⟨e,rfl⟩;have HEb:=hI (HB5.o.trans (e.b.mono (by omega)));go_wp2;go_roundw;case rel=>exact⟨k+1,by omega,by go_num,HEb,hI (by rw[Hs4.o,HV.o])⟩
       case measure=>simp[intOf];omega
      ·have HV:=hI (HBad.o (by rw[HSp.o,h1,h2,H3'.o,zE (show ¬ph<sp.lo by have:=zI h4;omega),zE (show ¬k=0 by omega)];simp));refine wp_region_later (by kernel_rfl) (by kernel_rfl) ?_
       repeat (any_goals (first | go_big_quiet_step ((go_at_call 70;exact later_call_same _ (isTime_any _ _))) | quiet_step ((go_at_call 70;exact later_call_same _ (isTime_any _ _)))))
       refine wpQuiet_nil ?_;rintro w' ⟨e,rfl⟩;have HEb:=hI (HU2.o _ (HB5.o.trans (e.b.mono (by omega))));go_wp2;go_ret;exact⟨ret_int HV.o.symm,HEb.o⟩
     ·clear yp;have HV:=hI (show spanErrAt r.p.off k=0 by rw[HSp.o,h1,h2,H3'.o,zD (show k=0 by omega)];simp);refine wp_region_later (by kernel_rfl) (by kernel_rfl) ?_
      repeat (any_goals (first | go_big_quiet_step ((go_at_call 70;exact later_call_same _ (isTime_any _ _))) | quiet_step ((go_at_call 70;exact later_call_same _ (isTime_any _ _)))))
      refine wpQuiet_nil ?_;rintro w' ⟨e,rfl⟩;have HEb:=hI (HB5.o.trans (e.b.mono (by omega)));go_wp2;go_roundw;case rel=>exact⟨k+1,by omega,by go_num,HEb,hI (by rw[Hs4.o,HV.o])⟩
      case measure=>simp[intOf];omega
    ·have HV:=hI (show firstErr (resErrAt (l.map (·.p))) (i+1)=0 by rw[Hsn.o,HRg.o,show no=k by omega];exact Hf4.o);go_wp2;go_roundw;case rel=>exact⟨i+1,by omega,by go_num,hI (HU2.o _ Hb4.o),HV⟩
     case measure=>simp[intOf];omega
  ·have HV:=hI (show ressErr (l.map (·.p))=0 by rw[HE2.o,show n=i by omega];exact Hf.o);go_wp2;go_ret;exact⟨ret_int HV.o.symm,Hb.o⟩
end Go.Proofs.YtjpgnfekbojcaaaGreat
