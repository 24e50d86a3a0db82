/- Plain laws of Fail: the board while the tasks are gone through;the spans joined stay valid ones. -/

set_option maxHeartbeats 8000000
set_option maxRecDepth 100000
namespace W8
open W7
def fbd (j:JobP) (st:List Int) (now r:Int) (i:Nat):Bd:=
 ⟨(List.range j.tasks.length).map (fun k=>if k<i/\keptB j st now r k=true then st.getD k 0 else 0),(List.range j.tasks.length).map (fun k=>decide (k<i)&&keptB j st now r k)⟩
def ford (j:JobP) (st:List Int) (now r:Int) (i:Nat):List Int:=((List.range i).filter (fun k=> !keptB j st now r k)).map (fun(k:Nat)=>(k:Int))
theorem fbd_zero (j:JobP) (st:List Int) (now r:Int):fbd j st now r 0=bd0 j:=by
 unfold fbd bd0
 congr 1
 ·apply List.ext_getElem<;>simp
 ·apply List.ext_getElem<;>simp
theorem fbd_full (j:JobP) (st:List Int) (now r:Int):fbd j st now r j.tasks.length=failBd j st now r:=by
 unfold fbd failBd
 congr 1
 ·refine List.map_congr_left (fun k hk=> ?_);have:=List.mem_range.1 hk
  by_cases h:keptB j st now r k=true<;>simp[h,this]
 ·refine List.map_congr_left (fun k hk=> ?_);have:=List.mem_range.1 hk;simp[this]
theorem fbd_no {j:JobP} {st:List Int} {now r:Int} {i:Nat} (h:keptB j st now r i=false):fbd j st now r (i+1)=fbd j st now r i:=by
 unfold fbd
 congr 1
 ·refine List.map_congr_left (fun k _=> ?_)
  by_cases hk:k=i
  ·subst hk;simp[h]
  ·have:(k<i+1)=(k<i):=propext (by omega);simp only[this]
 ·refine List.map_congr_left (fun k _=> ?_)
  by_cases hk:k=i
  ·subst hk;simp[h]
  ·rw[show decide (k<i+1)=decide (k<i) from decide_eq_decide.2 (by omega)]
theorem fbd_yes {j:JobP} {st:List Int} {now r:Int} {i:Nat} (h:keptB j st now r i=true):fbd j st now r (i+1)=⟨(fbd j st now r i).st.set i (st.getD i 0),(fbd j st now r i).pl.set i true⟩:=by
 unfold fbd;simp only
 congr 1
 ·apply List.ext_getElem
  ·simp
  ·intro k h1 h2;simp only[List.getElem_map,List.getElem_range,List.getElem_set]
   by_cases hk:i=k
   ·subst hk;simp[h]
   ·rw[if_neg hk];have:(k<i+1)=(k<i):=propext (by omega);simp only[this]
 ·apply List.ext_getElem
  ·simp
  ·intro k h1 h2;simp only[List.getElem_map,List.getElem_range,List.getElem_set]
   by_cases hk:i=k
   ·subst hk;simp[h]
   ·rw[if_neg hk,show decide (k<i+1)=decide (k<i) from decide_eq_decide.2 (by omega)]
theorem ford_no {j:JobP} {st:List Int} {now r:Int} {i:Nat} (h:keptB j st now r i=true):ford j st now r (i+1)=ford j st now r i:=by
 unfold ford;rw[List.range_succ,List.filter_append];simp[h]
theorem ford_yes {j:JobP} {st:List Int} {now r:Int} {i:Nat} (h:keptB j st now r i=false):ford j st now r (i+1)=ford j st now r i++[(i:Int)]:=by
 unfold ford;rw[List.range_succ,List.filter_append];simp[h]
theorem ford_len (j:JobP) (st:List Int) (now r:Int) (i:Nat):(ford j st now r i).length<=i:=by
 unfold ford;rw[List.length_map];have:=List.length_filter_le (fun k=> !keptB j st now r k) (List.range i)
 rwa [List.length_range] at this
theorem ford_in {j:JobP} {st:List Int} {now r:Int} {i:Nat}:∀x∈ford j st now r i,0<=x/\x<i:=fun x hx=>by
 unfold ford at hx;obtain⟨k,hk,rfl⟩:=List.mem_map.1 hx;have:=List.mem_range.1 (List.mem_filter.1 hk).1;omega
theorem ford_asc (j:JobP) (st:List Int) (now r:Int) (i:Nat):(ford j st now r i).Pairwise (· < ·):=by
 unfold ford;rw[List.pairwise_map];refine(List.pairwise_lt_range.sublist List.filter_sublist).imp ?_;intro a b h;omega
structure SpOk (l:List JSpan):Prop where
 each:∀s∈l,0<=s.lo/\s.lo<=s.hi/\s.hi<=100000
 pw:l.Pairwise fun a b=>a.hi<b.lo
theorem joinGo_ok:∀(l out:List JSpan),(∀s∈l,0<=s.lo/\s.lo<=s.hi/\s.hi<=100000)->l.Pairwise (fun a b=>spLe a b=true)->SpOk out->(∀o X,out=o++[X]->∀x∈l,X.lo<=x.lo)->SpOk (joinGo out l)
 | [],out,_,_,h,_=>by simpa [joinGo] using h
 | x::l,out,hl,hs,h,hX=>by
  have h1:=List.pairwise_cons.1 hs;have hx:=hl x (List.mem_cons_self ..)
  have hxl:∀y∈l,x.lo<=y.lo:=fun y hy=>by
   have:=h1.1 y hy;simp[spLe] at this;omega
  have hl':∀s∈l,0<=s.lo/\s.lo<=s.hi/\s.hi<=100000:=fun s hs=>hl s (List.mem_cons_of_mem _ hs)
  rcases List.eq_nil_or_concat out with rfl | ⟨o,X,rfl⟩
  ·rw[join_nil];refine joinGo_ok l [x] hl' h1.2 ⟨fun s hs=>by rw[List.mem_singleton.1 hs];exact hx,by simp⟩ (fun o X he y hy=> ?_)
   have:o=[]/\X=x:=by
    cases o with
    | nil=>simpa using he.symm
    | cons a r=>simp at he
   rw[this.2];exact hxl y hy
  ·rw[List.concat_eq_append] at h hX ⊢;have hXe:=h.each X (by simp);have hXx:=hX o X rfl x (List.mem_cons_self ..);have hp:=List.pairwise_append.1 h.pw
   by_cases hc:x.lo<=X.hi+1
   ·rw[join_old hc];refine joinGo_ok l _ hl' h1.2 ⟨fun s hs=> ?_,?_⟩ (fun o' X' he y hy=> ?_)
    ·rcases List.mem_append.1 hs with hs | hs
     ·exact h.each s (by simp[hs])
     ·rw[List.mem_singleton.1 hs];simp only;omega
    ·refine List.pairwise_append.2 ⟨hp.1,by simp,fun a ha b hb=> ?_⟩;rw[List.mem_singleton.1 hb];exact hp.2.2 a ha X (by simp)
    ·have h2:=(List.append_inj' he rfl).2
     injection h2 with h2 _
     rw[<- h2];have:=hxl y hy;simp only;omega
   ·rw[join_new hc];refine joinGo_ok l _ hl' h1.2 ⟨fun s hs=> ?_,?_⟩ (fun o' X' he y hy=> ?_)
    ·rcases List.mem_append.1 hs with hs | hs
     ·exact h.each s hs
     ·rw[List.mem_singleton.1 hs];exact hx
    ·refine List.pairwise_append.2 ⟨h.pw,by simp,fun a ha b hb=> ?_⟩;rw[List.mem_singleton.1 hb];rcases List.mem_append.1 ha with ha | ha
     ·have:=hp.2.2 a ha X (by simp);omega
     ·rw[List.mem_singleton.1 ha];omega
    ·have h2:=(List.append_inj' he rfl).2
     injection h2 with h2 _
     rw[<- h2];exact hxl y hy
theorem joinedV_ok {l:List JSpan} {s:JSpan} (hl:∀x∈l++[s],0<=x.lo/\x.lo<=x.hi/\x.hi<=100000):SpOk (joinedV l s):=
 joinGo_ok _ _ (fun x hx=>hl x ((sortS_perm _).mem_iff.1 hx)) (sortS_sorted _) ⟨fun x hx=>absurd hx (by simp),List.Pairwise.nil⟩ (fun o X he=>by simp at he)
theorem failJob_good {j:JobP} {q:Nat} {now until':Int} (hG:JGood j) (hq:q<j.res.length) (hn:0<=now/\now<=until'/\until'<=100000) (h16:(failOff j q now until').length<=16):JGood (failJob j q now until'):=by
 have hm:j.res.getD q default∈j.res:=by rw[getD_of hq];exact List.getElem_mem _
 have hO:SpOk (failOff j q now until'):=joinedV_ok (fun x hx=>by
  rcases List.mem_append.1 hx with hx | hx
  ·exact hG.off _ hm x hx
  ·rw[List.mem_singleton.1 hx];simp only;omega)
 have hR:∀r∈(failJob j q now until').res,r∈j.res\/r={ j.res.getD q default with off:=failOff j q now until' }:=fun r hr=>List.mem_or_eq_of_mem_set hr
 have hMany:∀k:Nat,((failJob j q now until').res.getD k default).many=(j.res.getD k default).many:=fun k=>by
  unfold failJob;simp only[List.getD_eq_getElem?_getD,List.getElem?_set]
  by_cases hk:q=k
  ·subst hk;simp[hq]
  ·rw[if_neg hk]
 have hlen:(failJob j q now until').res.length=j.res.length:=by unfold failJob;simp
 exact⟨hG.nt,by rw[hlen];exact hG.nr,hG.takes,hG.needs,hG.nneeds,fun t ht u hu=>by
   have h:=hG.uses t ht u hu;rw[hlen,hMany];exact h,hG.nuses,fun r hr=>by
   rcases hR r hr with h | h
   ·exact hG.many r h
   ·rw[h];exact(show 0<=(j.res.getD q default).many/\(j.res.getD q default).many<=1000 from hG.many _ hm),fun r hr=>by
   rcases hR r hr with h | h
   ·exact hG.noff r h
   ·rw[h];exact h16,fun r hr=>by
   rcases hR r hr with h | h
   ·exact hG.off r h
   ·rw[h];exact hO.each,fun r hr=>by
   rcases hR r hr with h | h
   ·exact hG.offs r h
   ·rw[h];exact hO.pw⟩
structure Line where
 RA:Option Go.Addr
 rc:Nat
 run:List Int
 MA:Option Go.Addr
 mc:Nat
 room:List Int
def okRoom (x:Int):Bool:=withinB x 0 1000
def okRun (x:Int):Bool:=withinB x 1 1000
def lineErr (l:Line):Int:=if 16<l.room.length then 3 else if l.room.length=0\/l.run.length+1≠l.room.length then 1 else if l.room.all okRoom&&l.run.all okRun then 0 else 1
end W8
namespace Go.Proofs.YtjpgnfekbojcaaaGreat
open Go.RowKit W7 W8
attribute [local go_sem] Oper.semAt_some
def lineV (l:Line):Value:= .agg #[.slice l.RA l.run.length l.rc,.slice l.MA l.room.length l.mc]
structure LnIn (w:World) (B:Nat) (l:Line):Prop where
 run:Sl w B 1 encInt1 l.RA l.run
 room:Sl w B 1 encInt1 l.MA l.room
 rlc:l.run.length<=l.rc
 rc2:l.rc<=9223372036854775807
 mlc:l.room.length<=l.mc
 mc2:l.mc<=9223372036854775807
end Go.Proofs.YtjpgnfekbojcaaaGreat
namespace W7
open Go Go.RowKit
theorem wp_region_later {P:Program} {id:Nat} {Q:Exit->Act->World->Prop} {a:Act} {w:World} {l:List Oper} (hm:P.follows .mixedOrders=true) (hB:Region.lexB .any l.toArray=true)
  (h:wpQuiet P l.toArray (fun w'=>∃e:Later w,w'=e.w) (fun a'=>∀w',(∃e:Later w,w'=e.w)->Q .normal a' w') l a):(Code.region id l.toArray true).wp P Q a w:=
 wp_region_quiet (C:=fun w'=>∃e:Later w,w'=e.w) hm hB ⟨⟨_,(Below.refl w.heap.size w).drew⟩,rfl⟩ (by simpa using h)
theorem wp_region_later_tail {P:Program} {id:Nat} {Q:Exit->Act->World->Prop} {a:Act} {w:World} {l:List Oper} (n:Nat) (hm:P.follows .mixedOrders=true) (hB:Region.lexTailB .any l.toArray n=true)
  (h:wpQuiet P l.toArray (fun w'=>∃e:Later w,w'=e.w) (fun a'=>∀w',(∃e:Later w,w'=e.w)->wpList P l.toArray Q (l.drop n) a' w') (l.take n) a):(Code.region id l.toArray true).wp P Q a w:=
 wp_region_class_tail n hm hB ⟨⟨_,(Below.refl w.heap.size w).drew⟩,rfl⟩ h
end W7
namespace Go.Proofs.YtjpgnfekbojcaaaGreat
open Go.RowKit W7 W8
attribute [local go_sem] Oper.semAt_some
theorem room1_any (x:Int) (w:World):Calls Tryz.prog 80 #[.int .i64 x] w fun e w'=>e= .returned (.bool (!okRoom x))/\w=w':=by
 unfold okRoom;go_enter Tryz.func80,Tryz.ntmps80;go_wp2_with (go_at_call 62;refine(within_any _ _ _ _).mono ?_;rintro e w' ⟨rfl,rfl⟩);go_ret;exact⟨rfl,rfl⟩
theorem idxRoom_any (xs:List Int) (n:Nat) (hn:n=xs.length) (A:Option Addr) (c B:Nat) (w:World) (hA:Sl w B 1 encInt1 A xs) (_hB:B<=w.heap.size) (hl:xs.length<=1000000000) :
  Calls Tryz.prog 132 #[.slice A n c,.func (.func 80) #[] #[]] w fun e w'=>e= .returned (.int .i64 (idxB (fun x=> !okRoom x) xs))/\Bl w w':=by
 subst hn;have HA:=hI hA;clear hA;go_enter Tryz.func132,Tryz.ntmps132;go_wp2;go_loopw [8] (fun i wr=>∃k:Nat,k<=xs.length/\i= .int .i64 k/\Hid ((xs.take k).any (fun x=> !okRoom x)=false)/\Hid (w=wr)) (fun i _=>xs.length-(intOf i).toNat);case atStart=>exact⟨0,by omega,rfl,hI (by simp),hI rfl⟩
 case round=>
  obtain⟨k,hk,rfl,Hno,hwr⟩:=hrel;obtain rfl:=hwr.out
  by_cases hlt:k<xs.length
  ·obtain⟨b,off,rfl,hbB,hcells⟩:=HA.o (by omega);have c0:w.cell? ⟨b,off+k,none⟩=some (.int .i64 xs[k]):=by have h:=hcells k hlt 0 _ rfl;rwa [Nat.mul_one,Nat.add_zero] at h
   have Hs:=hI (any_take_succ (p:=fun x=> !okRoom x) hlt Hno.o);have Hh:=hI (idxB_hit (p:=fun x=> !okRoom x) hlt Hno.o);generalize xs[k]=x at c0 Hs Hh;clear hcells;cases hp:okRoom x
   ·have HI:=hI (Hh.o (by rw[hp];rfl));go_wp2_with (go_at_call 80;refine(room1_any x _).mono ?_;rintro e w1 ⟨rfl,rfl⟩);go_ret;exact⟨ret_int HI.o.symm,Below.refl _ _⟩
   ·have HN:=hI (Hs.o (by rw[hp];rfl));go_wp2_with (go_at_call 80;refine(room1_any x _).mono ?_;rintro e w1 ⟨rfl,rfl⟩);go_roundw;case rel=>exact⟨k+1,by omega,by go_num,HN,hI trivial⟩
    case measure=>simp[intOf];omega
  ·have HN:=hI (idxB_none (p:=fun x=> !okRoom x) (xs:=xs) (by rw[<- Hno.o,List.take_of_length_le (by omega)]));go_wp2;go_ret;exact⟨ret_int HN.o.symm,Below.refl _ _⟩
theorem conRoom_any (xs:List Int) (n:Nat) (hn:n=xs.length) (A:Option Addr) (c B:Nat) (w:World) (hA:Sl w B 1 encInt1 A xs) (hB:B<=w.heap.size) (hl:xs.length<=1000000000) :
  Calls Tryz.prog 60 #[.slice A n c,.func (.func 80) #[] #[]] w fun e w'=>e= .returned (.bool (!xs.all okRoom))/\Bl w w':=by
 have H:=hI (idxRoom_any xs n hn A c B w hA hB hl);have HB:=hI (show xs.any (fun x=> !okRoom x)= !xs.all okRoom by rw[List.not_all_eq_any_not]);clear hA hn;go_enter Tryz.func60,Tryz.ntmps60;go_wp2_with (go_at_call 132;refine H.o.mono ?_;rintro e w1 ⟨rfl,hb1⟩);go_ret;exact⟨ret_bool (idxB_any.trans HB.o),hb1⟩
theorem run1_any (x:Int) (w:World):Calls Tryz.prog 81 #[.int .i64 x] w fun e w'=>e= .returned (.bool (!okRun x))/\w=w':=by
 unfold okRun;go_enter Tryz.func81,Tryz.ntmps81;go_wp2_with (go_at_call 62;refine(within_any _ _ _ _).mono ?_;rintro e w' ⟨rfl,rfl⟩);go_ret;exact⟨rfl,rfl⟩
theorem idxRun_any (xs:List Int) (n:Nat) (hn:n=xs.length) (A:Option Addr) (c B:Nat) (w:World) (hA:Sl w B 1 encInt1 A xs) (_hB:B<=w.heap.size) (hl:xs.length<=1000000000) :
  Calls Tryz.prog 132 #[.slice A n c,.func (.func 81) #[] #[]] w fun e w'=>e= .returned (.int .i64 (idxB (fun x=> !okRun x) xs))/\Bl w w':=by
 subst hn;have HA:=hI hA;clear hA;go_enter Tryz.func132,Tryz.ntmps132;go_wp2;go_loopw [8] (fun i wr=>∃k:Nat,k<=xs.length/\i= .int .i64 k/\Hid ((xs.take k).any (fun x=> !okRun x)=false)/\Hid (w=wr)) (fun i _=>xs.length-(intOf i).toNat);case atStart=>exact⟨0,by omega,rfl,hI (by simp),hI rfl⟩
 case round=>
  obtain⟨k,hk,rfl,Hno,hwr⟩:=hrel;obtain rfl:=hwr.out
  by_cases hlt:k<xs.length
  ·obtain⟨b,off,rfl,hbB,hcells⟩:=HA.o (by omega);have c0:w.cell? ⟨b,off+k,none⟩=some (.int .i64 xs[k]):=by have h:=hcells k hlt 0 _ rfl;rwa [Nat.mul_one,Nat.add_zero] at h
   have Hs:=hI (any_take_succ (p:=fun x=> !okRun x) hlt Hno.o);have Hh:=hI (idxB_hit (p:=fun x=> !okRun x) hlt Hno.o);generalize xs[k]=x at c0 Hs Hh;clear hcells;cases hp:okRun x
   ·have HI:=hI (Hh.o (by rw[hp];rfl));go_wp2_with (go_at_call 81;refine(run1_any x _).mono ?_;rintro e w1 ⟨rfl,rfl⟩);go_ret;exact⟨ret_int HI.o.symm,Below.refl _ _⟩
   ·have HN:=hI (Hs.o (by rw[hp];rfl));go_wp2_with (go_at_call 81;refine(run1_any x _).mono ?_;rintro e w1 ⟨rfl,rfl⟩);go_roundw;case rel=>exact⟨k+1,by omega,by go_num,HN,hI trivial⟩
    case measure=>simp[intOf];omega
  ·have HN:=hI (idxB_none (p:=fun x=> !okRun x) (xs:=xs) (by rw[<- Hno.o,List.take_of_length_le (by omega)]));go_wp2;go_ret;exact⟨ret_int HN.o.symm,Below.refl _ _⟩
theorem conRun_any (xs:List Int) (n:Nat) (hn:n=xs.length) (A:Option Addr) (c B:Nat) (w:World) (hA:Sl w B 1 encInt1 A xs) (hB:B<=w.heap.size) (hl:xs.length<=1000000000) :
  Calls Tryz.prog 60 #[.slice A n c,.func (.func 81) #[] #[]] w fun e w'=>e= .returned (.bool (!xs.all okRun))/\Bl w w':=by
 have H:=hI (idxRun_any xs n hn A c B w hA hB hl);have HB:=hI (show xs.any (fun x=> !okRun x)= !xs.all okRun by rw[List.not_all_eq_any_not]);clear hA hn;go_enter Tryz.func60,Tryz.ntmps60;go_wp2_with (go_at_call 132;refine H.o.mono ?_;rintro e w1 ⟨rfl,hb1⟩);go_ret;exact⟨ret_bool (idxB_any.trans HB.o),hb1⟩
theorem CheckLine_any (l:Line) (B:Nat) (w:World) (hl:LnIn w B l) (hB:B<=w.heap.size) :
  Calls Tryz.prog 26 #[lineV l] w fun e w'=>e= .returned (.int .i64 (lineErr l))/\Bl w w':=by
 obtain⟨RA,hRA⟩:∃x,l.RA=x:=⟨_,rfl⟩
 obtain⟨MA,hMA⟩:∃x,l.MA=x:=⟨_,rfl⟩
 obtain⟨r,hr⟩:∃x,l.run.length=x:=⟨_,rfl⟩
 obtain⟨m,hm⟩:∃x,l.room.length=x:=⟨_,rfl⟩
 obtain⟨hs1,hs2,h1,h2,h3,h4⟩:=hl;rw[hRA] at hs1;rw[hMA] at hs2;rw[hr] at h1;rw[hm] at h3;obtain⟨W0,hW0⟩:∃W0,W0=w.alloc (.cells #[.slice RA r l.rc,.slice MA m l.mc] 52):=⟨_,rfl⟩
 have hs0:W0.heap.size=w.heap.size+1:=by rw[hW0];simp
 have HB0:=hI (show Bl w W0 by rw[hW0];exact(Below.refl _ _).alloc (Nat.le_refl _) _);have q0:W0.cell? ⟨w.heap.size,0,none⟩=some (.slice RA r l.rc):=by rw[hW0];exact alloc_cell rfl
 have q1:W0.cell? ⟨w.heap.size,1,none⟩=some (.slice MA m l.mc):=by rw[hW0];exact alloc_cell rfl
 have Q0:=hI q0;have Q1:=hI q1;have HRu:=hI (hs1.below (HB0.o.mono hB));have HRo:=hI (hs2.below (HB0.o.mono hB));have HW0:=hI hW0;have Hr:=hI hr;have Hm:=hI hm;have HE:=hI (show lineErr l=(if 16<m then 3 else if m=0\/r+1≠m then 1 else if l.room.all okRoom&&l.run.all okRun then 0 else 1) by unfold lineErr;rw[hr,hm]);unfold lineV;rw[hRA,hMA,hr,hm];clear hW0 hs1 hs2 hr hm hRA hMA
 by_cases h16:16<m
 ·have HE2:=hI (show lineErr l=3 by rw[HE.o,if_pos h16]);go_enter Tryz.func26,Tryz.ntmps26;go_upto_region 1 with fail;rw[<- HW0.o];go_wp2;go_ret;exact⟨ret_int HE2.o.symm,HB0.o⟩
 by_cases hm0:m=0
 ·have hm0':((m:Int)==0)=true:=by rw[hm0];rfl
  have HE2:=hI (show lineErr l=1 by rw[HE.o,if_neg h16,if_pos (.inl hm0)]);clear hm0;go_enter Tryz.func26,Tryz.ntmps26;go_upto_region 1 with fail;rw[<- HW0.o];go_wp2;go_ret;exact⟨ret_int HE2.o.symm,HB0.o⟩
 have hm0':((m:Int)==0)=false:=beq_false_of_ne (by omega)
 by_cases hrm:r+1=m
 rotate_left
 ·have hrm':((r:Int) != (m:Int)-1)=true:=bne_iff_ne.2 (by omega);have HE2:=hI (show lineErr l=1 by rw[HE.o,if_neg h16,if_pos (.inr hrm)]);go_enter Tryz.func26,Tryz.ntmps26;go_upto_region 1 with fail;rw[<- HW0.o];go_wp2;go_ret;exact⟨ret_int HE2.o.symm,HB0.o⟩
 have hrm':((r:Int) != (m:Int)-1)=false:=by
  rw[show(r:Int)=(m:Int)-1 by omega];simp
 have HE2:=hI (show lineErr l=(if l.room.all okRoom&&l.run.all okRun then 0 else 1) by rw[HE.o,if_neg h16,if_neg (by omega)]);have hrle:r<=1000:=by omega
 clear hrm;have HC1:=hI (conRoom_any l.room m Hm.o.symm MA l.mc B W0 HRo.o (by omega) (by rw[Hm.o];omega));cases hA:l.room.all okRoom
 ·have HE3:=hI (show lineErr l=1 by rw[HE2.o,hA];rfl);rw[hA] at HC1;go_enter Tryz.func26,Tryz.ntmps26;go_upto_region 1 with fail;rw[<- HW0.o];go_wp2_with (go_at_call 60;fail);refine HC1.o.mono ?_;rintro e w1 ⟨rfl,hb1⟩;have Hb1:=hI (HB0.o.trans (hb1.mono (by omega)));clear hb1;go_wp2;go_ret;exact⟨ret_int HE3.o.symm,Hb1.o⟩
 ·rw[hA] at HC1;go_enter Tryz.func26,Tryz.ntmps26;go_upto_region 1 with fail;rw[<- HW0.o];go_wp2_with (go_at_call 60;fail);refine HC1.o.mono ?_;rintro e w1 ⟨rfl,hb1⟩;have hs1:=hb1.size;have HC2:=hI (conRun_any l.run r Hr.o.symm RA l.rc B w1 (HRu.o.below (hb1.mono (by omega))) (by omega) (by rw[Hr.o];omega));have p0:=(hb1.cell (p:=⟨w.heap.size,0,none⟩) (by simp;omega)).trans Q0.out;have Hb1:=hI (HB0.o.trans (hb1.mono (by omega)));clear hb1 q0 q1;cases hR:l.run.all okRun
  ·have HE3:=hI (show lineErr l=1 by rw[HE2.o,hA,hR];rfl);rw[hR] at HC2;go_wp2_with (go_at_call 60;fail);refine HC2.o.mono ?_;rintro e w2 ⟨rfl,hb2⟩;have Hb2:=hI (Hb1.o.trans (hb2.mono (by omega)));clear hb2;go_wp2;go_ret;exact⟨ret_int HE3.o.symm,Hb2.o⟩
  ·have HE3:=hI (show lineErr l=0 by rw[HE2.o,hA,hR];rfl);rw[hR] at HC2;go_wp2_with (go_at_call 60;fail);refine HC2.o.mono ?_;rintro e w2 ⟨rfl,hb2⟩;have Hb2:=hI (Hb1.o.trans (hb2.mono (by omega)));clear hb2;go_wp2;go_ret;exact⟨ret_int HE3.o.symm,Hb2.o⟩
end Go.Proofs.YtjpgnfekbojcaaaGreat
namespace W8
open W7
theorem firstMay_none {j:JobP} {pl:List Bool} {f:Nat} {out:List Int} (h:firstMay j pl=none):ordGo j (f+1) pl out=out:=by
 simp only[ordGo,h]
theorem firstMay_some {j:JobP} {pl:List Bool} {f k:Nat} {out:List Int} (h:firstMay j pl=some k):ordGo j (f+1) pl out=ordGo j f (pl.set k true) (out++[(k:Int)]):=by
 simp only[ordGo,h]
def lenV:Go.Value->Nat
 | .slice _ n _=>n
 | _=>0
def notPl (pl:List Bool):Nat:=pl.count false
theorem notPl_set {pl:List Bool} {k:Nat} (hk:k<pl.length) (h:pl.getD k false=false):notPl (pl.set k true)+1=notPl pl:=by
 unfold notPl;have h1:pl[k]=false:=by rw[List.getD_eq_getElem?_getD,List.getElem?_eq_getElem hk] at h;exact h
 rw[List.count_set hk,h1];have:0<pl.count false:=List.count_pos_iff.2 (h1▸List.getElem_mem hk);simp;omega
theorem firstMay_lt {j:JobP} {pl:List Bool} {k:Nat} (h:firstMay j pl=some k):k<j.tasks.length/\pl.getD k false=false:=by
 unfold firstMay at h;have h1:=List.mem_range.1 (List.mem_of_find?_eq_some h);have h2:=List.find?_some h;unfold mayB at h2;simp only[Bool.and_eq_true,Bool.not_eq_true'] at h2;exact⟨h1,h2.1⟩
theorem no_may_none {j:JobP} {pl:List Bool} (h:(List.range j.tasks.length).any (mayB j pl)=false):firstMay j pl=none:=by
 unfold firstMay;rw[List.find?_eq_none];intro x hx hm;rw[List.any_eq_false] at h;exact h x hx hm
theorem may_first {j:JobP} {pl:List Bool} {i:Nat} (hi:i<j.tasks.length) (h:(List.range i).any (mayB j pl)=false) (h2:mayB j pl i=true):firstMay j pl=some i:=by
 unfold firstMay;rw[List.find?_eq_some_iff_getElem];refine⟨h2,i,by simpa using hi,by simp,fun k hk=> ?_⟩;rw[List.any_eq_false] at h;have:=h k (List.mem_range.2 hk)
 simpa using this
theorem ordGo_full {j:JobP} {pl:List Bool} {out:List Int} (f:Nat) (h:firstMay j pl=none):ordGo j f pl out=out:=by
 cases f with
 | zero=>rfl
 | succ f=>exact firstMay_none h
theorem range_any_succ {p:Nat->Bool} {i:Nat} (h:(List.range i).any p=false) (h2:p i=false):(List.range (i+1)).any p=false:=by
 rw[List.range_succ,List.any_append,h];simp[h2]
end W8
namespace Go.Proofs.YtjpgnfekbojcaaaGreat
open Go.RowKit W7 W8
attribute [local go_sem] Oper.semAt_some
theorem ord1_any (pl:List Bool) (q bb pb n:Nat) (w:World) (h0:w.cell? ⟨bb,0,none⟩=some (.slice (some ⟨pb,0,none⟩) n n)) (hp:w.heap[pb]? =some (.cells (pl.map Value.bool).toArray 4 (0,0))) (hn:pl.length=n) (hq:q<n) :
  Calls Tryz.prog 163 #[.int .i64 (q:Int),.pointer (some ⟨bb,0,none⟩)] w fun e w'=>e= .returned (.bool (!pl.getD q false))/\Bl w w':=by
 have cp:w.cell? ⟨pb,q,none⟩=some (.bool (pl.getD q false)):=bc hp (map_getD (by omega));generalize pl.getD q false=b at cp;clear hp hn;go_enter Tryz.func163,Tryz.ntmps163;go_wp2;go_ret;exact⟨rfl,Below.refl _ _⟩
set_option maxHeartbeats 1000000 in
theorem idxOrd_any (P:Int->Bool) (a0:Value) (xs:List Int) (n:Nat) (hn:n=xs.length) (A:Option Addr) (c B:Nat) (w:World) (hA:Sl w B 1 encInt1 A xs) (hB:B<=w.heap.size) (hl:xs.length<=9223372036854775807)
    (hF:∀(x:Int),x∈xs->∀(W:World),Bl w W->Calls Tryz.prog 163 #[.int .i64 x,a0] W fun e w'=>e= .returned (.bool (P x))/\Bl W w') :
    Calls Tryz.prog 132 #[.slice A n c,.func (.func 163) #[] #[a0]] w fun e w'=>e= .returned (.int .i64 (idxB P xs))/\Bl w w':=by
  subst hn;have HA:=hI hA;have HF:=hI hF;clear hA hF;go_enter Tryz.func132,Tryz.ntmps132;go_wp2;go_loopw [8] (fun i wr=>∃k:Nat,k<=xs.length/\i= .int .i64 k/\Hid ((xs.take k).any P=false)/\Hid (Bl w wr)) (fun i _=>xs.length-(intOf i).toNat);case atStart=>exact⟨0,by omega,rfl,hI (by simp),hI (Below.refl _ _)⟩
  case round=>
    obtain⟨k,hk,rfl,Hno,Hb⟩:=hrel;have hsz:=Hb.o.size
    by_cases hlt:k<xs.length
    · obtain⟨b,off,rfl,hbB,hcells⟩:=(HA.o.below (Hb.o.mono hB)) (by omega)
      have h0:=hcells k hlt;clear hcells;have c0:wr.cell? ⟨b,off+k,none⟩=some (.int .i64 xs[k]):=(by have h:=h0 0 _ rfl;rwa [Nat.mul_one,Nat.add_zero] at h)
      have Hs:=hI (any_take_succ (p:=P) hlt Hno.o);have Hh:=hI (idxB_hit (p:=P) hlt Hno.o);have HK:=hI (fun(W:World) (hW:Bl w W)=>HF.o xs[k] (List.getElem_mem hlt) W hW);generalize xs[k]=x at c0 Hs Hh HK;clear h0;cases hp:P x
      · have HK2:=hI (fun(W:World) (hW:Bl w W)=>hp▸HK.o W hW)
        go_wp2_with (go_at_call 163;refine(HK2.o _ (by first | exact Hb.o | exact Hb.o.alloc (by omega) _)).mono ?_;rintro e w1 ⟨rfl,hb1⟩;have Hb1:=hI hb1;clear hb1);go_roundw;case rel=>exact⟨k+1,by omega,by go_num,hI (Hs.o hp),hI (by first | exact Hb.o.trans (Hb1.o.mono hsz) | exact(Hb.o.alloc (by omega) _).trans (Hb1.o.mono (by simp;omega)))⟩
        case measure=>simp[intOf];omega
      · have HK2:=hI (fun(W:World) (hW:Bl w W)=>hp▸HK.o W hW)
        go_wp2_with (go_at_call 163;refine(HK2.o _ (by first | exact Hb.o | exact Hb.o.alloc (by omega) _)).mono ?_;rintro e w1 ⟨rfl,hb1⟩;have Hb1:=hI hb1;clear hb1);go_ret;exact⟨ret_int (Hh.o hp).symm,(by first | exact Hb.o.trans (Hb1.o.mono hsz) | exact(Hb.o.alloc (by omega) _).trans (Hb1.o.mono (by simp;omega)))⟩
    · have HN:=hI (idxB_none (p:=P) (xs:=xs) (by rw[<- Hno.o,List.take_of_length_le (by omega)]))
      go_wp2;go_ret;exact⟨ret_int HN.o.symm,Hb.o⟩
theorem conOrd_any (P:Int->Bool) (a0:Value) (xs:List Int) (n:Nat) (hn:n=xs.length) (A:Option Addr) (c B:Nat) (w:World) (hA:Sl w B 1 encInt1 A xs) (hB:B<=w.heap.size) (hl:xs.length<=9223372036854775807)
    (hF:∀(x:Int),x∈xs->∀(W:World),Bl w W->Calls Tryz.prog 163 #[.int .i64 x,a0] W fun e w'=>e= .returned (.bool (P x))/\Bl W w') :
    Calls Tryz.prog 60 #[.slice A n c,.func (.func 163) #[] #[a0]] w fun e w'=>e= .returned (.bool (xs.any P))/\Bl w w':=by
  have H:=hI (idxOrd_any P a0 xs n hn A c B w hA hB hl hF);have HI:=hI (idxB_any (p:=P) (xs:=xs));clear hA hn hF;go_enter Tryz.func60,Tryz.ntmps60;go_wp2_with (go_at_call 132;refine H.o.mono ?_;rintro e w1 ⟨rfl,hb1⟩;have Hb1:=hI hb1;clear hb1);go_ret;exact⟨ret_bool HI.o,Hb1.o⟩

theorem ordered_any (j:Job) (B:Nat) (w:World) (hj:JIn w B j) (hB:B<=w.heap.size) (hnt:j.tasks.length<=64) (hnu:∀t∈j.tasks,t.p.needs.length<=1000) (hnd:∀t∈j.tasks,∀k∈t.p.needs,0<=k/\k<j.tasks.length) :
  Calls Tryz.prog 95 #[jobV j] w fun e w'=>∃v,e= .returned v/\w'.ownsRow w.heap.size 3 1 v (ordV j.p).length ((ordV j.p).map (Value.int .i64))/\Bl w w':=by
 obtain⟨n,hn⟩:∃n,j.tasks.length=n:=⟨_,rfl⟩
 obtain⟨TA,hTA⟩:∃x,j.TA=x:=⟨_,rfl⟩
 have hjv:jobV j= .agg #[.slice TA n j.tc,.slice j.RA j.res.length j.rc]:=by unfold jobV;rw[hn,hTA]
 rw[hjv];obtain⟨W0,HW0,hs0,HB0,HX00,HU0⟩:=boxes1 w (.cells #[.slice TA n j.tc,.slice j.RA j.res.length j.rc] 25);have hlc:=hj.tl;have hc2:=hj.tc;rw[hn] at hlc hnt;have HJ:=hI (show ∀X:World,Bl W0 X->JIn X B j from fun X hX=>hj.below ((HU0.o X hX).mono hB));have Hn:=hI hn;have HTA:=hI hTA;have Hnu:=hI hnu;have Hnd:=hI hnd;obtain⟨i2,hi2,hi2a,hi2b,hi2c⟩:=info_parts (show(Tryz.prog.info? 4).map (fun i=>(i.zero,i.size,i.bytes))=some (some (.bool false),1,1) by kernel_rfl);have q0:=W7.bc (j:=0) (HX00.o W0 (Below.refl _ _)) rfl;clear hj hn hTA hnu hnd hjv;go_enter Tryz.func95,Tryz.ntmps95;go_upto_region 2 with fail;rw[<- HW0.o]
 go_upto_region 3 with(at_make;refine wpList_make_full _ rfl _ _ 113 rfl W0.heap.size 4 _ (.bool false) 1 Tryz.underlying113 hi2 hi2a hi2b .i64 .i64 _ _ n rfl rfl rfl rfl (by rw[hi2c];omega) (by unfold maxLen;omega) (Nat.le_refl _) ?_;intro w1 hown1 hg1;have Hb1:=hI ((Below.refl W0.heap.size W0).grown hg1 (Nat.le_refl _) (fun k hk=>by cases hk));have Hn1:=hI (made_blk (Nat.le_refl _) hown1);clear hown1 hg1)
 have hs1:=Hb1.o.size;obtain⟨W2,hW2⟩:∃W2,W2=w1.alloc (.cells #[.slice (some ⟨w.heap.size+1,0,none⟩) n n] 113):=⟨_,rfl⟩
 have hs2:W2.heap.size=w1.heap.size+1:=by rw[hW2];simp
 have HB12:=hI (show Bl w1 W2 by rw[hW2];exact(Below.refl _ _).alloc (Nat.le_refl _) _);have HB2:=hI (show Bl W0 W2 from Hb1.o.trans (HB12.o.mono hs1))
 have HP2:=hI (show W2.heap[w.heap.size+1]? =some (.cells ((List.replicate n false).map Value.bool).toArray 4 (0,0)) by
  have h:=(Hn1.o.below HB12.o).2;rw[hs0] at h;rw[List.map_replicate];exact h)
 have HX2:=hI (show W2.heap[w1.heap.size]? =some (.cells #[.slice (some ⟨w.heap.size+1,0,none⟩) n n] 113 (0,0)) by rw[hW2];exact heap_alloc_new _ _);have HOV:=hI (show ordGo j.p (notPl (List.replicate n false)) (List.replicate n false) []=ordV j.p by unfold ordV notPl;rw[j.nt,Hn.o,List.count_replicate];simp);have hpw:w.heap.size+1<w1.heap.size:=by have:=blk_lt HP2.o;have h:=(Array.getElem?_eq_some_iff.1 Hn1.o.2).1;omega
 rw[<- hW2];clear hW2 q0;go_loopw [3] (fun v3 wr=>∃(pl:List Bool) (out:List Int),pl.length=n/\Hid (out.length+notPl pl=n)/\lenV v3=out.length/\Hid (wr.heap[w.heap.size+1]? =some (.cells (pl.map Value.bool).toArray 4 (0,0)))/\Hid (wr.heap[w1.heap.size]? =some (.cells #[.slice (some ⟨w.heap.size+1,0,none⟩) n n] 113 (0,0)))/\Hid (wr.ownsRow W2.heap.size 3 1 v3 out.length (out.map (Value.int .i64)))/\Hid (Bl W0 wr)/\Hid (W2.heap.size<=wr.heap.size)/\Hid (ordGo j.p (notPl pl) pl out=ordV j.p)) (fun v3 _=>n+1-lenV v3);case atStart=>exact⟨List.replicate n false,[],by simp,hI (by simp[notPl]),rfl,HP2,HX2,hI (World.ownsRow_nil _ _ _ _),HB2,hI (Nat.le_refl _),HOV⟩
 case round=>
  obtain⟨pl,out,hpl,Hon,hlv,HP,HX,Ho,Hb,Hs,HO⟩:=hrel;have hss:=Hs.o;have q0:=W7.bc (j:=0) (HX00.o wr Hb.o) rfl;have HBw:=hI (show ∀X:World,Bl wr X->X.heap[w.heap.size+1]? =some (.cells (pl.map Value.bool).toArray 4 (0,0))/\X.heap[w1.heap.size]? =some (.cells #[.slice (some ⟨w.heap.size+1,0,none⟩) n n] 113 (0,0)) from fun X hX=>⟨(hX.block _ (by omega)).trans HP.o,(hX.block _ (by omega)).trans HX.o⟩);have HUw:=hI (show ∀X:World,Bl wr X->Bl W0 X from fun X hX=>Hb.o.trans (hX.mono (by omega)));go_upto_region 4 with fail;go_wp2;clear q0;obtain⟨wa,rfl⟩:∃wa:World,wa=wr:=⟨_,rfl⟩
  go_loopw [5,15] (fun v5 v15 wr=>∃i:Nat,i<=n/\v15= .int .i64 i/\v5= .int .i64 (-1)/\Hid (Bl wa wr)/\Hid ((List.range i).any (mayB j.p pl)=false)) (fun _ v15 _=>n-(intOf v15).toNat);case atStart=>exact⟨0,by omega,rfl,rfl,hI (Below.refl _ _),hI rfl⟩
  case round=>
   obtain⟨i,hi,rfl,rfl,Hb2,Hno⟩:=hrel;have hsr2:=Hb2.o.size
   by_cases hlt:i<n
   ·have hil:i<j.tasks.length:=by have:=Hn.o;omega
    have hjn:=HJ.o wr (HUw.o _ Hb2.o);obtain⟨tb,off,hTb,htb⟩:=hjn.ta (by omega);have hTe:TA=some ⟨tb,off,none⟩:=by rw[<- HTA.o];exact hTb
    subst hTe;obtain⟨c0,c1,c2,c3⟩:=hjn.tcells hTb hil;have hTk:=hjn.tks _ (j.T_mem hil);have hnl:=hTk.nl;have hnc:=hTk.nc;have Hns:=hI hTk.ns;have HNd:=hI (Hnd.o _ (j.T_mem hil));have hnn:=Hnu.o _ (j.T_mem hil);have HM:=hI (show mayB j.p pl i=(!pl.getD i false&& !(j.T i).p.needs.any (fun k=> !pl.getD k.toNat false)) by unfold mayB standB;rw[j.pT,any_not_all]);have HSu:=hI (fun h=>range_any_succ (p:=mayB j.p pl) Hno.o h);have HFi:=hI (fun h=>may_first (j:=j.p) (pl:=pl) (by rw[j.nt];exact hil) Hno.o h);generalize j.T i=t at c0 c1 c2 c3 Hns HNd hnn HM hnl hnc;obtain⟨NA,hNA⟩:∃x,t.NA=x:=⟨_,rfl⟩
    obtain⟨nn,hnn'⟩:∃x,t.p.needs.length=x:=⟨_,rfl⟩
    rw[hNA,hnn'] at c2;rw[hNA] at Hns;rw[hnn'] at hnl hnn;obtain⟨W4,hW4⟩:∃W4,W4=wr.alloc (.cells #[.string t.p.name,.int .i64 t.p.takes,.slice NA nn t.nc,.slice t.UA t.p.uses.length t.uc] 46):=⟨_,rfl⟩
    have hs4:wr.heap.size+1<=W4.heap.size:=by rw[hW4];simp
    have hB4:Bl wr W4:=by rw[hW4];exact(Below.refl _ _).alloc (Nat.le_refl _) _
    have HB4:=hI (show Bl wa W4 from Hb2.o.trans (hB4.mono hsr2));have r2:W4.cell? ⟨wr.heap.size,2,none⟩=some (.slice NA nn t.nc):=by rw[hW4];exact alloc_cell rfl
    have HU4:=hI (show ∀X:World,Bl W4 X->Bl wa X from fun X hX=>HB4.o.trans (hX.mono (by omega)))
    have HC:=hI (conOrd_any (fun k=> !pl.getD k.toNat false) (.pointer (some ⟨w1.heap.size,0,none⟩)) t.p.needs nn hnn'.symm NA t.nc B W4 (Hns.o.below (hB4.mono (by omega))) (by omega) (by omega) (fun x hx W hW=>by
     have h1:=HNd.o x hx;obtain⟨q,hq⟩:∃q:Nat,x=q:=⟨x.toNat,by omega⟩
     subst hq;obtain⟨g1,g2⟩:=HBw.o W (HU4.o W hW);exact ord1_any pl q w1.heap.size (w.heap.size+1) n W (bc (j:=0) g2 rfl) g1 hpl (by have:=h1.2;have:=Hn.o;omega)))
    generalize t.p.needs.any (fun k=> !pl.getD k.toNat false)=an at HC HM;obtain⟨g1,g2⟩:=HBw.o W4 HB4.o;have x0:=bc (j:=0) g2 rfl;have x1:W4.cell? ⟨w.heap.size+1,i,none⟩=some (.bool (pl.getD i false)):=bc g1 (map_getD (by omega));generalize pl.getD i false=pi at x1 HM;clear hjn hTb hTk hNA hnn' hB4 g1 g2;go_upto_region 7 with fail;rw[<- hW4];clear hW4 c0 c1 c2 c3;cases pi
    ·cases an
     ·have hfm:=HFi.o (by rw[HM.o];rfl);have hpi:=(firstMay_lt hfm).2;have hns:=notPl_set (pl:=pl) (k:=i) (by omega) hpi;have HOn:=hI (show ordGo j.p (notPl (pl.set i true)) (pl.set i true) (out++[(i:Int)])=ordV j.p by rw[<- HO.o,<-hns];exact(firstMay_some hfm).symm);have Hns2:=hI hns;clear hfm hpi hns HFi HSu;go_upto_region 12 with(go_at_call 60;refine HC.o.mono ?_;rintro e w5 ⟨rfl,hb5⟩;have Hb5:=hI (HU4.o _ hb5);clear hb5)
      clear x0 x1 r2;have hs5:=Hb5.o.size;obtain⟨g1,g2⟩:=HBw.o w5 Hb5.o;have x0:=bc (j:=0) g2 rfl;have f1:=W7.bf (j:=i) g1;have x1:w5.cell? ⟨w.heap.size+1,i,none⟩=some (.bool (pl.getD i false)):=bc g1 (map_getD (by omega));obtain⟨X1,hX1⟩:∃X1,X1=w5.setCell ⟨w.heap.size+1,i,none⟩ (.bool true):=⟨_,rfl⟩
      have hsX:w5.heap.size<=X1.heap.size:=by rw[hX1];simp[World.setCell]
      have HP1:=hI (show X1.heap[w.heap.size+1]? =some (.cells ((pl.set i true).map Value.bool).toArray 4 (0,0)) by rw[hX1,blk_set g1];simp[List.map_set]);have HX1:=hI (show X1.heap[w1.heap.size]? =some (.cells #[.slice (some ⟨w.heap.size+1,0,none⟩) n n] 113 (0,0)) by rw[hX1,blk_set_ne (by omega)];exact g2);have HO1:=hI (show X1.ownsRow W2.heap.size 3 1 u3 out.length (out.map (Value.int .i64)) by rw[hX1];exact own_setK (own_below Ho.o Hb5.o) g1 (by decide) _);have HB1:=hI (show Bl W0 X1 by rw[hX1];exact(HUw.o _ Hb5.o).setCell (p:=⟨w.heap.size+1,i,none⟩) (by simp;omega) _);go_upto_region 13 with fail;rw[<- hX1];clear hX1 g1 g2 x0 x1 f1
      go_wp2_with (at_builtin;refine wpList_append1 rfl _ _ 26 rfl W2.heap.size 3 _ 1 8 elemI _ _ _ rfl HO1.o #[.int .i64 (i:Int)] 1 _ rfl (by simp) rfl (by simp[Value.oneCell']) (by have:=Hon.o;omega) (by omega) ?_;intro v6 w6 hown6 hb6 hsz6 hg6 hblk6;have Ho6:=hI hown6;have Hb6:=hI hb6;have hs6:=hsz6;clear hown6 hb6 hsz6 hg6 hblk6);go_roundw
      case rel=>
       refine⟨pl.set i true,out++[(i:Int)],by simp[hpl],hI (by have:=Hon.o;have:=Hns2.o;simp;omega),?_,hI ((Hb6.o.block _ (by omega)).trans HP1.o),hI ((Hb6.o.block _ (by omega)).trans HX1.o),hI (by rw[List.length_append,List.map_append];exact Ho6.o),hI (HB1.o.trans (Hb6.o.mono (by omega))),hI (by omega),HOn⟩;obtain⟨A9,c9,e9,_,_⟩:=own_cap' Ho6.o;rw[e9];simp[lenV]
      case measure=>
       obtain⟨A9,c9,e9,_,_⟩:=own_cap' Ho6.o;rw[e9,hlv];have:=Hon.o;simp[lenV];omega
     ·have HV:=hI (show mayB j.p pl i=false by rw[HM.o];rfl);go_wp2_with (go_at_call 60;refine HC.o.mono ?_;rintro e w5 ⟨rfl,hb5⟩;have Hb5:=hI hb5;clear hb5);go_roundw;case rel=>exact⟨i+1,by omega,by go_num,rfl,hI (HU4.o _ Hb5.o),hI (HSu.o HV.o)⟩
      case measure=>simp[intOf];omega
    ·have HV:=hI (show mayB j.p pl i=false by rw[HM.o];rfl);go_wp2;go_roundw;case rel=>exact⟨i+1,by omega,by go_num,rfl,HB4,hI (HSu.o HV.o)⟩
     case measure=>simp[intOf];omega
   ·have HE:=hI (show out=ordV j.p by rw[<- HO.o];exact(ordGo_full _ (no_may_none (by rw[j.nt,Hn.o,show n=i by omega];exact Hno.o))).symm);go_wp2;go_ret;refine⟨_,rfl,?_,HU0.o _ (HUw.o _ Hb2.o)⟩;rw[<- HE.o];exact own_mono (own_below Ho.o Hb2.o) (by omega)
end Go.Proofs.YtjpgnfekbojcaaaGreat
