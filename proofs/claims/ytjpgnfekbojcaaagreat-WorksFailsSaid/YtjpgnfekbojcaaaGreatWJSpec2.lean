/- Plain functions of jobs: chains,floors,what comes of a failure. -/
import Derived.Sort.LotA
import Derived.Sort.OwnSorted
import Derived.Test.YtjpgnfekbojcaaaGreatWSortI
import Derived.Test.YtjpgnfekbojcaaaGreatWChk4
set_option maxHeartbeats 2000000
namespace W8
open W7
def lonGo (j:JobP):Nat->Nat->Int
 | 0,_=>0
 | f+1,n=>(j.tasks.getD n default).takes+(List.range j.tasks.length).foldl (fun m k=>if (j.tasks.getD k default).needs.contains (n:Int) then max m (lonGo j f k) else m) 0
def lonV (j:JobP) (n:Nat):Int:=lonGo j (j.tasks.length+1) n
def nextB (j:JobP) (last left:Int) (n:Nat):Bool:=(decide (last<0)||(j.tasks.getD n default).needs.contains last)&&decide (left<=lonV j n)
def chainGo (j:JobP):Nat->Int->Int->List Int
 | 0,_,_=>[]
 | f+1,last,left=>match (List.range j.tasks.length).find? (nextB j last left) with
  | none=>[]
  | some n=>(n:Int)::if left-(j.tasks.getD n default).takes<=0 then[] else chainGo j f n (left-(j.tasks.getD n default).takes)
def chainV (j:JobP) (left:Int):List Int:=chainGo j (j.tasks.length+1) (-1) left
def workTo (j:JobP) (r:Int):Nat->Int
 | 0=>0
 | i+1=>workTo j r i+(j.tasks.getD i default).takes*pieces r (j.tasks.getD i default).uses
def workV (j:JobP) (r:Int):Int:=workTo j r j.tasks.length
def offTo (m:Int):List JSpan->Int
 | []=>0
 | s::l=>max 0 (min (s.hi+1) m-s.lo)+offTo m l
def roomV (r:ResP) (m:Int):Int:=max (min m 1099511627776-offTo m r.off) 0*r.many
def bisGo (r:ResP) (w:Int):Nat->Int->Int->Int
 | 0,lo,_=>lo
 | f+1,lo,hi=>if lo<hi then(if roomV r ((lo+hi+1)/2)<w then bisGo r w f ((lo+hi+1)/2) hi else bisGo r w f lo ((lo+hi+1)/2-1)) else lo
def bisV (r:ResP) (w:Int):Int:=bisGo r w 100001 (-1) 100000
structure FloorP where
 minutes:Int
 chain:List Int
 res:Int
deriving Inhabited
def longTo (j:JobP):Nat->Int
 | 0=>0
 | i+1=>max (longTo j i) (lonV j i)
def longV (j:JobP):Int:=min (longTo j j.tasks.length) 100001
def flStep (j:JobP) (i:Nat) (f:FloorP):FloorP:=
 if f.minutes<bisV (j.res.getD i default) (workV j i)+1 then⟨bisV (j.res.getD i default) (workV j i)+1,[],i⟩ else f
def flTo (j:JobP):Nat->FloorP
 | 0=>⟨longV j,chainV j (longV j),0⟩
 | i+1=>flStep j i (flTo j i)
def floorV (j:JobP):FloorP:=if jobErr j≠0 then⟨0,[],0⟩ else if j.tasks.length=0 then⟨0,[],0⟩ else flTo j j.res.length
def spLe (a b:JSpan):Bool:=decide (a.lo<b.lo)||(decide (a.lo=b.lo)&&decide (a.hi<=b.hi))
def insS (x:JSpan):List JSpan->List JSpan
 | []=>[x]
 | y::l=>if spLe x y then x::y::l else y::insS x l
def sortS:List JSpan->List JSpan
 | []=>[]
 | x::l=>insS x (sortS l)
def joinGo:List JSpan->List JSpan->List JSpan
 | out,[]=>out
 | out,x::l=>if 0<out.length/\x.lo<=(out.getD (out.length-1) default).hi+1 then joinGo (out.dropLast++[⟨(out.getD (out.length-1) default).lo,max (out.getD (out.length-1) default).hi x.hi⟩]) l else joinGo (out++[x]) l
def joinedV (l:List JSpan) (s:JSpan):List JSpan:=joinGo [] (sortS (l++[s]))
def failOff (j:JobP) (r:Nat) (now until':Int):List JSpan:=joinedV (j.res.getD r default).off ⟨now,until'⟩
def failJob (j:JobP) (r:Nat) (now until':Int):JobP:=⟨j.tasks,j.res.set r { j.res.getD r default with off:=failOff j r now until' }⟩
def usesB (r:Int) (t:TaskP):Bool:=t.uses.any (fun u=>u.res==r)
def keptB (j:JobP) (st:List Int) (now r:Int) (i:Nat):Bool:=
 decide (st.getD i 0<now)&& !(usesB r (j.tasks.getD i default)&&decide (now<st.getD i 0+(j.tasks.getD i default).takes))
def insO (st:List Int) (x:Int):List Int->List Int
 | []=>[x]
 | y::l=>if st.getD x.toNat 0<st.getD y.toNat 0 then x::y::l else y::insO st x l
def sortO (st:List Int) (l:List Int):List Int:=l.foldl (fun acc x=>insO st x acc) []
def failOrd (j:JobP) (st:List Int) (now r:Int):List Int:=sortO st (((List.range j.tasks.length).filter (fun i=> !keptB j st now r i)).map (fun(i:Nat)=>(i:Int)))
def failBd (j:JobP) (st:List Int) (now r:Int):Bd:=
 ⟨(List.range j.tasks.length).map (fun i=>if keptB j st now r i then st.getD i 0 else 0),(List.range j.tasks.length).map (keptB j st now r)⟩
def failRun (j:JobP) (st:List Int) (now r until':Int):Bool×Bd:=
 serialGo (failJob j r.toNat now until') now (failOrd j st now r) (failOrd j st now r).length (failBd j st now r)
def failErr (j:JobP) (st:List Int) (now r until':Int):Int:=
 if lnErr j st≠0 then lnErr j st else if withinB r 0 ((j.res.length:Int)-1) then
  (if isTm now&&isTm until'&&decide (now<=until') then
   (if 16<(failOff j r.toNat now until').length then 3 else if (failRun j st now r until').1 then 0 else 9) else 1) else 7
end W8
namespace W8
open Go.Sort
variable {α:Type} [Inhabited α] {lt lu:α->α->Bool}
theorem outer_go (a b i:Nat) (d:Array α) (h:i<b):insOuter lt a b i d=insOuter lt a b (i+1) (insInner lt a i d):=by rw[insOuter,if_pos h]
theorem outer_stop (a b i:Nat) (d:Array α) (h: ¬i<b):insOuter lt a b i d=d:=by rw[insOuter,if_neg h]
theorem inner_congr:∀(j:Nat) (d:Array α),j<d.size->(∀p,p<j->lt d[j]! d[p]! =lu d[j]! d[p]!)->insInner lt 0 j d=insInner lu 0 j d
 | 0,d,_,_=>rfl
 | j+1,d,hj,h=>by
  simp only[insInner];rw[h j (by omega)]
  split
  ·have g:=swp_get d hj (show j<d.size by omega);refine inner_congr j _ (by rw[swp_size];omega) (fun p hp=> ?_);rw[g,g];simp only[if_true,show p≠j by omega,show p≠j+1 by omega,if_false];have:=h p (by omega)
   by_cases hjj:j=j+1
   ·omega
   ·simpa [hjj] using this
  ·rfl
theorem inner_above:∀(j:Nat) (d:Array α) (q:Nat),j<d.size->j<q->(insInner lt 0 j d)[q]! =d[q]!
 | 0,d,q,_,_=>rfl
 | j+1,d,q,hj,hq=>by
  simp only[insInner]
  split
  ·rw[inner_above j _ q (by rw[swp_size];omega) (by omega),swp_other d (j+1) j q (by omega) (by omega)]
  ·rfl
theorem inner_size:∀(j:Nat) (d:Array α),(insInner lt 0 j d).size=d.size
 | 0,d=>rfl
 | j+1,d=>by
  simp only[insInner]
  split
  ·rw[inner_size j _,swp_size]
  ·rfl
theorem inner_from:∀(j:Nat) (d:Array α) (p:Nat),j<d.size->p<=j->∃p',p'<=j/\(insInner lt 0 j d)[p]! =d[p']!
 | 0,d,p,_,hp=>⟨p,hp,rfl⟩
 | j+1,d,p,hj,hp=>by
  simp only[insInner]
  split
  ·have g:=swp_get d hj (show j<d.size by omega)
   by_cases he:p<=j
   ·obtain⟨p',h1,h2⟩:=inner_from j (swp d (j+1) j) p (by rw[swp_size];omega) he;rw[h2,g]
    by_cases hj1:p'=j
    ·exact⟨j+1,zm _,by first | rw[if_pos hj1] | rw[if_neg (by omega),if_pos hj1]⟩
    ·exact⟨p',by omega,by rw[if_neg (by omega),if_neg (by omega)]⟩
   ·have hpe:p=j+1:=by omega
    subst hpe;rw[inner_above j _ (j+1) (by rw[swp_size];omega) (by omega),g];exact⟨j,by omega,by simp⟩
  ·exact⟨p,hp,rfl⟩
structure From (o d:Array α) (i:Nat):Prop where
 size:d.size=o.size
 lo:∀p,p<i->∃p',p'<i/\d[p]! =o[p']!
 hi:∀q,i<=q->d[q]! =o[q]!
theorem From.step {o d:Array α} {i:Nat} (h:From o d i) (hi:i<o.size):From o (insInner lt 0 i d) (i+1):=by
 have hid:i<d.size:=by rw[h.size];exact hi
 refine⟨by rw[inner_size,h.size],fun p hp=> ?_,fun q hq=>by rw[inner_above i d q hid (by omega),h.hi q (by omega)]⟩;obtain⟨p',h1,h2⟩:=inner_from (lt:=lt) i d p hid (by omega);rw[h2]
 by_cases he:p'=i
 ·exact⟨i,by omega,by rw[he,h.hi i (zm _)]⟩
 ·obtain⟨p'',h3,h4⟩:=h.lo p' (by omega);exact⟨p'',by omega,h4⟩
theorem outer_congr {o:Array α} (ho:∀p q,p<q->q<o.size->lt o[q]! o[p]! =lu o[q]! o[p]!):∀(k i:Nat) (d:Array α),o.size-i=k->From o d i->insOuter lt 0 o.size i d=insOuter lu 0 o.size i d
 | 0,i,d,hk,h=>by rw[outer_stop _ _ _ _ (by omega),outer_stop _ _ _ _ (by omega)]
 | k+1,i,d,hk,h=>by
  have hi:i<o.size:=by omega
  rw[outer_go _ _ _ _ hi,outer_go _ _ _ _ hi]
  have he:insInner lt 0 i d=insInner lu 0 i d:=inner_congr i d (by rw[h.size];exact hi) (fun p hp=>by
   obtain⟨p',h1,h2⟩:=h.lo p hp;rw[h2,h.hi i (zm _)];exact ho p' i (by omega) hi)
  rw[<- he];exact outer_congr ho k (i+1) _ (by omega) (h.step hi)
theorem ins_congr {o:Array α} (ho:∀p q,p<q->q<o.size->lt o[q]! o[p]! =lu o[q]! o[p]!):insertionSort lt o 0 o.size=insertionSort lu o 0 o.size:=by
 unfold insertionSort
 by_cases h0:o.size<=1
 ·rw[outer_stop _ _ _ _ (by omega),outer_stop _ _ _ _ (by omega)]
 ·exact outer_congr ho _ 1 o rfl ⟨rfl,fun p hp=>⟨p,hp,rfl⟩,fun _ _=>rfl⟩
theorem perm_pair_eq {α:Type} {R:α->α->Prop} (ha:∀a b,R a b->R b a->a=b):∀ {l l':List α},l.Perm l'->l.Pairwise R->l'.Pairwise R->l=l'
 | [],l',hp,_,_=>by rw[List.nil_perm.1 hp]
 | x::l,[],hp,_,_=>absurd hp.length_eq (by simp)
 | x::l,y::l',hp,h,h'=>by
  have h1:=List.pairwise_cons.1 h;have h2:=List.pairwise_cons.1 h'
  have hxy:x=y:=by
   rcases List.mem_cons.1 (hp.mem_iff.2 (zL ..)) with e | e
   ·exact e.symm
   ·rcases List.mem_cons.1 (hp.mem_iff.1 (zL ..)) with e' | e'
    ·exact e'
    ·exact ha x y (h1.1 y e) (h2.1 x e')
  subst hxy;rw[perm_pair_eq ha ((List.perm_cons x).1 hp) h1.2 h2.2]
def ltS (st:List Int) (x y:Int):Bool:=decide (st.getD x.toNat 0<st.getD y.toNat 0)
def luS (st:List Int) (x y:Int):Bool:=ltS st x y||(decide (st.getD x.toNat 0=st.getD y.toNat 0)&&decide (x<y))
theorem swo_luS (st:List Int):SWO (luS st) where
 irrefl x:=by simp[luS,ltS]
 trans x y z h1 h2:=by simp[luS,ltS] at *;omega
 ntrans x y z h1 h2:=by simp[luS,ltS] at *;omega
def LeS (st:List Int) (a b:Int):Prop:=luS st b a=false
theorem leS_anti {st:List Int} (a b:Int) (h1:LeS st a b) (h2:LeS st b a):a=b:=by
 simp[LeS,luS,ltS] at *;omega
theorem insO_perm (st:List Int) (x:Int):∀l:List Int,(insO st x l).Perm (x::l)
 | []=>List.Perm.refl _
 | y::l=>by
  unfold insO
  split
  ·exact List.Perm.refl _
  ·exact((insO_perm st x l).cons y).trans (List.Perm.swap x y l)
theorem insO_sorted (st:List Int) (x:Int):∀l:List Int,l.Pairwise (LeS st)->(∀y∈l,y<x)->(insO st x l).Pairwise (LeS st)
 | [],_,_=>by simp[insO]
 | y::l,h,hx=>by
  have h1:=List.pairwise_cons.1 h;have hyx:=hx y (zL ..);unfold insO
  split
  ·rename_i hlt
   refine List.pairwise_cons.2 ⟨fun a ha=> ?_,h⟩;rcases List.mem_cons.1 ha with rfl | ha
   ·simp[LeS,luS,ltS] at hlt ⊢;omega
   ·have h3:=h1.1 a ha;have h4:=hx a (zQ _ ha);simp[LeS,luS,ltS] at hlt h3 ⊢;omega
  ·rename_i hlt
   refine List.pairwise_cons.2 ⟨fun a ha=> ?_,insO_sorted st x l h1.2 (fun a ha=>hx a (zQ _ ha))⟩;rcases List.mem_cons.1 ((insO_perm st x l).mem_iff.1 ha) with rfl | ha
   ·simp[LeS,luS,ltS] at hlt ⊢;omega
   ·exact h1.1 a ha
theorem sortO_go (st:List Int):∀(l acc:List Int),l.Pairwise (· < ·)->acc.Pairwise (LeS st)->(∀y∈acc,∀x∈l,y<x)->(l.foldl (fun acc x=>insO st x acc) acc).Perm (acc++l)/\(l.foldl (fun acc x=>insO st x acc) acc).Pairwise (LeS st)
 | [],acc,_,ha,_=>by simpa using ha
 | x::l,acc,h,ha,hx=>by
  have h1:=List.pairwise_cons.1 h;rw[List.foldl_cons]
  have ih:=sortO_go st l (insO st x acc) h1.2 (insO_sorted st x acc ha (fun y hy=>hx y hy x (zL ..))) (fun y hy z hz=>by
   rcases List.mem_cons.1 ((insO_perm st x acc).mem_iff.1 hy) with rfl | hy
   ·exact h1.1 z hz
   ·exact hx y hy z (zQ _ hz))
  refine⟨ih.1.trans ?_,ih.2⟩;exact((insO_perm st x acc).append_right l).trans (List.perm_middle.symm)
theorem sortO_ok (st:List Int) {l:List Int} (h:l.Pairwise (· < ·)):(sortO st l).Perm l/\(sortO st l).Pairwise (LeS st):=by
 have:=sortO_go st l [] h List.Pairwise.nil (fun y hy=>absurd hy (by simp))
 simpa [sortO] using this
theorem stable_eq (st:List Int) {l:List Int} (h:l.Pairwise (· < ·)):(insertionSort (ltS st) l.toArray 0 l.toArray.size).toList=sortO st l:=by
 rw[ins_congr (lu:=luS st) (fun p q hpq hq=>by
  have hq':q<l.length:=by simpa using hq
  have:=List.pairwise_iff_getElem.1 h p q (by omega) hq' hpq;rw[getElem!_pos _ q (by simpa using hq'),getElem!_pos _ p (by simp;omega)];simp only[List.getElem_toArray];unfold luS;rw[zE (show ¬l[q]<l[p] by omega)];simp)]
 have h1:=insertionSort_holds (lt:=luS st) (swo_luS st) l.toArray 0 l.toArray.size (Nat.zero_le _) (zm _);generalize insertionSort (luS st) l.toArray 0 l.toArray.size=D at h1 ⊢;obtain⟨⟨hz,_,hp⟩,hs⟩:=h1;have e1:D.extract 0 l.toArray.size=D:=by rw[<- hz];exact Array.extract_size
 have e2:l.toArray.extract 0 l.toArray.size=l.toArray:=Array.extract_size;rw[e1,e2] at hp;have h2:=sortO_ok st h;refine perm_pair_eq leS_anti (hp.trans h2.1.symm) ?_ h2.2;rw[List.pairwise_iff_getElem];intro i j hi hj hij;have hj2:j<l.toArray.size:=by rw[<- hz];simpa using hj
 have h:=hs i j (Nat.zero_le _) hij hj2;simp only[Array.length_toList] at hi hj;rw[getElem!_pos _ j hj,getElem!_pos _ i hi] at h
 simpa [LeS] using h
end W8
namespace Go.Proofs.YtjpgnfekbojcaaaGreat
open Go.RowKit Go.Shelf Go.Sort W7 W8
attribute [local go_sem] Oper.semAt_some
def clampI (m:Nat) (x:Int):Int:=if 0<=x/\x<m then x else 0
theorem clampI_in {m:Nat} (h:0<m) (x:Int):∃q:Nat,clampI m x=(q:Int)/\q<m:=by
 unfold clampI
 split
 ·exact⟨x.toNat,by omega,by omega⟩
 ·exact⟨0,rfl,h⟩
theorem clampI_eq {m:Nat} {x:Int} (h:0<=x/\x<m):clampI m x=x:=if_pos h
def encC (m:Nat) (x:Int):Value:= .int .i64 (clampI m x)
theorem fail2_any (p q pb sn sc B:Nat) (SA:Option Addr) (st:List Int) (w:World) (hS:Sl w B 1 encInt1 SA st) (hsn:sn=st.length) (_hsl:sn<=sc) (_hsc:sc<=9223372036854775807) (hp:p<sn) (hq:q<sn) (hT:∀i,0<=st.getD i 0/\st.getD i 0<=100000) (hpb:w.cell? ⟨pb,0,none⟩=some (.slice SA sn sc)) :
  Calls Tryz.prog 76 #[.int .i64 (p:Int),.int .i64 (q:Int),.pointer (some ⟨pb,0,none⟩)] w fun e w'=>e= .returned (.int .i64 (st.getD p 0-st.getD q 0))/\∃k os,w'=grow (w.drewN k) os:=by
 obtain⟨ub,uoff,hue,hub,hcs⟩:=hS (by omega);subst hue
 have hc:∀k,k<sn->w.cell? ⟨ub,uoff+k,none⟩=some (.int .i64 (st.getD k 0)):=fun k hk=>by
  have h:=hcs k (by omega) 0 _ rfl;rw[Nat.mul_one,Nat.add_zero] at h;rw[h,zA,zB (by omega)]
  rfl
 have c0:=hc p hp;have c1:=hc q hq;have h0:=hT p;have h1:=hT q;generalize st.getD p 0=a at c0 h0 ⊢;generalize st.getD q 0=b at c1 h1 ⊢;clear hS hcs hc hT hsn;go_enter Tryz.func76,Tryz.ntmps76;go_upto_region 1 with fail
 go_quiet (fail)
 go_wp2;go_ret;exact⟨ret_int (by go_num),_,#[],(grow_empty _).symm⟩
theorem putRow_congr {enc enc':Int->Value} {w:World} {blk off:Nat} {d:Array Int} (h:∀x∈d,enc x=enc' x):putRow enc w blk off d=putRow enc' w blk off d:=by
 unfold putRow
 congr 1
 funext c
 unfold putCells
 congr 1
 funext k x
 split
 ·rename_i hk
  have hk2:k-off<d.size:=by omega
  rw[getElem!_pos d _ hk2];exact h _ (Array.getElem_mem _)
 ·rfl
def SortS (st l:List Int) (base g cap:Nat) (w:World) (e:Ending) (w':World):Prop:=
 e= .returned (.tuple #[])/\w'.ownsRow base 3 1 (.slice (some ⟨g,0,none⟩) l.length cap) l.length ((sortO st l).map (Value.int .i64))/\w.grownBy w' (some g)
theorem insInt_any (st l:List Int) (base g cap pb sn sc B:Nat) (SA:Option Addr) (w:World) (hown:w.ownsRow base 3 1 (.slice (some ⟨g,0,none⟩) l.length cap) l.length (l.map (Value.int .i64))) (hl:l.length<=1000)
  (hS:Sl w B 1 encInt1 SA st) (hsn:sn=st.length) (hsl:sn<=sc) (hsc:sc<=9223372036854775807) (hT:∀i,0<=st.getD i 0/\st.getD i 0<=100000) (hpb:w.cell? ⟨pb,0,none⟩=some (.slice SA sn sc)) (hBg:B<=g) (hpg:pb≠g) (hpl:pb<w.heap.size)
  (hasc:l.Pairwise (· < ·)) (hin:∀x∈l,0<=x/\x<sn) (h0:0<sn) :
  Calls Tryz.prog 188 #[.slice (some ⟨g,0,none⟩) l.length cap,.int .i64 0,.int .i64 l.length,.func (.func 76) #[] #[.pointer (some ⟨pb,0,none⟩)]] w (SortS st l base g cap w):=by
 have eg:∀args w,(callFunc 76 args).run Tryz.prog w= .ok (.enter 76 args) w:=enters_of Tryz.func76 (by kernel_rfl) rfl;have hgl:=(hown.lt g rfl).2;have henc:∀x∈l,encC sn x=Value.int .i64 x:=fun x hx=>by unfold encC;rw[clampI_eq (hin x hx)]
 have hH:Holds (encC sn) w g 0 l.toArray:=fun j hj=>by
  have h:=holds_own1 hown j hj;have hj':j<l.length:=by simpa using hj
  refine⟨?_,h.2⟩;rw[h.1,getElem!_pos _ j hj];simp only[List.getElem_toArray];rw[henc _ (zC hj')]
 have hcmp:CmpLays1 Tryz.prog 76 #[.pointer (some ⟨pb,0,none⟩)] (encC sn) (fun x y=>st.getD (clampI sn x).toNat 0-st.getD (clampI sn y).toNat 0) g 0 l.toArray.size w:=fun m os dk hs x y=>by
  obtain⟨p,hp,hpl2⟩:=clampI_in h0 x;obtain⟨q,hq,hql2⟩:=clampI_in h0 y
  have hgr:w.grownBy (sortWorld (encC sn) w g 0 m dk os) (some g):=by
   refine⟨rfl,rfl,rfl,by simp[sortWorld,putRow,mapBlock,Sort.ahead,grow],fun i hi hne=> ?_⟩;unfold sortWorld;rw[heap_grow_old _ _ (by simpa [putRow,mapBlock,Sort.ahead] using hi)];have:g≠i:=fun e=>hne (by rw[e])
   simp[putRow,mapBlock,Sort.ahead,Array.getElem?_modify,this]
  have hbl:Below B w (sortWorld (encC sn) w g 0 m dk os):=⟨hgr.os,hgr.tape,hgr.output,hgr.size,fun i hi=>hgr.block i (by omega) (by simp;omega)⟩
  have hc:=fail2_any p q pb sn sc B SA st (sortWorld (encC sn) w g 0 m dk os) (hS.below hbl) hsn hsl hsc hpl2 hql2 hT ((World.cell?_of_block (a:=⟨pb,0,none⟩) (hgr.block pb hpl (by simpa using hpg))).trans hpb)
  show Calls Tryz.prog 76 #[.int .i64 (clampI sn x),.int .i64 (clampI sn y),.pointer (some ⟨pb,0,none⟩)] (sortWorld (encC sn) w g 0 m dk os) fun e w'=>e= .returned (.int .i64 (st.getD (clampI sn x).toNat 0-st.getD (clampI sn y).toNat 0))/\∃q os',w'=grow ((sortWorld (encC sn) w g 0 m dk os).drewN q) os'
  rw[hp,hq];exact hc
 have hcon:=Any.insertionSortCmpFunc_s Tryz.insInt (encC sn) (fun x y=>st.getD (clampI sn x).toNat 0-st.getD (clampI sn y).toNat 0) 76 #[.pointer (some ⟨pb,0,none⟩)] g 0 cap 0 l.length l.toArray l.toArray w w eg hcmp ⟨fun x=>by simp[encC,Value.oneCell'],hH,hgl⟩ rfl (SW.start hH) (Nat.zero_le _) (by simp) (by rw[List.size_toArray];omega)
 change Calls Tryz.prog 188 _ _ _ at hcon
 rw[List.size_toArray] at hcon;refine hcon.mono fun e w' ⟨he,hsw⟩=>⟨he,?_⟩
 have hE:(insertionSort (ltOf fun x y:Int=>st.getD (clampI sn x).toNat 0-st.getD (clampI sn y).toNat 0) l.toArray 0 l.length)=(sortO st l).toArray:=by
  have h1:insertionSort (ltOf fun x y:Int=>st.getD (clampI sn x).toNat 0-st.getD (clampI sn y).toNat 0) l.toArray 0 l.toArray.size=insertionSort (ltS st) l.toArray 0 l.toArray.size:=ins_congr (fun p q hpq hq=>by
   have hq':q<l.length:=by simpa using hq
   have hp':p<l.length:=by omega
   rw[getElem!_pos _ q hq,getElem!_pos _ p (by simpa using hp')];have e1:=clampI_eq (hin _ (zC hq'));have e2:=clampI_eq (hin _ (zC hp'))
   show decide (st.getD (clampI sn l[q]).toNat 0-st.getD (clampI sn l[p]).toNat 0<0)=decide (st.getD l[q].toNat 0<st.getD l[p].toNat 0)
   rw[decide_eq_decide,e1,e2];omega)
  rw[List.size_toArray] at h1;have h2:=stable_eq st hasc;rw[List.size_toArray] at h2;rw[h1,<-h2]
 rw[hE] at hsw;obtain⟨n,os,hw⟩:=hsw;have hp:=(sortO_ok st hasc).1;unfold sortWorld at hw;rw[putRow_congr (enc':=Value.int .i64) (fun x hx=>henc x (hp.mem_iff.1 (by simpa using hx)))] at hw;rw[hw];exact⟨sorted_own1 hown hp.length_eq,grown_sorted1⟩
theorem insNone_any (v f:Value) (w:World) :
  Calls Tryz.prog 188 #[v,.int .i64 0,.int .i64 0,f] w (fun e w'=>e= .returned (.tuple #[])/\w'=w):=by
 go_enter Tryz.func188,Tryz.ntmps188;go_wp2;refine wp_loop_rounds 1 ?_;rw[rounds_succ];go_wp2;go_end0;exact⟨rfl,rfl⟩
theorem stableOne_any (v f:Value) (n:Nat) (w:World) (R:Ending->World->Prop) (hn:n<=19) (H:Calls Tryz.prog 188 #[v,.int .i64 0,.int .i64 (n:Int),f] w fun e w'=>e= .returned (.tuple #[])/\R e w') :
  Calls Tryz.prog 146 #[v,.int .i64 (n:Int),f] w R:=by
 have H:=hI H;have h1:decide ((20:Int)<=(n:Int))=false:=by simp;omega
 have h2:decide ((20:Int)<(n:Int))=false:=by simp;omega
 go_enter Tryz.func146,Tryz.ntmps146;go_wp2;refine wp_loop_rounds 1 ?_;rw[rounds_succ];go_wp2_with (go_at_call 188;refine H.o.mono ?_;rintro e w1 ⟨rfl,hs⟩;have Hs:=hI hs;clear hs);refine wp_loop_rounds 1 ?_;rw[rounds_succ];go_wp2;go_end0;exact Hs.o
def SortT (st l:List Int) (base:Nat) (v:Value) (w:World) (e:Ending) (w':World):Prop:=
 e= .returned (.tuple #[])/\w'.ownsRow base 3 1 v l.length ((sortO st l).map (Value.int .i64))/\w.grownBy w' v.ownBlock
theorem stableI_any (st l:List Int) (base pb sn sc B:Nat) (v:Value) (SA:Option Addr) (w:World) (hown:w.ownsRow base 3 1 v l.length (l.map (Value.int .i64))) (hl:l.length<=19)
  (hS:Sl w B 1 encInt1 SA st) (hsn:sn=st.length) (hsl:sn<=sc) (hsc:sc<=9223372036854775807) (hT:∀i,0<=st.getD i 0/\st.getD i 0<=100000) (hpb:w.cell? ⟨pb,0,none⟩=some (.slice SA sn sc)) (hBb:B<=base) (hpg:pb<base) (hpl:pb<w.heap.size)
  (hasc:l.Pairwise (· < ·)) (hin:∀x∈l,0<=x/\x<sn) :
  Calls Tryz.prog 75 #[v,.func (.func 76) #[] #[.pointer (some ⟨pb,0,none⟩)]] w (SortT st l base v w):=by
 obtain⟨A,c,hv,hc1,hc2⟩:=own_cap' hown
 have H:Calls Tryz.prog 146 #[v,.int .i64 (l.length:Int),.func (.func 76) #[] #[.pointer (some ⟨pb,0,none⟩)]] w (SortT st l base v w):=by
  refine stableOne_any _ _ _ _ _ hl ?_;rcases hown.2 with⟨e0,h0⟩ | ⟨g,cap,cur,e0,hb,hg,_⟩
  ·have hl0:l=[]:=List.eq_nil_of_length_eq_zero h0;subst hl0;refine(insNone_any v _ w).mono ?_;rintro e w' ⟨rfl,rfl⟩;exact⟨rfl,rfl,hown,World.grownBy.refl _ _⟩
  ·subst e0
   by_cases h0:l=[]
   ·subst h0;refine(insNone_any _ _ w).mono ?_;rintro e w' ⟨rfl,rfl⟩;exact⟨rfl,rfl,hown,World.grownBy.refl _ _⟩
   ·have h0s:0<sn:=by
     obtain⟨x,hx⟩:=List.exists_mem_of_ne_nil l h0;have:=hin x hx;omega
    refine(insInt_any st l base g cap pb sn sc B SA w hown (by omega) hS hsn hsl hsc hT hpb (by omega) (by omega) hpl hasc hin h0s).mono ?_;rintro e w' ⟨h1,h2,h3⟩;exact⟨h1,h1,h2,h3⟩
 have H:=hI H;subst hv;generalize l.length=n at H hc1;clear hown hS hsn hT hpb hasc hin hl;go_enter Tryz.func75,Tryz.ntmps75;go_wp2_with (go_at_call 146;refine H.o.mono ?_;rintro e w1 ⟨rfl,hs⟩;have Hs:=hI hs;clear hs);go_end0;exact⟨rfl,Hs.o⟩
end Go.Proofs.YtjpgnfekbojcaaaGreat
