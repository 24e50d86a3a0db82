/- Plain data and plain functions of jobs: tasks,resources,errors,orders,boards,schedules. -/
import Derived.Test.YtjpgnfekbojcaaaGreatBase
import Derived.Deep.DeepCutAuto
set_option maxHeartbeats 4000000
set_option maxRecDepth 100000
namespace W8
open W7
structure JUse where
 res:Int
 many:Int
deriving Inhabited,DecidableEq
structure JSpan where
 lo:Int
 hi:Int
deriving Inhabited,DecidableEq
structure TaskP where
 name:ByteArray
 takes:Int
 needs:List Int
 uses:List JUse
deriving Inhabited
structure ResP where
 name:ByteArray
 many:Int
 off:List JSpan
deriving Inhabited
structure JobP where
 tasks:List TaskP
 res:List ResP
structure Task where
 p:TaskP
 NA:Option Go.Addr
 nc:Nat
 UA:Option Go.Addr
 uc:Nat
deriving Inhabited
structure Res where
 p:ResP
 OA:Option Go.Addr
 oc:Nat
deriving Inhabited
structure Job where
 TA:Option Go.Addr
 tc:Nat
 tasks:List Task
 RA:Option Go.Addr
 rc:Nat
 res:List Res
def Job.p (j:Job):JobP:=⟨j.tasks.map (·.p),j.res.map (·.p)⟩
theorem Job.nt (j:Job):j.p.tasks.length=j.tasks.length:=by simp[Job.p]
theorem Job.nr (j:Job):j.p.res.length=j.res.length:=by simp[Job.p]
theorem Job.tk (j:Job) {i:Nat} (h:i<j.tasks.length):j.p.tasks.getD i default=j.tasks[i].p:=by simp[Job.p,List.getD_eq_getElem?_getD,h]
theorem Job.rs (j:Job) {i:Nat} (h:i<j.res.length):j.p.res.getD i default=j.res[i].p:=by simp[Job.p,List.getD_eq_getElem?_getD,h]
def spanErrAt (l:List JSpan) (i:Nat):Int:=
 if isTm (l.getD i default).lo&&isTm (l.getD i default).hi&&decide ((l.getD i default).lo<=(l.getD i default).hi)&&(decide (i=0)||decide ((l.getD (i-1) default).hi<(l.getD i default).lo)) then 0 else 1
def offErr (l:List JSpan):Int:=if 16<l.length then 3 else firstErr (spanErrAt l) l.length
def resErr1 (r:ResP):Int:=if withinB r.many 0 1000 then offErr r.off else 1
def resErrAt (l:List ResP) (i:Nat):Int:=
 if nameB (l.getD i default).name then(if (l.take i).any (fun x=>strEq x.name (l.getD i default).name) then 6 else resErr1 (l.getD i default)) else 5
def ressErr (l:List ResP):Int:=if 16<l.length then 3 else firstErr (resErrAt l) l.length
def needErrAt (n:Nat) (l:List Int) (i:Nat):Int:=
 if withinB (l.getD i default) 0 ((n:Int)-1) then(if (l.take i).any (fun x=>x==l.getD i default) then 6 else 0) else 7
def useErrAt (rs:List ResP) (l:List JUse) (i:Nat):Int:=
 if withinB (l.getD i default).res 0 ((rs.length:Int)-1) then
  (if (l.take i).any (fun x=>x.res==(l.getD i default).res) then 6 else
   if withinB (l.getD i default).many 1 1000 then(if (rs.getD (l.getD i default).res.toNat default).many<(l.getD i default).many then 9 else 0) else 1) else 7
def tskErr1 (j:JobP) (t:TaskP):Int:=
 if isTm t.takes then
  (if firstErr (needErrAt j.tasks.length t.needs) t.needs.length=0 then firstErr (useErrAt j.res t.uses) t.uses.length
   else firstErr (needErrAt j.tasks.length t.needs) t.needs.length) else 1
def tskErrAt (j:JobP) (i:Nat):Int:=
 if nameB (j.tasks.getD i default).name then(if (j.tasks.take i).any (fun x=>strEq x.name (j.tasks.getD i default).name) then 6 else tskErr1 j (j.tasks.getD i default)) else 5
def standB (pl:List Bool) (l:List Int):Bool:=l.all fun k=>pl.getD k.toNat false
def mayB (j:JobP) (pl:List Bool) (i:Nat):Bool:= !pl.getD i false&&standB pl (j.tasks.getD i default).needs
def firstMay (j:JobP) (pl:List Bool):Option Nat:=(List.range j.tasks.length).find? (mayB j pl)
def ordGo (j:JobP):Nat->List Bool->List Int->List Int
 | 0,_,out=>out
 | f+1,pl,out=>match firstMay j pl with
  | none=>out
  | some k=>ordGo j f (pl.set k true) (out++[(k:Int)])
def ordV (j:JobP):List Int:=ordGo j j.tasks.length (List.replicate j.tasks.length false) []
def tsksErr (j:JobP):Int:=firstErr (tskErrAt j) j.tasks.length
def jobErr (j:JobP):Int:=
 if ressErr j.res≠0 then ressErr j.res else if 64<j.tasks.length then 3 else if tsksErr j≠0 then tsksErr j else if (ordV j).length<j.tasks.length then 11 else 0
structure JGood (j:JobP):Prop where
 nt:j.tasks.length<=64
 nr:j.res.length<=16
 takes:∀t∈j.tasks,0<=t.takes/\t.takes<=100000
 needs:∀t∈j.tasks,∀k∈t.needs,0<=k/\k<j.tasks.length
 nneeds:∀t∈j.tasks,t.needs.Nodup
 uses:∀t∈j.tasks,∀u∈t.uses,0<=u.res/\u.res<j.res.length/\1<=u.many/\u.many<=1000/\u.many<=(j.res.getD u.res.toNat default).many
 nuses:∀t∈j.tasks,(t.uses.map (·.res)).Nodup
 many:∀r∈j.res,0<=r.many/\r.many<=1000
 noff:∀r∈j.res,r.off.length<=16
 off:∀r∈j.res,∀s∈r.off,0<=s.lo/\s.lo<=s.hi/\s.hi<=100000
 offs:∀r∈j.res,r.off.Pairwise fun a b=>a.hi<b.lo
theorem firstErr_zeros {f:Nat->Int}:∀ {n:Nat},firstErr f n=0->∀i,i<n->f i=0
 | 0,_,i,h=>absurd h (by omega)
 | n+1,h0,i,hi=>by
  have hn:firstErr f n=0:=by
   by_cases hz:firstErr f n=0
   ·exact hz
   ·have h1:firstErr f (n+1)=firstErr f n:=by simp[firstErr,hz]
    rw[h1] at h0;exact h0
  rcases Nat.lt_or_ge i n with h | h
  ·exact firstErr_zeros hn i h
  ·obtain rfl:i=n:=by omega
   rw[<- firstErr_succ hn];exact h0
theorem getD_of {α:Type} [Inhabited α] {l:List α} {i:Nat} (h:i<l.length):l.getD i default=l[i]:=by
 rw[List.getD_eq_getElem?_getD,List.getElem?_eq_getElem h,Option.getD_some]
theorem nodup_of_prefix {α β:Type} [DecidableEq β] {f:α->β} {l:List α} (h:∀i (hi:i<l.length),(l.take i).any (fun x=>f x==f l[i])=false):(l.map f).Nodup:=by
 rw[List.Nodup,List.pairwise_iff_getElem];intro i k hi hk hik;simp only[List.length_map] at hi hk;have:=h k hk;rw[List.any_eq_false] at this;have h2:=this l[i] (List.mem_take_iff_getElem.2 ⟨i,by omega,rfl⟩);simp only[List.getElem_map]
 simpa using h2
theorem pair_of_next {l:List JSpan} (h1:∀s∈l,s.lo<=s.hi) (h:∀i (hi:i<l.length),0<i->(l[i-1]'(by omega)).hi<l[i].lo):l.Pairwise fun a b=>a.hi<b.lo:=by
 rw[List.pairwise_iff_getElem];intro i k hi hk hik
 have key:∀d (hd:i+d+1<l.length),l[i].hi<l[i+d+1].lo:=by
  intro d
  induction d with
  | zero=>intro hd;have:=h (i+1) hd (by omega);simpa using this
  | succ d ih=>
   intro hd;have a:=ih (by omega);have b:=h (i+d+1+1) (by omega) (by omega);have c:=h1 _ (List.getElem_mem (show i+d+1<l.length by omega));simp only[Nat.add_sub_cancel] at b
   show l[i].hi<(l[i+(d+1)+1]).lo
   have e:i+(d+1)+1=i+d+1+1:=by omega
   simp only[e];omega
 have:=key (k-i-1) (by omega);have e:i+(k-i-1)+1=k:=by omega
 simpa only[e] using this
theorem good_of0 {j:JobP} (hr:ressErr j.res=0) (hn: ¬ 64<j.tasks.length) (ht:tsksErr j=0):JGood j:=by
 have hrl: ¬ 16<j.res.length:=by
  intro h1;unfold ressErr at hr;rw[if_pos h1] at hr;cases hr
 have hre:∀r∈j.res,resErr1 r=0:=by
  intro r hm;obtain⟨i,hi,rfl⟩:=List.getElem_of_mem hm;unfold ressErr at hr;rw[if_neg hrl] at hr;have h1:=firstErr_zeros hr i hi;unfold resErrAt at h1;rw[getD_of hi] at h1
  split at h1
  ·split at h1
   ·cases h1
   ·exact h1
  ·cases h1
 have hrm:∀r∈j.res,0<=r.many/\r.many<=1000/\offErr r.off=0:=by
  intro r hm;have h1:=hre r hm;unfold resErr1 at h1
  split at h1
  ·rename_i h2;exact⟨(withinB_true.1 h2).1,(withinB_true.1 h2).2,h1⟩
  ·cases h1
 have hof:∀r∈j.res, ¬ 16<r.off.length/\∀i,i<r.off.length->spanErrAt r.off i=0:=by
  intro r hm;have h1:=(hrm r hm).2.2;unfold offErr at h1
  split at h1
  ·cases h1
  ·rename_i h2;exact⟨h2,firstErr_zeros h1⟩
 have hsp:∀r∈j.res,∀i (hi:i<r.off.length),(0<=r.off[i].lo/\r.off[i].lo<=r.off[i].hi/\r.off[i].hi<=100000)/\(0<i->(r.off[i-1]'(by omega)).hi<r.off[i].lo):=by
  intro r hm i hi;have h1:=(hof r hm).2 i hi;unfold spanErrAt at h1;rw[getD_of hi] at h1
  split at h1
  ·rename_i h2
   simp only[Bool.and_eq_true,Bool.or_eq_true,decide_eq_true_eq] at h2;obtain⟨⟨⟨a,b⟩,c⟩,d⟩:=h2;have a:=isTm_true.1 a;have b:=isTm_true.1 b;refine⟨⟨a.1,c,b.2⟩,fun h0=> ?_⟩;rcases d with d | d
   ·omega
   ·rw[getD_of (show i-1<r.off.length by omega)] at d;exact d
  ·cases h1
 have hte:∀t∈j.tasks,tskErr1 j t=0:=by
  intro t hm;obtain⟨i,hi,rfl⟩:=List.getElem_of_mem hm;have h1:=firstErr_zeros ht i hi;unfold tskErrAt at h1;rw[getD_of hi] at h1
  split at h1
  ·split at h1
   ·cases h1
   ·exact h1
  ·cases h1
 have htt:∀t∈j.tasks,(0<=t.takes/\t.takes<=100000)/\(∀i,i<t.needs.length->needErrAt j.tasks.length t.needs i=0)/\(∀i,i<t.uses.length->useErrAt j.res t.uses i=0):=by
  intro t hm;have h1:=hte t hm;unfold tskErr1 at h1
  split at h1
  ·rename_i h2
   split at h1
   ·rename_i h3
    exact⟨isTm_true.1 h2,firstErr_zeros h3,firstErr_zeros h1⟩
   ·rename_i h3;exact absurd h1 h3
  ·cases h1
 have hnd:∀t∈j.tasks,∀i (hi:i<t.needs.length),(0<=t.needs[i]/\t.needs[i]<j.tasks.length)/\(t.needs.take i).any (fun x=>x==t.needs[i])=false:=by
  intro t hm i hi;have h1:=(htt t hm).2.1 i hi;unfold needErrAt at h1;rw[getD_of hi] at h1
  split at h1
  ·rename_i h2
   have h2:=withinB_true.1 h2
   split at h1
   ·cases h1
   ·rename_i h3
    exact⟨⟨h2.1,by omega⟩,Bool.eq_false_iff.2 h3⟩
  ·cases h1
 have hus:∀t∈j.tasks,∀i (hi:i<t.uses.length),(0<=t.uses[i].res/\t.uses[i].res<j.res.length/\1<=t.uses[i].many/\t.uses[i].many<=1000/\t.uses[i].many<=(j.res.getD t.uses[i].res.toNat default).many)/\(t.uses.take i).any (fun x=>x.res==t.uses[i].res)=false:=by
  intro t hm i hi;have h1:=(htt t hm).2.2 i hi;unfold useErrAt at h1;rw[getD_of hi] at h1
  split at h1
  ·rename_i h2
   have h2:=withinB_true.1 h2
   split at h1
   ·cases h1
   ·rename_i h3
    split at h1
    ·rename_i h4
     have h4:=withinB_true.1 h4
     split at h1
     ·cases h1
     ·rename_i h5
      exact⟨⟨h2.1,by omega,h4.1,h4.2,by omega⟩,Bool.eq_false_iff.2 h3⟩
    ·cases h1
  ·cases h1
 refine⟨by omega,by omega,fun t hm=>(htt t hm).1,fun t hm k hk=> ?_,fun t hm=> ?_,fun t hm u hu=> ?_,fun t hm=> ?_,fun r hm=>⟨(hrm r hm).1,(hrm r hm).2.1⟩,fun r hm=>by have:=(hof r hm).1;omega,fun r hm s hs=> ?_,fun r hm=>pair_of_next (fun s hs=> ?_) (fun i hi h0=>(hsp r hm i hi).2 h0)⟩
 ·obtain⟨i,hi,rfl⟩:=List.getElem_of_mem hk;exact(hnd t hm i hi).1
 ·have:=nodup_of_prefix (f:=fun x:Int=>x) (l:=t.needs) (fun i hi=>(hnd t hm i hi).2)
  simpa using this
 ·obtain⟨i,hi,rfl⟩:=List.getElem_of_mem hu;exact(hus t hm i hi).1
 ·exact nodup_of_prefix (f:=fun x:JUse=>x.res) (fun i hi=>(hus t hm i hi).2)
 ·obtain⟨i,hi,rfl⟩:=List.getElem_of_mem hs;exact(hsp r hm i hi).1
 ·obtain⟨i,hi,rfl⟩:=List.getElem_of_mem hs;exact(hsp r hm i hi).1.2.1
theorem err_parts {j:JobP} (h:jobErr j=0):ressErr j.res=0/\ ¬ 64<j.tasks.length/\tsksErr j=0/\ ¬(ordV j).length<j.tasks.length:=by
 unfold jobErr at h
 by_cases hr:ressErr j.res=0
 rotate_left
 ·rw[if_pos hr] at h;exact absurd h hr
 rw[if_neg (by simpa using hr)] at h
 by_cases hn:64<j.tasks.length
 ·rw[if_pos hn] at h;cases h
 rw[if_neg hn] at h
 by_cases ht:tsksErr j=0
 rotate_left
 ·rw[if_pos ht] at h;exact absurd h ht
 rw[if_neg (by simpa using ht)] at h;refine⟨hr,hn,ht,fun ho=> ?_⟩;rw[if_pos ho] at h;cases h
theorem good_of {j:JobP} (h:jobErr j=0):JGood j:=good_of0 (err_parts h).1 (err_parts h).2.1 (err_parts h).2.2.1
structure Bd where
 st:List Int
 pl:List Bool
def endV (j:JobP) (b:Bd) (n:Nat):Int:=b.st.getD n 0+(j.tasks.getD n default).takes
def pieces (r:Int):List JUse->Int
 | []=>0
 | u::l=>(if u.res==r then u.many else 0)+pieces r l
def runsB (j:JobP) (b:Bd) (m:Int) (i:Nat):Bool:=b.pl.getD i false&&decide (b.st.getD i 0<=m)&&decide (m<endV j b i)
def usedTo (j:JobP) (b:Bd) (r m:Int):Nat->Int
 | 0=>0
 | i+1=>usedTo j b r m i+if runsB j b m i then pieces r (j.tasks.getD i default).uses else 0
def usedV (j:JobP) (b:Bd) (r m:Int):Int:=usedTo j b r m j.tasks.length
def overB (from' to':Int) (s:JSpan):Bool:=decide (s.lo<to')&&decide (from'<=s.hi)
def crowdB (j:JobP) (b:Bd) (u:JUse) (m:Int):Bool:=decide ((j.res.getD u.res.toNat default).many<usedV j b u.res m+u.many)
def startsIn (b:Bd) (from' to':Int) (i:Nat):Bool:=b.pl.getD i false&&decide (from'<b.st.getD i 0)&&decide (b.st.getD i 0<to')
def freeV (j:JobP) (b:Bd) (u:JUse) (from' to':Int):Bool:=
 !(j.res.getD u.res.toNat default).off.any (overB from' to')&& !crowdB j b u from' &&
  !(List.range j.tasks.length).any (fun i=>startsIn b from' to' i&&crowdB j b u (b.st.getD i 0))
def readyGo (j:JobP) (b:Bd):List Int->Int->Int
 | [],at'=>at'
 | k::l,at'=>readyGo j b l (max at' (endV j b k.toNat))
def readyV (j:JobP) (b:Bd) (fr:Int) (n:Nat):Int:=readyGo j b (j.tasks.getD n default).needs fr
def fitsV (j:JobP) (b:Bd) (n:Nat) (at':Int):Bool:=
 decide (at'+(j.tasks.getD n default).takes<=100000) &&
  (decide ((j.tasks.getD n default).takes=0)|| !(j.tasks.getD n default).uses.any (fun u=> !freeV j b u at' (at'+(j.tasks.getD n default).takes)))
def endsAfter (j:JobP) (b:Bd) (first:Int) (k:Nat):List Int:=(List.range k).filterMap (fun i=>if b.pl.getD i false&&decide (first<endV j b i) then some (endV j b i) else none)
def offsAfter (first:Int) (l:List JSpan):List Int:=l.filterMap (fun s=>if first<s.hi+1 then some (s.hi+1) else none)
def usesAfter (j:JobP) (first:Int) (l:List JUse):List Int:=l.flatMap (fun u=>offsAfter first (j.res.getD u.res.toNat default).off)
def triesV (j:JobP) (b:Bd) (fr:Int) (n:Nat):List Int:=
 [readyV j b fr n]++endsAfter j b (readyV j b fr n) j.tasks.length++usesAfter j (readyV j b fr n) (j.tasks.getD n default).uses
def insI (x:Int):List Int->List Int
 | []=>[x]
 | y::l=>if x<=y then x::y::l else y::insI x l
def sortI:List Int->List Int
 | []=>[]
 | x::l=>insI x (sortI l)
def placeV (j:JobP) (b:Bd) (fr:Int) (n:Nat):Option Int:=(sortI (triesV j b fr n)).find? (fitsV j b n)
def Bd.put (b:Bd) (n:Nat) (s:Int):Bd:=⟨b.st.set n s,b.pl.set n true⟩
def serialGo (j:JobP) (fr:Int) (order:List Int):Nat->Bd->Bool×Bd
 | 0,b=>(true,b)
 | f+1,b=>match order.find? (fun n=>mayB j b.pl n.toNat) with
  | none=>(true,b)
  | some n=>match placeV j b fr n.toNat with
   | none=>(false,b)
   | some s=>serialGo j fr order f (b.put n.toNat s)
def bd0 (j:JobP):Bd:=⟨List.replicate j.tasks.length 0,List.replicate j.tasks.length false⟩
def permB (order:List Int) (n:Nat):Bool:=decide (order.length=n)&&order.all (fun k=>withinB k 0 ((n:Int)-1))&&decide (order.Nodup)
def serErr (j:JobP) (order:List Int):Int:=
 if jobErr j≠0 then jobErr j else if permB order j.tasks.length then(if (serialGo j 0 order order.length (bd0 j)).1 then 0 else 9) else 1
def serV (j:JobP) (order:List Int):List Int:=if serErr j order=0 then(serialGo j 0 order order.length (bd0 j)).2.st else[]
def needsOk (j:JobP) (st:List Int) (i:Nat):Bool:=
 (j.tasks.getD i default).needs.all (fun k=>isTm (st.getD k.toNat 0)&&decide (st.getD k.toNat 0+(j.tasks.getD k.toNat default).takes<=st.getD i 0))
def keepsAt (j:JobP) (st:List Int) (i:Nat):Bool:=isTm (st.getD i 0)&&decide (st.getD i 0+(j.tasks.getD i default).takes<=100000)&&needsOk j st i
def firstB (k n:Nat):List Bool:=(List.range n).map (fun i=>decide (i<k))
def keepsV (j:JobP) (st:List Int):Bool:=
 (List.range j.tasks.length).all (keepsAt j st)&&(List.range j.tasks.length).all (fun i=>fitsV j ⟨st,firstB i j.tasks.length⟩ i (st.getD i 0))
def kpErr (j:JobP) (st:List Int):Int:=if jobErr j≠0 then jobErr j else if st.length=j.tasks.length then 0 else 1
def kpV (j:JobP) (st:List Int):Bool:=decide (kpErr j st=0)&&keepsV j st
def lenTo (j:JobP) (st:List Int):Nat->Int
 | 0=>0
 | i+1=>max (lenTo j st i) (st.getD i 0+(j.tasks.getD i default).takes)
def lenOf (j:JobP) (st:List Int):Int:=lenTo j st j.tasks.length
def lnErr (j:JobP) (st:List Int):Int:=if kpErr j st≠0 then kpErr j st else if keepsV j st then 0 else 8
def lnV (j:JobP) (st:List Int):Int:=if lnErr j st=0 then lenOf j st else 0
end W8
namespace W8
open Go Go.RowKit W7
def encTask (t:Task):List Value:=[.string t.p.name,.int .i64 t.p.takes,.slice t.NA t.p.needs.length t.nc,.slice t.UA t.p.uses.length t.uc]
def encRes (r:Res):List Value:=[.string r.p.name,.int .i64 r.p.many,.slice r.OA r.p.off.length r.oc]
def encUse (u:JUse):List Value:=[.int .i64 u.res,.int .i64 u.many]
def encJSpan (s:JSpan):List Value:=[.int .i64 s.lo,.int .i64 s.hi]
structure TkIn (w:World) (B:Nat) (t:Task):Prop where
 nm:t.p.name.size<=maxLen
 ns:Sl w B 1 encInt1 t.NA t.p.needs
 us:Sl w B 2 encUse t.UA t.p.uses
 nl:t.p.needs.length<=t.nc
 nc:t.nc<=9223372036854775807
 ul:t.p.uses.length<=t.uc
 uc:t.uc<=9223372036854775807
structure RsIn (w:World) (B:Nat) (r:Res):Prop where
 nm:r.p.name.size<=maxLen
 os:Sl w B 2 encJSpan r.OA r.p.off
 ol:r.p.off.length<=r.oc
 oc:r.oc<=9223372036854775807
structure JIn (w:World) (B:Nat) (j:Job):Prop where
 tk:Sl w B 4 encTask j.TA j.tasks
 rs:Sl w B 3 encRes j.RA j.res
 tl:j.tasks.length<=j.tc
 tc:j.tc<=9223372036854775807
 rl:j.res.length<=j.rc
 rc:j.rc<=9223372036854775807
 tks:∀t∈j.tasks,TkIn w B t
 rss:∀r∈j.res,RsIn w B r
theorem TkIn.below {w w':World} {B:Nat} {t:Task} (h:TkIn w B t) (hb:Below B w w'):TkIn w' B t:=⟨h.nm,h.ns.below hb,h.us.below hb,h.nl,h.nc,h.ul,h.uc⟩
theorem RsIn.below {w w':World} {B:Nat} {t:Res} (h:RsIn w B t) (hb:Below B w w'):RsIn w' B t:=⟨h.nm,h.os.below hb,h.ol,h.oc⟩
theorem JIn.below {w w':World} {B:Nat} {j:Job} (h:JIn w B j) (hb:Below B w w'):JIn w' B j:=
 ⟨h.tk.below hb,h.rs.below hb,h.tl,h.tc,h.rl,h.rc,fun t ht=>(h.tks t ht).below hb,fun r hr=>(h.rss r hr).below hb⟩
theorem TkIn.mono {w:World} {B B':Nat} {t:Task} (h:TkIn w B t) (hb:B<=B'):TkIn w B' t:=⟨h.nm,h.ns.mono hb,h.us.mono hb,h.nl,h.nc,h.ul,h.uc⟩
theorem RsIn.mono {w:World} {B B':Nat} {t:Res} (h:RsIn w B t) (hb:B<=B'):RsIn w B' t:=⟨h.nm,h.os.mono hb,h.ol,h.oc⟩
theorem JIn.mono {w:World} {B B':Nat} {j:Job} (h:JIn w B j) (hb:B<=B'):JIn w B' j:=
 ⟨h.tk.mono hb,h.rs.mono hb,h.tl,h.tc,h.rl,h.rc,fun t ht=>(h.tks t ht).mono hb,fun r hr=>(h.rss r hr).mono hb⟩
def Job.T (j:Job) (n:Nat):Task:=j.tasks.getD n default
def Job.R (j:Job) (n:Nat):Res:=j.res.getD n default
theorem Job.pT (j:Job) (n:Nat):j.p.tasks.getD n default=(j.T n).p:=by
 unfold Job.p Job.T;simp only[List.getD_eq_getElem?_getD,List.getElem?_map];cases j.tasks[n]? <;>rfl
theorem Job.pR (j:Job) (n:Nat):j.p.res.getD n default=(j.R n).p:=by
 unfold Job.p Job.R;simp only[List.getD_eq_getElem?_getD,List.getElem?_map];cases j.res[n]? <;>rfl
theorem Job.T_mem (j:Job) {n:Nat} (h:n<j.tasks.length):j.T n∈j.tasks:=by
 unfold Job.T;rw[getD_of h];exact List.getElem_mem h
theorem Job.R_mem (j:Job) {n:Nat} (h:n<j.res.length):j.R n∈j.res:=by
 unfold Job.R;rw[getD_of h];exact List.getElem_mem h
theorem Job.Tp_mem (j:Job) {n:Nat} (h:n<j.tasks.length):(j.T n).p∈j.p.tasks:=List.mem_map.2 ⟨_,j.T_mem h,rfl⟩
theorem Job.Rp_mem (j:Job) {n:Nat} (h:n<j.res.length):(j.R n).p∈j.p.res:=List.mem_map.2 ⟨_,j.R_mem h,rfl⟩
section
variable {w:World} {B tb off n:Nat} {j:Job}
theorem JIn.ta (h:JIn w B j) (h0:0<j.tasks.length):∃tb off,j.TA=some ⟨tb,off,none⟩/\tb<B:=by
 obtain⟨b,off,e,hB,_⟩:=h.tk h0;exact⟨b,off,e,hB⟩
theorem JIn.ra (h:JIn w B j) (h0:0<j.res.length):∃tb off,j.RA=some ⟨tb,off,none⟩/\tb<B:=by
 obtain⟨b,off,e,hB,_⟩:=h.rs h0;exact⟨b,off,e,hB⟩
theorem JIn.tcell (h:JIn w B j) (hA:j.TA=some ⟨tb,off,none⟩) (hn:n<j.tasks.length) (i:Nat) (v:Value) (hv:(encTask (j.T n))[i]? =some v):w.cell? ⟨tb,off+n*4+i,none⟩=some v:=by
 obtain⟨b,off',e,hB,hc⟩:=h.tk (by omega);rw[hA] at e;cases e;refine hc n hn i v ?_;unfold Job.T at hv
 rwa [getD_of hn] at hv
theorem JIn.rcell (h:JIn w B j) (hA:j.RA=some ⟨tb,off,none⟩) (hn:n<j.res.length) (i:Nat) (v:Value) (hv:(encRes (j.R n))[i]? =some v):w.cell? ⟨tb,off+n*3+i,none⟩=some v:=by
 obtain⟨b,off',e,hB,hc⟩:=h.rs (by omega);rw[hA] at e;cases e;refine hc n hn i v ?_;unfold Job.R at hv
 rwa [getD_of hn] at hv
end
theorem JIn.tcells {w:World} {B tb off n:Nat} {j:Job} (h:JIn w B j) (hA:j.TA=some ⟨tb,off,none⟩) (hn:n<j.tasks.length) :
  w.cell? ⟨tb,off+n*4,none⟩=some (.string (j.T n).p.name)/\w.cell? ⟨tb,off+n*4+1,none⟩=some (.int .i64 (j.T n).p.takes)/\w.cell? ⟨tb,off+n*4+2,none⟩=some (.slice (j.T n).NA (j.T n).p.needs.length (j.T n).nc)/\w.cell? ⟨tb,off+n*4+3,none⟩=some (.slice (j.T n).UA (j.T n).p.uses.length (j.T n).uc):=
 ⟨h.tcell hA hn 0 _ rfl,h.tcell hA hn 1 _ rfl,h.tcell hA hn 2 _ rfl,h.tcell hA hn 3 _ rfl⟩
theorem JIn.rcells {w:World} {B tb off n:Nat} {j:Job} (h:JIn w B j) (hA:j.RA=some ⟨tb,off,none⟩) (hn:n<j.res.length) :
  w.cell? ⟨tb,off+n*3,none⟩=some (.string (j.R n).p.name)/\w.cell? ⟨tb,off+n*3+1,none⟩=some (.int .i64 (j.R n).p.many)/\w.cell? ⟨tb,off+n*3+2,none⟩=some (.slice (j.R n).OA (j.R n).p.off.length (j.R n).oc):=
 ⟨h.rcell hA hn 0 _ rfl,h.rcell hA hn 1 _ rfl,h.rcell hA hn 2 _ rfl⟩
theorem map_getD {α:Type} {f:α->Value} {d:α}:∀ {l:List α} {n:Nat},n<l.length->(l.map f).toArray[n]? =some (f (l.getD n d)):=fun{l n} h=>by
 simp[List.getD_eq_getElem?_getD,h]
end W8
namespace Go.Proofs.YtjpgnfekbojcaaaGreat
open Go.RowKit W7 W8
attribute [local go_sem] Oper.semAt_some
def jobV (j:Job):Value:= .agg #[.slice j.TA j.tasks.length j.tc,.slice j.RA j.res.length j.rc]
structure BdIn (X:World) (g sb pb:Nat) (j:Job) (b:Bd) (fr:Int):Prop where
 hg:X.heap[g]? =some (.cells #[.slice j.TA j.tasks.length j.tc,.slice j.RA j.res.length j.rc,.slice (some ⟨sb,0,none⟩) j.tasks.length j.tasks.length,.slice (some ⟨pb,0,none⟩) j.tasks.length j.tasks.length,.int .i64 fr] 115 (0,0))
 hs:X.heap[sb]? =some (.cells (b.st.map (Value.int .i64)).toArray 3 (0,0))
 hp:X.heap[pb]? =some (.cells (b.pl.map Value.bool).toArray 4 (0,0))
 ns:b.st.length=j.tasks.length
 np:b.pl.length=j.tasks.length
theorem BdIn.below {X Y:World} {g sb pb:Nat} {j:Job} {b:Bd} {fr:Int} (h:BdIn X g sb pb j b fr) (hb:Bl X Y):BdIn Y g sb pb j b fr:=
 ⟨(hb.block _ (blk_lt h.hg)).trans h.hg,(hb.block _ (blk_lt h.hs)).trans h.hs,(hb.block _ (blk_lt h.hp)).trans h.hp,h.ns,h.np⟩
section
variable {X:World} {g sb pb n:Nat} {j:Job} {b:Bd} {fr:Int}
theorem BdIn.st (h:BdIn X g sb pb j b fr) (hn:n<j.tasks.length):X.cell? ⟨sb,n,none⟩=some (.int .i64 (b.st.getD n 0)):=bc h.hs (map_getD (by rw[h.ns];exact hn))
theorem BdIn.pl (h:BdIn X g sb pb j b fr) (hn:n<j.tasks.length):X.cell? ⟨pb,n,none⟩=some (.bool (b.pl.getD n false)):=bc h.hp (map_getD (by rw[h.np];exact hn))
end
def BOk (b:Bd):Prop:=∀i,0<=b.st.getD i 0/\b.st.getD i 0<=100000
theorem end_any (j:Job) (b:Bd) (fr:Int) (g sb pb B n:Nat) (w:World) (hb:BdIn w g sb pb j b fr) (hj:JIn w B j) (hG:JGood j.p) (hn:n<j.tasks.length) (hs:0<=b.st.getD n 0/\b.st.getD n 0<=100000) :
  Calls Tryz.prog 138 #[.pointer (some ⟨g,0,none⟩),.int .i64 (n:Int)] w fun e w'=>e= .returned (.int .i64 (endV j.p b n))/\∃k,w'=w.drewN k:=by
 obtain⟨tb,off,hTA,htb⟩:=hj.ta (by omega);have q0:=bc (j:=0) hb.hg rfl;have q2:=bc (j:=2) hb.hg rfl;rw[hTA] at q0;have c1:=hj.tcell hTA hn 1 _ rfl;have c2:=hb.st hn;have htk:=hG.takes _ (j.Tp_mem hn);have HE:=hI (show endV j.p b n=b.st.getD n 0+(j.T n).p.takes by unfold endV;rw[j.pT]);generalize b.st.getD n 0=s at c2 hs HE;generalize (j.T n).p.takes=tk at c1 htk HE;have hlc:=hj.tl;have hc2:=hj.tc;have h64:j.tasks.length<=64:=by have:=hG.nt;rw[j.nt] at this;exact this
 obtain⟨m,hm⟩:∃m,j.tasks.length=m:=⟨_,rfl⟩
 rw[hm] at q0 q2 hlc h64 hn;clear hb hj hG hTA hm;go_enter Tryz.func138,Tryz.ntmps138;go_wp2
 go_quiet (fail)
 go_wp2;go_ret;exact⟨ret_int HE.o.symm,_,rfl⟩
end Go.Proofs.YtjpgnfekbojcaaaGreat
namespace W8
open W7
theorem pieces_le {r:Int}:∀ {l:List JUse},(∀u∈l,1<=u.many/\u.many<=1000)->(l.map (·.res)).Nodup->0<=pieces r l/\pieces r l<=1000
 | [],_,_=>by simp[pieces]
 | u::l,h,hn=>by
  have h1:=pieces_le (r:=r) (l:=l) (fun x hx=>h x (List.mem_cons_of_mem _ hx)) (by simp only[List.map_cons,List.nodup_cons] at hn;exact hn.2);have h2:=h u (List.mem_cons_self ..);simp only[pieces]
  by_cases he:(u.res==r)=true
  ·rw[if_pos he]
   have hz:pieces r l=0:=by
    simp only[List.map_cons,List.nodup_cons] at hn
    have hno:∀x∈l,(x.res==r)=false:=fun x hx=>by
     cases hxr:(x.res==r)
     ·rfl
     ·have e1:=eq_of_beq hxr;have e2:=eq_of_beq he;exact absurd (List.mem_map.2 ⟨x,hx,by rw[e1,e2]⟩) hn.1
    clear h hn h1
    induction l with
    | nil=>rfl
    | cons y l ih=>
     simp only[pieces];rw[hno y (List.mem_cons_self ..),if_neg (by decide),ih (fun x hx=>hno x (List.mem_cons_of_mem _ hx))]
     rfl
   omega
  ·rw[if_neg he];omega
theorem pieces_snoc (r:Int):∀(l:List JUse) (u:JUse),pieces r (l++[u])=pieces r l+if u.res==r then u.many else 0
 | [],u=>by simp[pieces]
 | x::l,u=>by simp only[List.cons_append,pieces];rw[pieces_snoc r l u];omega
theorem pieces_pre {r:Int} {l:List JUse} (h:∀u∈l,1<=u.many/\u.many<=1000) (hn:(l.map (·.res)).Nodup) (k:Nat):0<=pieces r (l.take k)/\pieces r (l.take k)<=1000:=
 pieces_le (fun u hu=>h u (List.mem_of_mem_take hu)) (hn.sublist ((List.take_sublist _ _).map _))
theorem pieces_good {j:JobP} (hG:JGood j) {t:TaskP} (ht:t∈j.tasks) (r:Int) (k:Nat):0<=pieces r (t.uses.take k)/\pieces r (t.uses.take k)<=1000:=
 pieces_pre (fun u hu=>⟨(hG.uses t ht u hu).2.2.1,(hG.uses t ht u hu).2.2.2.1⟩) (hG.nuses t ht) k
theorem usedTo_le {j:JobP} (hG:JGood j) (b:Bd) (r m:Int):∀i,i<=j.tasks.length->0<=usedTo j b r m i/\usedTo j b r m i<=1000*i
 | 0,_=>by simp[usedTo]
 | i+1,hi=>by
  have h1:=usedTo_le hG b r m i (by omega);have h2:=pieces_good hG (t:=j.tasks.getD i default) (by rw[getD_of (by omega)];exact List.getElem_mem _) r (j.tasks.getD i default).uses.length;rw[List.take_length] at h2;simp only[usedTo]
  split<;>omega
theorem usedV_le {j:JobP} (hG:JGood j) (b:Bd) (r m:Int):0<=usedV j b r m/\usedV j b r m<=64000:=by
 have h1:=usedTo_le hG b r m j.tasks.length (Nat.le_refl _);have h2:=hG.nt;unfold usedV;omega
end W8
namespace Go.Proofs.YtjpgnfekbojcaaaGreat
open Go.RowKit W7 W8
attribute [local go_sem] Oper.semAt_some
theorem used_any (j:Job) (b:Bd) (fr r m:Int) (g sb pb B:Nat) (w:World) (hb:BdIn w g sb pb j b fr) (hj:JIn w B j) (hB:B<=w.heap.size) (hG:JGood j.p) (hs:BOk b) :
  Calls Tryz.prog 214 #[.pointer (some ⟨g,0,none⟩),.int .i64 r,.int .i64 m] w fun e w'=>e= .returned (.int .i64 (usedV j.p b r m))/\Bl w w':=by
 obtain⟨n,hn⟩:∃n,j.tasks.length=n:=⟨_,rfl⟩
 obtain⟨TA,hTA⟩:∃x,j.TA=x:=⟨_,rfl⟩
 have h64:n<=64:=by have:=hG.nt;rw[j.nt] at this;omega
 have hlc:=hj.tl;have hc2:=hj.tc;rw[hn] at hlc;have HB:=hI (show ∀X:World,Bl w X->BdIn X g sb pb j b fr/\JIn X B j from fun X hX=>⟨hb.below hX,hj.below (hX.mono hB)⟩);have HG:=hI hG;have HS:=hI hs;have Hn:=hI hn;have HTA:=hI hTA;have HU:=hI (show usedV j.p b r m=usedTo j.p b r m n by unfold usedV;rw[j.nt,hn]);have q0:=bc (j:=0) hb.hg rfl;rw[hTA,hn] at q0;clear hb hj hG hs hn hTA;go_enter Tryz.func214,Tryz.ntmps214;go_wp2;clear q0;go_loopw [7,18] (fun v7 v18 wr=>∃i:Nat,i<=n/\v18= .int .i64 i/\v7= .int .i64 (usedTo j.p b r m i)/\Hid (Bl w wr)) (fun _ v18 _=>n-(intOf v18).toNat);case atStart=>exact⟨0,by omega,rfl,rfl,hI (Below.refl _ _)⟩
 case round=>
  obtain⟨i,hi,rfl,rfl,Hb⟩:=hrel;have hsz:=Hb.o.size
  by_cases hlt:i<n
  ·have hil:i<j.tasks.length:=by have:=Hn.o;omega
   obtain⟨hbd,hjn⟩:=HB.o wr Hb.o;obtain⟨tb,off,hTb,htb⟩:=hjn.ta (by omega);have hTe:TA=some ⟨tb,off,none⟩:=by rw[<- HTA.o];exact hTb
   subst hTe;obtain⟨c0,c1,c2,c3⟩:=hjn.tcells hTb hil;have p2:=bc (j:=2) hbd.hg rfl;have p1:=bc (j:=3) hbd.hg rfl;rw[Hn.o] at p1 p2;have cs:=hbd.st hil;have cp:=hbd.pl hil;have HE:=hI (fun(X:World) (hX:Bl w X)=>end_any j b fr g sb pb B i X (HB.o X hX).1 (HB.o X hX).2 HG.o hil (HS.o i));have hu1:=usedTo_le HG.o b r m i (by rw[j.nt];omega);have HStep:=hI (show usedTo j.p b r m (i+1)=usedTo j.p b r m i+if runsB j.p b m i then pieces r (j.T i).p.uses else 0 by rw[<- j.pT];rfl);have HRun:=hI (show runsB j.p b m i=(b.pl.getD i false&&decide (b.st.getD i 0<=m)&&decide (m<endV j.p b i)) from rfl);have HPs:=hI (fun k=>pieces_good HG.o (j.Tp_mem hil) r k);have hTk:=hjn.tks _ (j.T_mem hil);have HTk:=hI (fun(X:World) (hX:Bl wr X)=>((HB.o X (Hb.o.trans (hX.mono hsz))).2.tks _ (j.T_mem hil)).us);have hul:=hTk.ul;have huc:=hTk.uc;generalize j.T i=t at c0 c1 c2 c3 HStep HPs HTk hul huc
   obtain⟨s,hs'⟩:∃x,b.st.getD i 0=x:=⟨_,rfl⟩
   obtain⟨pl,hp'⟩:∃x,b.pl.getD i false=x:=⟨_,rfl⟩
   rw[hs'] at cs HRun;rw[hp'] at cp HRun;have Hs':=hI hs';have Hp':=hI hp';clear hs' hp';generalize endV j.p b i=ev at HE HRun;generalize usedTo j.p b r m i=S at hu1 HStep;have hS2:S<=100000:=by omega
   obtain⟨UA,hUA⟩:∃x,t.UA=x:=⟨_,rfl⟩
   obtain⟨nu,hnu⟩:∃x,t.p.uses.length=x:=⟨_,rfl⟩
   rw[hUA,hnu] at c3;rw[hUA] at HTk;rw[hnu] at hul;have Hnu:=hI hnu;clear hTk hbd hjn hTb hUA hnu;go_upto_region 5 with fail;obtain⟨W2,hW2⟩:∃W2,W2=wr.alloc (.cells #[.string t.p.name,.int .i64 t.p.takes,.slice t.NA t.p.needs.length t.nc,.slice UA nu t.uc] 46):=⟨_,rfl⟩
   have HB2:=hI (show Bl wr W2 by rw[hW2];exact(Below.refl _ _).alloc (Nat.le_refl _) _);have hs2:wr.heap.size+1<=W2.heap.size:=by rw[hW2];simp
   have HX2:=hI (show ∀X:World,Bl W2 X->X.heap[wr.heap.size]? =some (.cells #[.string t.p.name,.int .i64 t.p.takes,.slice t.NA t.p.needs.length t.nc,.slice UA nu t.uc] 46 (0,0)) from fun X hX=>(hX.block _ (by omega)).trans (by rw[hW2];exact heap_alloc_new _ _));rw[<- hW2];have HA2:=hI (Hb.o.trans (HB2.o.mono hsz));clear hW2 c0 c1 c2 c3 p1 p2 cs cp;obtain⟨hbd,hjn⟩:=HB.o W2 HA2.o;have p2:=bc (j:=2) hbd.hg rfl;have p1:=bc (j:=3) hbd.hg rfl;rw[Hn.o] at p1 p2;have cs:W2.cell? ⟨sb,i,none⟩=some (.int .i64 s):=by rw[hbd.st hil,Hs'.o]
   have cp:W2.cell? ⟨pb,i,none⟩=some (.bool pl):=by rw[hbd.pl hil,Hp'.o]
   have HUsz:=hI (show Bl w W2 from HA2.o);clear hbd hjn;cases pl
   ·have HN:=hI (show usedTo j.p b r m (i+1)=S by rw[HStep.o,HRun.o];simp);go_wp2;go_roundw;case rel=>exact⟨i+1,by omega,by go_num,by rw[HN.o],HA2⟩
    case measure=>simp[intOf];omega
   by_cases h1:m<s
   ·have HN:=hI (show usedTo j.p b r m (i+1)=S by rw[HStep.o,HRun.o,decide_eq_false (show ¬s<=m by omega)];simp);go_wp2;go_roundw;case rel=>exact⟨i+1,by omega,by go_num,by rw[HN.o],HA2⟩
    case measure=>simp[intOf];omega
   have HE2:=hI (HE.o W2 HA2.o)
   by_cases h2:ev<=m
   ·have HN:=hI (show usedTo j.p b r m (i+1)=S by rw[HStep.o,HRun.o,decide_eq_false (show ¬m<ev by omega)];simp);go_wp2_with (go_at_call 138;refine HE2.o.mono ?_;rintro e w' ⟨rfl,kk,rfl⟩);go_roundw;case rel=>exact⟨i+1,by omega,by go_num,by rw[HN.o],hI (below_drewN HA2.o _)⟩
    case measure=>simp[intOf];omega
   have HN:=hI (show usedTo j.p b r m (i+1)=S+pieces r t.p.uses by rw[HStep.o,HRun.o,decide_eq_true (show s<=m by omega),decide_eq_true (show m<ev by omega)];simp);obtain⟨wo,rfl⟩:∃wo:World,wo=wr:=⟨_,rfl⟩
   go_upto_region 6 with(go_at_call 138;refine HE2.o.mono ?_;rintro e w' ⟨rfl,kk,rfl⟩)
   obtain⟨W3,hW3⟩:∃W3,W3=W2.drewN kk:=⟨_,rfl⟩
   have HB3:=hI (show Bl W2 W3 by rw[hW3];exact below_drewN (Below.refl _ _) _);have hs3:W2.heap.size<=W3.heap.size:=HB3.o.size;rw[<- hW3];have HA3:=hI (HA2.o.trans (HB3.o.mono (by omega)));have d3:=bc (j:=3) (HX2.o W3 HB3.o) rfl;clear hW3 p1 p2 cs cp HE2;go_wp2;clear d3;go_loopw [7,52] (fun v7 v52 wq=>∃k:Nat,k<=nu/\v52= .int .i64 k/\v7= .int .i64 (S+pieces r (t.p.uses.take k))/\Hid (Bl W3 wq)) (fun _ v52 _=>nu-(intOf v52).toNat);case atStart=>exact⟨0,by omega,rfl,by simp[pieces],hI (Below.refl _ _)⟩
   case round=>
    obtain⟨k,hk,rfl,rfl,Hq⟩:=hrel;have hsq:=Hq.o.size;have HAq:=hI (HA3.o.trans (Hq.o.mono (by omega)))
    by_cases hlt2:k<nu
    ·have hkl:k<t.p.uses.length:=by have:=Hnu.o;omega
     obtain⟨ub,uoff,hue,hub,hcells⟩:=(HTk.o wr ((HB2.o.trans (HB3.o.mono (by omega))).trans (Hq.o.mono (by omega)))) (by omega)
     subst hue;have c0:wr.cell? ⟨ub,uoff+k*2,none⟩=some (.int .i64 t.p.uses[k].res):=hcells k hkl 0 _ rfl;have c1:wr.cell? ⟨ub,uoff+k*2+1,none⟩=some (.int .i64 t.p.uses[k].many):=hcells k hkl 1 _ rfl;have HPn:=hI (show pieces r (t.p.uses.take (k+1))=pieces r (t.p.uses.take k)+if t.p.uses[k].res==r then t.p.uses[k].many else 0 by rw[List.take_succ_eq_append_getElem hkl,pieces_snoc]);have hpk:=HPs.o k;have hpk1:=HPs.o (k+1);rw[HPn.o] at hpk1;generalize t.p.uses[k]=u at c0 c1 HPn hpk1;generalize pieces r (t.p.uses.take k)=pk at hpk HPn hpk1;clear hcells;cases hu:(u.res==r)
     ·have HQ:=hI (show pieces r (t.p.uses.take (k+1))=pk by rw[HPn.o,hu];simp);clear hpk1;go_wp2;go_roundw;case rel=>exact⟨k+1,by omega,by go_num,by rw[HQ.o],hI (Hq.o.alloc (by omega) _)⟩
      case measure=>simp[intOf];omega
     ·have HQ:=hI (show pieces r (t.p.uses.take (k+1))=pk+u.many by rw[HPn.o,hu];simp);rw[hu] at hpk1;simp only[if_true] at hpk1;have b1: -100000<=u.many:=by omega
      have b2:u.many<=100000:=by omega
      clear hpk1;go_wp2;go_roundw;case rel=>exact⟨k+1,by omega,by go_num,by rw[HQ.o];go_num,hI (Hq.o.alloc (by omega) _)⟩
      case measure=>simp[intOf];omega
    ·have HPe:=hI (show pieces r (t.p.uses.take k)=pieces r t.p.uses by rw[List.take_of_length_le (by have:=Hnu.o;omega)]);go_wp2;go_roundw;case rel=>exact⟨i+1,by omega,by go_num,by rw[HN.o,HPe.o],HAq⟩
     case measure=>simp[intOf];omega
  ·obtain rfl:i=n:=by omega
   go_wp2;go_ret;exact⟨ret_int HU.o.symm,Hb.o⟩
end Go.Proofs.YtjpgnfekbojcaaaGreat
