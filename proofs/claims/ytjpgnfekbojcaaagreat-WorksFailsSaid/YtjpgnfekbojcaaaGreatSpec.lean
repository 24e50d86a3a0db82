/- Plain data and plain functions of the watch layer: quantities,gauges,readings,names,checks. -/
import Derived.Test.YtjpgnfekbojcaaaGreatBase
import Derived.Shelf.SlSortCmp.WholeK
namespace W7
structure Span where
 lo:Int
 hi:Int
deriving Inhabited,DecidableEq
structure Gauge where
 name:ByteArray
 acc:Int
 drift:Int
 since:Int
deriving Inhabited
structure Quantity where
 name:ByteArray
 lo:Int
 hi:Int
 rise:Int
 fall:Int
 bad:Int
 gA:Option Go.Addr
 gc:Nat
 gs:List Gauge
deriving Inhabited
def withinB (n lo hi:Int):Bool:=decide (lo<=n)&&decide (n<=hi)
theorem withinB_true {n lo hi:Int}:withinB n lo hi=true↔lo<=n/\n<=hi:=by simp[withinB]
def isTm (n:Int):Bool:=withinB n 0 100000
theorem isTm_true {n:Int}:isTm n=true↔0<=n/\n<=100000:=withinB_true
def okc (c:UInt8):Bool:=(decide ((97:Int)<=(c.toNat:Int))&&decide ((c.toNat:Int)<=122))||(decide ((48:Int)<=(c.toNat:Int))&&decide ((c.toNat:Int)<=57))||((c.toNat:Int)==45)
def okFirst (c:UInt8):Bool:=decide ((97:Int)<=(c.toNat:Int))&&decide ((c.toNat:Int)<=122)
def nameB (s:ByteArray):Bool:=decide (1<=s.size)&&decide (s.size<=16)&&okFirst (s.data.toList.headD 0)&&s.data.toList.all okc
def encInt1 (i:Int):List Go.Value:=[.int .i64 i]
def encG (g:Gauge):List Go.Value:=[.string g.name,.int .i64 g.acc,.int .i64 g.drift,.int .i64 g.since]
structure QIn (w:Go.World) (B:Nat) (q:Quantity):Prop where
 nm:q.name.size<=9223372036854775807
 len:q.gs.length<=9223372036854775807
 cap:q.gs.length<=q.gc
 cap2:q.gc<=9223372036854775807
 sl:Sl w B 4 encG q.gA q.gs
 gnm:∀g∈q.gs,g.name.size<=9223372036854775807
end W7
namespace W8
open W7
structure AirRow where
 pr:Int
 mi:Int
 out:Int
deriving Inhabited,DecidableEq
structure Table where
 A:Option Go.Addr
 c:Nat
 rows:List AirRow
 rest:Int
 day:Int
structure Dive where
 who:ByteArray
 pr:Int
 tin:Int
 leave:Int
 out:Int
deriving Inhabited
def okRow (r:AirRow):Bool:=isTm r.pr&&isTm r.mi&&isTm r.out
def tblErr (t:Table):Int:=if 64<t.rows.length then 3 else if t.rows.all okRow&&isTm t.rest&&isTm t.day then 0 else 1
def fitsRow (p m:Int) (r:AirRow):Bool:=decide (p<=r.pr)&&decide (m<=r.mi)
def cntRow (t:Table) (p m:Int):Option AirRow:=t.rows.find? (fitsRow p m)
theorem all_take_row {rows:List AirRow} {k:Nat} (hk:k<rows.length) (h:(rows.take k).all okRow=true):(rows.take (k+1)).all okRow=okRow rows[k]:=by
 rw[zK hk,List.all_append,h];simp
theorem not_all_row {rows:List AirRow} {k:Nat} (hk:k<rows.length) (h:okRow rows[k]=false):rows.all okRow=false:=by
 rw[Bool.eq_false_iff];intro ha;rw[List.all_eq_true] at ha;rw[ha _ (zC hk)] at h;cases h
theorem tbl_long {t:Table} (h:64<t.rows.length):tblErr t=3:=by unfold tblErr;rw[if_pos h]
theorem tbl_row {t:Table} {k:Nat} (h: ¬ 64<t.rows.length) (hk:k<t.rows.length) (hr:okRow t.rows[k]=false):tblErr t=1:=by
 unfold tblErr;rw[if_neg h,not_all_row hk hr]
 rfl
theorem tbl_end {t:Table} (h: ¬ 64<t.rows.length) (hr:t.rows.all okRow=true):tblErr t=if isTm t.rest&&isTm t.day then 0 else 1:=by
 unfold tblErr;rw[if_neg h,hr,Bool.true_and]
theorem cnt_hit {t:Table} {p m:Int} {k:Nat} (hk:k<t.rows.length) (h:idxB (fun x=>fitsRow p m x) t.rows=(k:Int)):cntRow t p m=some t.rows[k]:=by
 unfold idxB at h;unfold cntRow;cases hf:t.rows.findIdx? (fun x=>fitsRow p m x) with
 | none=>rw[hf] at h;exact absurd (show(-1:Int)=(k:Int) from h) (by omega)
 | some j=>
  rw[hf] at h;have hj:j=k:=Int.ofNat.inj h;subst hj;rw[List.findIdx?_eq_some_iff_getElem] at hf;obtain⟨h1,h2,h3⟩:=hf;rw[List.find?_eq_some_iff_getElem];exact⟨h2,j,h1,rfl,fun i hi=>by simpa using h3 i hi⟩
theorem cnt_none {t:Table} {p m:Int} (h: ¬ 0<=idxB (fun x=>fitsRow p m x) t.rows):cntRow t p m=none:=by
 unfold idxB at h;unfold cntRow;cases hf:t.rows.findIdx? (fun x=>fitsRow p m x) with
 | none=>
  rw[List.findIdx?_eq_none_iff] at hf;rw[List.find?_eq_none];intro x hx
  simpa using hf x hx
 | some j=>rw[hf] at h;exact absurd (by simp) h
theorem idx_lt {α:Type} {P:α->Bool} {xs:List α} (h:0<=idxB P xs):∃k:Nat,k<xs.length/\idxB P xs=(k:Int):=by
 unfold idxB at h ⊢;cases hf:xs.findIdx? P with
 | none=>rw[hf] at h;exact absurd h (by decide)
 | some k=>
  rw[List.findIdx?_eq_some_iff_getElem] at hf;exact⟨k,hf.1,rfl⟩
def ordB (d:Dive):Bool:=decide (d.tin<d.leave)&&decide (d.leave<=d.out)
def cntB (t:Table) (d:Dive):Bool:=(cntRow t d.pr (d.leave-d.tin)).isSome
def outB (t:Table) (d:Dive):Bool:=decide (((cntRow t d.pr (d.leave-d.tin)).getD ⟨0,0,0⟩).out<=d.out-d.leave)
def restB (t:Table) (l:List Dive) (d:Dive):Bool:=decide (l.length=0)||decide (t.rest<=d.tin-(l.getD (l.length-1) default).out)
def minsOf (d x:Dive):Int:=max 0 (min x.leave d.leave-max x.tin (d.leave-1440))
def sumOf (d:Dive):List Dive->Int
 | []=>0
 | x::r=>minsOf d x+sumOf d r
def dayB (t:Table) (l:List Dive) (d:Dive):Bool:=decide (sumOf d (l++[d])<=t.day)
def faultN (t:Table) (l:List Dive) (d:Dive):Int:=
 if !ordB d then 1 else if !cntB t d then 2 else if !outB t d then 3 else if !restB t l d then 4 else if !dayB t l d then 5 else 0
structure OkDive (d:Dive):Prop where
 pr:0<=d.pr/\d.pr<=100000
 tin:0<=d.tin/\d.tin<=100000
 leave:0<=d.leave/\d.leave<=100000
 out:0<=d.out/\d.out<=100000
theorem mins_le {d x:Dive} (h:OkDive d) (hx:OkDive x):0<=minsOf d x/\minsOf d x<=100000:=by
 have h1:=h.leave;have h2:=hx.leave;have h3:=hx.tin;unfold minsOf;omega
theorem sum_snoc (d:Dive):∀(l:List Dive) (x:Dive),sumOf d (l++[x])=sumOf d l+minsOf d x
 | [],x=>by simp[sumOf]
 | y::r,x=>by
  show minsOf d y+sumOf d (r++[x])=minsOf d y+sumOf d r+minsOf d x
  rw[sum_snoc d r x];omega
theorem sum_le {d:Dive} (h:OkDive d):∀(l:List Dive),(∀x∈l,OkDive x)->0<=sumOf d l/\sumOf d l<=100000*l.length
 | [],_=>by simp[sumOf]
 | x::r,hl=>by
  have h1:=sum_le h r (fun y hy=>hl y (zQ _ hy));have h2:=mins_le h (hl x (zL ..))
  show 0<=minsOf d x+sumOf d r/\minsOf d x+sumOf d r<=100000*((r.length+1:Nat):Int)
  omega
structure JUse where
 res:Int
 many:Int
deriving Inhabited,DecidableEq
structure JSpan where
 lo:Int
 hi:Int
deriving Inhabited,DecidableEq
structure TaskP where
 name:ByteArray
 takes:Int
 needs:List Int
 uses:List JUse
deriving Inhabited
structure ResP where
 name:ByteArray
 many:Int
 off:List JSpan
deriving Inhabited
structure JobP where
 tasks:List TaskP
 res:List ResP
structure Task where
 p:TaskP
 NA:Option Go.Addr
 nc:Nat
 UA:Option Go.Addr
 uc:Nat
deriving Inhabited
structure Res where
 p:ResP
 OA:Option Go.Addr
 oc:Nat
deriving Inhabited
structure Job where
 TA:Option Go.Addr
 tc:Nat
 tasks:List Task
 RA:Option Go.Addr
 rc:Nat
 res:List Res
def Job.p (j:Job):JobP:=⟨j.tasks.map (·.p),j.res.map (·.p)⟩
theorem Job.nt (j:Job):j.p.tasks.length=j.tasks.length:=by simp[Job.p]
theorem Job.nr (j:Job):j.p.res.length=j.res.length:=by simp[Job.p]
theorem Job.tk (j:Job) {i:Nat} (h:i<j.tasks.length):j.p.tasks.getD i default=j.tasks[i].p:=by simp[Job.p,zA,h]
theorem Job.rs (j:Job) {i:Nat} (h:i<j.res.length):j.p.res.getD i default=j.res[i].p:=by simp[Job.p,zA,h]
def spanErrAt (l:List JSpan) (i:Nat):Int:=
 if isTm (l.getD i default).lo&&isTm (l.getD i default).hi&&decide ((l.getD i default).lo<=(l.getD i default).hi)&&(decide (i=0)||decide ((l.getD (i-1) default).hi<(l.getD i default).lo)) then 0 else 1
def offErr (l:List JSpan):Int:=if 16<l.length then 3 else firstErr (spanErrAt l) l.length
def resErr1 (r:ResP):Int:=if withinB r.many 0 1000 then offErr r.off else 1
def resErrAt (l:List ResP) (i:Nat):Int:=
 if nameB (l.getD i default).name then(if (l.take i).any (fun x=>strEq x.name (l.getD i default).name) then 6 else resErr1 (l.getD i default)) else 5
def ressErr (l:List ResP):Int:=if 16<l.length then 3 else firstErr (resErrAt l) l.length
def needErrAt (n:Nat) (l:List Int) (i:Nat):Int:=
 if withinB (l.getD i default) 0 ((n:Int)-1) then(if (l.take i).any (fun x=>x==l.getD i default) then 6 else 0) else 7
def useErrAt (rs:List ResP) (l:List JUse) (i:Nat):Int:=
 if withinB (l.getD i default).res 0 ((rs.length:Int)-1) then
  (if (l.take i).any (fun x=>x.res==(l.getD i default).res) then 6 else
   if withinB (l.getD i default).many 1 1000 then(if (rs.getD (l.getD i default).res.toNat default).many<(l.getD i default).many then 9 else 0) else 1) else 7
def tskErr1 (j:JobP) (t:TaskP):Int:=
 if isTm t.takes then
  (if firstErr (needErrAt j.tasks.length t.needs) t.needs.length=0 then firstErr (useErrAt j.res t.uses) t.uses.length
   else firstErr (needErrAt j.tasks.length t.needs) t.needs.length) else 1
def tskErrAt (j:JobP) (i:Nat):Int:=
 if nameB (j.tasks.getD i default).name then(if (j.tasks.take i).any (fun x=>strEq x.name (j.tasks.getD i default).name) then 6 else tskErr1 j (j.tasks.getD i default)) else 5
def standB (pl:List Bool) (l:List Int):Bool:=l.all fun k=>pl.getD k.toNat false
def mayB (j:JobP) (pl:List Bool) (i:Nat):Bool:= !pl.getD i false&&standB pl (j.tasks.getD i default).needs
def firstMay (j:JobP) (pl:List Bool):Option Nat:=(List.range j.tasks.length).find? (mayB j pl)
def ordGo (j:JobP):Nat->List Bool->List Int->List Int
 | 0,_,out=>out
 | f+1,pl,out=>match firstMay j pl with
  | none=>out
  | some k=>ordGo j f (pl.set k true) (out++[(k:Int)])
def ordV (j:JobP):List Int:=ordGo j j.tasks.length (List.replicate j.tasks.length false) []
def tsksErr (j:JobP):Int:=firstErr (tskErrAt j) j.tasks.length
def jobErr (j:JobP):Int:=
 if ressErr j.res≠0 then ressErr j.res else if 64<j.tasks.length then 3 else if tsksErr j≠0 then tsksErr j else if (ordV j).length<j.tasks.length then 11 else 0
structure JGood (j:JobP):Prop where
 nt:j.tasks.length<=64
 nr:j.res.length<=16
 takes:∀t∈j.tasks,0<=t.takes/\t.takes<=100000
 needs:∀t∈j.tasks,∀k∈t.needs,0<=k/\k<j.tasks.length
 nneeds:∀t∈j.tasks,t.needs.Nodup
 uses:∀t∈j.tasks,∀u∈t.uses,0<=u.res/\u.res<j.res.length/\1<=u.many/\u.many<=1000/\u.many<=(j.res.getD u.res.toNat default).many
 nuses:∀t∈j.tasks,(t.uses.map (·.res)).Nodup
 many:∀r∈j.res,0<=r.many/\r.many<=1000
 noff:∀r∈j.res,r.off.length<=16
 off:∀r∈j.res,∀s∈r.off,0<=s.lo/\s.lo<=s.hi/\s.hi<=100000
 offs:∀r∈j.res,r.off.Pairwise fun a b=>a.hi<b.lo
theorem firstErr_zeros {f:Nat->Int}:∀ {n:Nat},firstErr f n=0->∀i,i<n->f i=0
 | 0,_,i,h=>absurd h (by omega)
 | n+1,h0,i,hi=>by
  have hn:firstErr f n=0:=by
   by_cases hz:firstErr f n=0
   ·exact hz
   ·have h1:firstErr f (n+1)=firstErr f n:=by simp[firstErr,hz]
    rw[h1] at h0;exact h0
  rcases Nat.lt_or_ge i n with h | h
  ·exact firstErr_zeros hn i h
  ·obtain rfl:i=n:=by omega
   rw[<- firstErr_succ hn];exact h0
theorem getD_of {α:Type} [Inhabited α] {l:List α} {i:Nat} (h:i<l.length):l.getD i default=l[i]:=by
 rw[zA,zB h,Option.getD_some]
theorem nodup_of_prefix {α β:Type} [DecidableEq β] {f:α->β} {l:List α} (h:∀i (hi:i<l.length),(l.take i).any (fun x=>f x==f l[i])=false):(l.map f).Nodup:=by
 rw[List.Nodup,List.pairwise_iff_getElem];intro i k hi hk hik;simp only[List.length_map] at hi hk;have:=h k hk;rw[List.any_eq_false] at this;have h2:=this l[i] (List.mem_take_iff_getElem.2 ⟨i,by omega,rfl⟩);simp only[List.getElem_map]
 simpa using h2
theorem pair_of_next {l:List JSpan} (h1:∀s∈l,s.lo<=s.hi) (h:∀i (hi:i<l.length),0<i->(l[i-1]'(by omega)).hi<l[i].lo):l.Pairwise fun a b=>a.hi<b.lo:=by
 rw[List.pairwise_iff_getElem];intro i k hi hk hik
 have key:∀d (hd:i+d+1<l.length),l[i].hi<l[i+d+1].lo:=by
  intro d
  induction d with
  | zero=>intro hd;have:=h (i+1) hd (by omega);simpa using this
  | succ d ih=>
   intro hd;have a:=ih (by omega);have b:=h (i+d+1+1) (by omega) (by omega);have c:=h1 _ (zC (show i+d+1<l.length by omega));simp only[Nat.add_sub_cancel] at b
   show l[i].hi<(l[i+(d+1)+1]).lo
   have e:i+(d+1)+1=i+d+1+1:=by omega
   simp only[e];omega
 have:=key (k-i-1) (by omega);have e:i+(k-i-1)+1=k:=by omega
 simpa only[e] using this
theorem good_of0 {j:JobP} (hr:ressErr j.res=0) (hn: ¬ 64<j.tasks.length) (ht:tsksErr j=0):JGood j:=by
 have hrl: ¬ 16<j.res.length:=by
  intro h1;unfold ressErr at hr;rw[if_pos h1] at hr;cases hr
 have hre:∀r∈j.res,resErr1 r=0:=by
  intro r hm;obtain⟨i,hi,rfl⟩:=List.getElem_of_mem hm;unfold ressErr at hr;rw[if_neg hrl] at hr;have h1:=firstErr_zeros hr i hi;unfold resErrAt at h1;rw[getD_of hi] at h1
  split at h1
  ·split at h1
   ·cases h1
   ·exact h1
  ·cases h1
 have hrm:∀r∈j.res,0<=r.many/\r.many<=1000/\offErr r.off=0:=by
  intro r hm;have h1:=hre r hm;unfold resErr1 at h1
  split at h1
  ·rename_i h2;exact⟨(withinB_true.1 h2).1,(withinB_true.1 h2).2,h1⟩
  ·cases h1
 have hof:∀r∈j.res, ¬ 16<r.off.length/\∀i,i<r.off.length->spanErrAt r.off i=0:=by
  intro r hm;have h1:=(hrm r hm).2.2;unfold offErr at h1
  split at h1
  ·cases h1
  ·rename_i h2;exact⟨h2,firstErr_zeros h1⟩
 have hsp:∀r∈j.res,∀i (hi:i<r.off.length),(0<=r.off[i].lo/\r.off[i].lo<=r.off[i].hi/\r.off[i].hi<=100000)/\(0<i->(r.off[i-1]'(by omega)).hi<r.off[i].lo):=by
  intro r hm i hi;have h1:=(hof r hm).2 i hi;unfold spanErrAt at h1;rw[getD_of hi] at h1
  split at h1
  ·rename_i h2
   simp only[zY,Bool.or_eq_true,decide_eq_true_eq] at h2;obtain⟨⟨⟨a,b⟩,c⟩,d⟩:=h2;have a:=isTm_true.1 a;have b:=isTm_true.1 b;refine⟨⟨a.1,c,b.2⟩,fun h0=> ?_⟩;rcases d with d | d
   ·omega
   ·rw[getD_of (show i-1<r.off.length by omega)] at d;exact d
  ·cases h1
 have hte:∀t∈j.tasks,tskErr1 j t=0:=by
  intro t hm;obtain⟨i,hi,rfl⟩:=List.getElem_of_mem hm;have h1:=firstErr_zeros ht i hi;unfold tskErrAt at h1;rw[getD_of hi] at h1
  split at h1
  ·split at h1
   ·cases h1
   ·exact h1
  ·cases h1
 have htt:∀t∈j.tasks,(0<=t.takes/\t.takes<=100000)/\(∀i,i<t.needs.length->needErrAt j.tasks.length t.needs i=0)/\(∀i,i<t.uses.length->useErrAt j.res t.uses i=0):=by
  intro t hm;have h1:=hte t hm;unfold tskErr1 at h1
  split at h1
  ·rename_i h2
   split at h1
   ·rename_i h3
    exact⟨isTm_true.1 h2,firstErr_zeros h3,firstErr_zeros h1⟩
   ·rename_i h3;exact absurd h1 h3
  ·cases h1
 have hnd:∀t∈j.tasks,∀i (hi:i<t.needs.length),(0<=t.needs[i]/\t.needs[i]<j.tasks.length)/\(t.needs.take i).any (fun x=>x==t.needs[i])=false:=by
  intro t hm i hi;have h1:=(htt t hm).2.1 i hi;unfold needErrAt at h1;rw[getD_of hi] at h1
  split at h1
  ·rename_i h2
   have h2:=withinB_true.1 h2
   split at h1
   ·cases h1
   ·rename_i h3
    exact⟨⟨h2.1,by omega⟩,Bool.eq_false_iff.2 h3⟩
  ·cases h1
 have hus:∀t∈j.tasks,∀i (hi:i<t.uses.length),(0<=t.uses[i].res/\t.uses[i].res<j.res.length/\1<=t.uses[i].many/\t.uses[i].many<=1000/\t.uses[i].many<=(j.res.getD t.uses[i].res.toNat default).many)/\(t.uses.take i).any (fun x=>x.res==t.uses[i].res)=false:=by
  intro t hm i hi;have h1:=(htt t hm).2.2 i hi;unfold useErrAt at h1;rw[getD_of hi] at h1
  split at h1
  ·rename_i h2
   have h2:=withinB_true.1 h2
   split at h1
   ·cases h1
   ·rename_i h3
    split at h1
    ·rename_i h4
     have h4:=withinB_true.1 h4
     split at h1
     ·cases h1
     ·rename_i h5
      exact⟨⟨h2.1,by omega,h4.1,h4.2,by omega⟩,Bool.eq_false_iff.2 h3⟩
    ·cases h1
  ·cases h1
 refine⟨by omega,by omega,fun t hm=>(htt t hm).1,fun t hm k hk=> ?_,fun t hm=> ?_,fun t hm u hu=> ?_,fun t hm=> ?_,fun r hm=>⟨(hrm r hm).1,(hrm r hm).2.1⟩,fun r hm=>by have:=(hof r hm).1;omega,fun r hm s hs=> ?_,fun r hm=>pair_of_next (fun s hs=> ?_) (fun i hi h0=>(hsp r hm i hi).2 h0)⟩
 ·obtain⟨i,hi,rfl⟩:=List.getElem_of_mem hk;exact(hnd t hm i hi).1
 ·have:=nodup_of_prefix (f:=fun x:Int=>x) (l:=t.needs) (fun i hi=>(hnd t hm i hi).2)
  simpa using this
 ·obtain⟨i,hi,rfl⟩:=List.getElem_of_mem hu;exact(hus t hm i hi).1
 ·exact nodup_of_prefix (f:=fun x:JUse=>x.res) (fun i hi=>(hus t hm i hi).2)
 ·obtain⟨i,hi,rfl⟩:=List.getElem_of_mem hs;exact(hsp r hm i hi).1
 ·obtain⟨i,hi,rfl⟩:=List.getElem_of_mem hs;exact(hsp r hm i hi).1.2.1
theorem err_parts {j:JobP} (h:jobErr j=0):ressErr j.res=0/\ ¬ 64<j.tasks.length/\tsksErr j=0/\ ¬(ordV j).length<j.tasks.length:=by
 unfold jobErr at h
 by_cases hr:ressErr j.res=0
 rotate_left
 ·rw[if_pos hr] at h;exact absurd h hr
 rw[if_neg (by simpa using hr)] at h
 by_cases hn:64<j.tasks.length
 ·rw[if_pos hn] at h;cases h
 rw[if_neg hn] at h
 by_cases ht:tsksErr j=0
 rotate_left
 ·rw[if_pos ht] at h;exact absurd h ht
 rw[if_neg (by simpa using ht)] at h;refine⟨hr,hn,ht,fun ho=> ?_⟩;rw[if_pos ho] at h;cases h
theorem good_of {j:JobP} (h:jobErr j=0):JGood j:=good_of0 (err_parts h).1 (err_parts h).2.1 (err_parts h).2.2.1
structure Bd where
 st:List Int
 pl:List Bool
def endV (j:JobP) (b:Bd) (n:Nat):Int:=b.st.getD n 0+(j.tasks.getD n default).takes
def pieces (r:Int):List JUse->Int
 | []=>0
 | u::l=>(if u.res==r then u.many else 0)+pieces r l
def runsB (j:JobP) (b:Bd) (m:Int) (i:Nat):Bool:=b.pl.getD i false&&decide (b.st.getD i 0<=m)&&decide (m<endV j b i)
def usedTo (j:JobP) (b:Bd) (r m:Int):Nat->Int
 | 0=>0
 | i+1=>usedTo j b r m i+if runsB j b m i then pieces r (j.tasks.getD i default).uses else 0
def usedV (j:JobP) (b:Bd) (r m:Int):Int:=usedTo j b r m j.tasks.length
def overB (from' to':Int) (s:JSpan):Bool:=decide (s.lo<to')&&decide (from'<=s.hi)
def crowdB (j:JobP) (b:Bd) (u:JUse) (m:Int):Bool:=decide ((j.res.getD u.res.toNat default).many<usedV j b u.res m+u.many)
def startsIn (b:Bd) (from' to':Int) (i:Nat):Bool:=b.pl.getD i false&&decide (from'<b.st.getD i 0)&&decide (b.st.getD i 0<to')
def freeV (j:JobP) (b:Bd) (u:JUse) (from' to':Int):Bool:=
 !(j.res.getD u.res.toNat default).off.any (overB from' to')&& !crowdB j b u from' &&
  !(List.range j.tasks.length).any (fun i=>startsIn b from' to' i&&crowdB j b u (b.st.getD i 0))
def readyGo (j:JobP) (b:Bd):List Int->Int->Int
 | [],at'=>at'
 | k::l,at'=>readyGo j b l (max at' (endV j b k.toNat))
def readyV (j:JobP) (b:Bd) (fr:Int) (n:Nat):Int:=readyGo j b (j.tasks.getD n default).needs fr
def fitsV (j:JobP) (b:Bd) (n:Nat) (at':Int):Bool:=
 decide (at'+(j.tasks.getD n default).takes<=100000) &&
  (decide ((j.tasks.getD n default).takes=0)|| !(j.tasks.getD n default).uses.any (fun u=> !freeV j b u at' (at'+(j.tasks.getD n default).takes)))
def endsAfter (j:JobP) (b:Bd) (first:Int) (k:Nat):List Int:=(List.range k).filterMap (fun i=>if b.pl.getD i false&&decide (first<endV j b i) then some (endV j b i) else none)
def offsAfter (first:Int) (l:List JSpan):List Int:=l.filterMap (fun s=>if first<s.hi+1 then some (s.hi+1) else none)
def usesAfter (j:JobP) (first:Int) (l:List JUse):List Int:=l.flatMap (fun u=>offsAfter first (j.res.getD u.res.toNat default).off)
def triesV (j:JobP) (b:Bd) (fr:Int) (n:Nat):List Int:=
 [readyV j b fr n]++endsAfter j b (readyV j b fr n) j.tasks.length++usesAfter j (readyV j b fr n) (j.tasks.getD n default).uses
def insI (x:Int):List Int->List Int
 | []=>[x]
 | y::l=>if x<=y then x::y::l else y::insI x l
def sortI:List Int->List Int
 | []=>[]
 | x::l=>insI x (sortI l)
def placeV (j:JobP) (b:Bd) (fr:Int) (n:Nat):Option Int:=(sortI (triesV j b fr n)).find? (fitsV j b n)
def Bd.put (b:Bd) (n:Nat) (s:Int):Bd:=⟨b.st.set n s,b.pl.set n true⟩
def serialGo (j:JobP) (fr:Int) (order:List Int):Nat->Bd->Bool×Bd
 | 0,b=>(true,b)
 | f+1,b=>match order.find? (fun n=>mayB j b.pl n.toNat) with
  | none=>(true,b)
  | some n=>match placeV j b fr n.toNat with
   | none=>(false,b)
   | some s=>serialGo j fr order f (b.put n.toNat s)
def bd0 (j:JobP):Bd:=⟨List.replicate j.tasks.length 0,List.replicate j.tasks.length false⟩
def permB (order:List Int) (n:Nat):Bool:=decide (order.length=n)&&order.all (fun k=>withinB k 0 ((n:Int)-1))&&decide (order.Nodup)
def serErr (j:JobP) (order:List Int):Int:=
 if jobErr j≠0 then jobErr j else if permB order j.tasks.length then(if (serialGo j 0 order order.length (bd0 j)).1 then 0 else 9) else 1
def serV (j:JobP) (order:List Int):List Int:=if serErr j order=0 then(serialGo j 0 order order.length (bd0 j)).2.st else[]
def needsOk (j:JobP) (st:List Int) (i:Nat):Bool:=
 (j.tasks.getD i default).needs.all (fun k=>isTm (st.getD k.toNat 0)&&decide (st.getD k.toNat 0+(j.tasks.getD k.toNat default).takes<=st.getD i 0))
def keepsAt (j:JobP) (st:List Int) (i:Nat):Bool:=isTm (st.getD i 0)&&decide (st.getD i 0+(j.tasks.getD i default).takes<=100000)&&needsOk j st i
def firstB (k n:Nat):List Bool:=(List.range n).map (fun i=>decide (i<k))
def keepsV (j:JobP) (st:List Int):Bool:=
 (List.range j.tasks.length).all (keepsAt j st)&&(List.range j.tasks.length).all (fun i=>fitsV j ⟨st,firstB i j.tasks.length⟩ i (st.getD i 0))
def kpErr (j:JobP) (st:List Int):Int:=if jobErr j≠0 then jobErr j else if st.length=j.tasks.length then 0 else 1
def kpV (j:JobP) (st:List Int):Bool:=decide (kpErr j st=0)&&keepsV j st
def lenTo (j:JobP) (st:List Int):Nat->Int
 | 0=>0
 | i+1=>max (lenTo j st i) (st.getD i 0+(j.tasks.getD i default).takes)
def lenOf (j:JobP) (st:List Int):Int:=lenTo j st j.tasks.length
def lnErr (j:JobP) (st:List Int):Int:=if kpErr j st≠0 then kpErr j st else if keepsV j st then 0 else 8
def lnV (j:JobP) (st:List Int):Int:=if lnErr j st=0 then lenOf j st else 0
end W8
namespace W7
structure K where
 t:Int
 lo:Int
 hi:Int
deriving Inhabited
section
variable (r f:Int)
end
structure V where
 t:Int
 v:Int
section
variable (r f:Int)
variable {r f}
def Sorted (l:List V):Prop:=l.Pairwise fun a b=>a.t<=b.t
end
section
variable {r f:Int}
end
end W7
namespace W7
open Go
theorem flatMap_get {α:Type} {enc:α->List Value} {k:Nat} (hk:∀x,(enc x).length=k):∀(l:List α) (i j:Nat) (hi:i<l.length),j<k->(l.flatMap enc)[i*k+j]? =(enc l[i])[j]?
 | [],i,j,hi,_=>absurd hi (by simp)
 | a::l,0,j,_,hj=>by
  rw[List.flatMap_cons,List.getElem?_append_left (by rw[hk];omega)];simp
 | a::l,i+1,j,hi,hj=>by
  rw[List.flatMap_cons,List.getElem?_append_right (by rw[hk,Nat.add_mul];omega),hk];have:(i+1)*k+j-k=i*k+j:=by rw[Nat.add_mul];omega
  rw[this,flatMap_get hk l i j (by simpa using hi) hj]
  rfl
theorem flatMap_len {α:Type} {enc:α->List Value} {k:Nat} (hk:∀x,(enc x).length=k) (l:List α):(l.flatMap enc).length=l.length*k:=by
 induction l with
 | nil=>simp
 | cons a l ih=>rw[List.flatMap_cons,zF,hk,ih,List.length_cons,Nat.add_mul];omega
section
variable {r f:Int}
end
end W7
namespace W7
open Go Go.RowKit Go.Shelf Go.Sort Go.Proofs
theorem flatK_flatMap {α:Type} [Inhabited α] {enc:α->List Value} {k:Nat} (hk:∀x,(enc x).length=k) (h0:0<k) (l:List α):flatK enc k l.toArray=(l.flatMap enc).toArray:=by
 apply ext_get!
 ·simp[flatMap_len hk]
 ·intro t ht;simp only[size_flatK,List.size_toArray] at ht;rw[get_flatK _ _ _ _ (by simpa using ht)];have hi:t/k<l.length:=Nat.div_lt_of_lt_mul (by rw[Nat.mul_comm];exact ht);have hj:t%k<k:=Nat.mod_lt _ h0;have e:=flatMap_get hk l (t/k) (t%k) hi hj;rw[Nat.mul_comm,Nat.div_add_mod] at e;have hlt:t<(l.flatMap enc).length:=by rw[flatMap_len hk];exact ht
  have h2:t%k<(enc l[t/k]).length:=by rw[hk];exact hj
  rw[zB hlt,zB h2] at e;have e':=zJ e;rw[getElem!_pos l.toArray (t/k) (by simpa using hi),getElem!_pos (l.flatMap enc).toArray t (by simpa using hlt)];simp only[List.getElem_toArray];rw[getElem!_pos (enc l[t/k]) (t%k) h2];exact e'.symm
theorem holdsK_of_own {α:Type} [Inhabited α] {enc:α->List Value} {k:Nat} (hk:∀x,(enc x).length=k) (h0:0<k) {w:World} {base g cap n e:Nat} {l:List α}
  (h:w.ownsRow base e k (.slice (some ⟨g,0,none⟩) n cap) n (l.flatMap enc)):HoldsK enc k w g 0 l.toArray:=by
 intro j hj;rw[flatK_flatMap hk h0] at hj ⊢;have hj':j<(l.flatMap enc).length:=by simpa using hj
 have hn:n*k=(l.flatMap enc).length:=h.1.symm;rw[Nat.zero_add];refine⟨?_,h.frozenAt j⟩;rw[h.cellAt j (by omega),zB hj'];simp[zB hj']
theorem own_of_sorted {α:Type} [Inhabited α] {enc:α->List Value} {k:Nat} (hk:∀x,(enc x).length=k) (h0:0<k) {w:World} {base g cap n e m:Nat} {os:Array Obj} {l l':List α}
  (h:w.ownsRow base e k (.slice (some ⟨g,0,none⟩) n cap) n (l.flatMap enc)) (hl:l'.length=l.length) :
  (sortWorldK enc k w g 0 m l'.toArray os).ownsRow base e k (.slice (some ⟨g,0,none⟩) n cap) n (l'.flatMap enc):=by
 have hn:n*k=l.length*k:=by have:=h.1;rw[flatMap_len hk] at this;omega
 rcases h.2 with⟨e0,_⟩ | ⟨g',cap',cur,e0,hb,hg,hnc,hm,hs,ht⟩
 ·cases e0
 ·injection e0 with e1 _ e3
  injection e1 with e1
  injection e1 with e1
  subst e1;subst e3;have hglt:g<w.heap.size:=(zT.1 hg).1;refine⟨by rw[flatMap_len hk,hl,hn],.inr ⟨g,cap,putCells id 0 (l'.flatMap enc).toArray cur,rfl,hb,?_,hnc,hm,by simpa [putCells] using hs,?_⟩⟩
  ·unfold sortWorldK putRowK;rw[flatK_flatMap hk h0,heap_grow_old _ _ (by simpa using hglt)];simp[putRow,mapBlock,Sort.ahead,Array.getElem?_modify,hg,onCells]
  ·have hcs:n*k<=cur.size:=by rw[hs];exact Nat.mul_le_mul_right _ hnc
   have hll:(l'.flatMap enc).length=n*k:=by rw[flatMap_len hk,hl,hn]
   apply List.ext_getElem?;intro j
   by_cases hj:j<n*k
   ·rw[List.getElem?_take_of_lt hj,Array.getElem?_toList];simp only[putCells,Array.getElem?_mapIdx,Array.getElem?_eq_getElem (show j<cur.size by omega),Option.map_some];have hjl:j<(l'.flatMap enc).length:=by omega
    rw[if_pos ⟨Nat.zero_le _,by rw[List.size_toArray];omega⟩,zB hjl];simp[zB hjl]
   ·rw[List.getElem?_take_eq_none (by omega),List.getElem?_eq_none (by omega)]
theorem grown_of_sorted {α:Type} [Inhabited α] {enc:α->List Value} {k:Nat} {w:World} {g m:Nat} {os:Array Obj} {d:Array α}:w.grownBy (sortWorldK enc k w g 0 m d os) (some g):=by
 refine⟨rfl,rfl,rfl,by simp[sortWorldK,putRowK,putRow,mapBlock,Sort.ahead,grow],fun i hi hne=> ?_⟩;unfold sortWorldK putRowK;rw[heap_grow_old _ _ (by simpa [putRow,mapBlock,Sort.ahead] using hi)];have:g≠i:=fun e=>hne (by rw[e])
 simp[putRow,mapBlock,Sort.ahead,Array.getElem?_modify,this]
end W7
