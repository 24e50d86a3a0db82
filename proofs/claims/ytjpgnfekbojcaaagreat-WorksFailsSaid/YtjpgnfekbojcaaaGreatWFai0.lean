/- Plain laws of Fail: the board while the tasks are gone through;the spans joined stay valid ones. -/
import Derived.Test.YtjpgnfekbojcaaaGreatWFJn
import Derived.Test.YtjpgnfekbojcaaaGreatWJLaw4
namespace W8
open W7
def fbd (j:JobP) (st:List Int) (now r:Int) (i:Nat):Bd:=
 ⟨(List.range j.tasks.length).map (fun k=>if k<i/\keptB j st now r k=true then st.getD k 0 else 0),(List.range j.tasks.length).map (fun k=>decide (k<i)&&keptB j st now r k)⟩
def ford (j:JobP) (st:List Int) (now r:Int) (i:Nat):List Int:=((List.range i).filter (fun k=> !keptB j st now r k)).map (fun(k:Nat)=>(k:Int))
theorem fbd_zero (j:JobP) (st:List Int) (now r:Int):fbd j st now r 0=bd0 j:=by
 unfold fbd bd0
 congr 1
 ·apply List.ext_getElem<;>simp
 ·apply List.ext_getElem<;>simp
theorem fbd_full (j:JobP) (st:List Int) (now r:Int):fbd j st now r j.tasks.length=failBd j st now r:=by
 unfold fbd failBd
 congr 1
 ·refine List.map_congr_left (fun k hk=> ?_);have:=List.mem_range.1 hk
  by_cases h:keptB j st now r k=true<;>simp[h,this]
 ·refine List.map_congr_left (fun k hk=> ?_);have:=List.mem_range.1 hk;simp[this]
theorem fbd_no {j:JobP} {st:List Int} {now r:Int} {i:Nat} (h:keptB j st now r i=false):fbd j st now r (i+1)=fbd j st now r i:=by
 unfold fbd
 congr 1
 ·refine List.map_congr_left (fun k _=> ?_)
  by_cases hk:k=i
  ·subst hk;simp[h]
  ·have:(k<i+1)=(k<i):=propext (by omega);simp only[this]
 ·refine List.map_congr_left (fun k _=> ?_)
  by_cases hk:k=i
  ·subst hk;simp[h]
  ·rw[show decide (k<i+1)=decide (k<i) from decide_eq_decide.2 (by omega)]
theorem fbd_yes {j:JobP} {st:List Int} {now r:Int} {i:Nat} (h:keptB j st now r i=true):fbd j st now r (i+1)=⟨(fbd j st now r i).st.set i (st.getD i 0),(fbd j st now r i).pl.set i true⟩:=by
 unfold fbd;simp only
 congr 1
 ·apply List.ext_getElem
  ·simp
  ·intro k h1 h2;simp only[List.getElem_map,List.getElem_range,List.getElem_set]
   by_cases hk:i=k
   ·subst hk;simp[h]
   ·rw[if_neg hk];have:(k<i+1)=(k<i):=propext (by omega);simp only[this]
 ·apply List.ext_getElem
  ·simp
  ·intro k h1 h2;simp only[List.getElem_map,List.getElem_range,List.getElem_set]
   by_cases hk:i=k
   ·subst hk;simp[h]
   ·rw[if_neg hk,show decide (k<i+1)=decide (k<i) from decide_eq_decide.2 (by omega)]
theorem ford_no {j:JobP} {st:List Int} {now r:Int} {i:Nat} (h:keptB j st now r i=true):ford j st now r (i+1)=ford j st now r i:=by
 unfold ford;rw[List.range_succ,List.filter_append];simp[h]
theorem ford_yes {j:JobP} {st:List Int} {now r:Int} {i:Nat} (h:keptB j st now r i=false):ford j st now r (i+1)=ford j st now r i++[(i:Int)]:=by
 unfold ford;rw[List.range_succ,List.filter_append];simp[h]
theorem ford_len (j:JobP) (st:List Int) (now r:Int) (i:Nat):(ford j st now r i).length<=i:=by
 unfold ford;rw[List.length_map];have:=List.length_filter_le (fun k=> !keptB j st now r k) (List.range i)
 rwa [List.length_range] at this
theorem ford_in {j:JobP} {st:List Int} {now r:Int} {i:Nat}:∀x∈ford j st now r i,0<=x/\x<i:=fun x hx=>by
 unfold ford at hx;obtain⟨k,hk,rfl⟩:=List.mem_map.1 hx;have:=List.mem_range.1 (List.mem_filter.1 hk).1;omega
theorem ford_asc (j:JobP) (st:List Int) (now r:Int) (i:Nat):(ford j st now r i).Pairwise (· < ·):=by
 unfold ford;rw[List.pairwise_map];refine(List.pairwise_lt_range.sublist List.filter_sublist).imp ?_;intro a b h;omega
structure SpOk (l:List JSpan):Prop where
 each:∀s∈l,0<=s.lo/\s.lo<=s.hi/\s.hi<=100000
 pw:l.Pairwise fun a b=>a.hi<b.lo
theorem joinGo_ok:∀(l out:List JSpan),(∀s∈l,0<=s.lo/\s.lo<=s.hi/\s.hi<=100000)->l.Pairwise (fun a b=>spLe a b=true)->SpOk out->(∀o X,out=o++[X]->∀x∈l,X.lo<=x.lo)->SpOk (joinGo out l)
 | [],out,_,_,h,_=>by simpa [joinGo] using h
 | x::l,out,hl,hs,h,hX=>by
  have h1:=List.pairwise_cons.1 hs;have hx:=hl x (zL ..)
  have hxl:∀y∈l,x.lo<=y.lo:=fun y hy=>by
   have:=h1.1 y hy;simp[spLe] at this;omega
  have hl':∀s∈l,0<=s.lo/\s.lo<=s.hi/\s.hi<=100000:=fun s hs=>hl s (zQ _ hs)
  rcases List.eq_nil_or_concat out with rfl | ⟨o,X,rfl⟩
  ·rw[join_nil];refine joinGo_ok l [x] hl' h1.2 ⟨fun s hs=>by rw[zN.1 hs];exact hx,by simp⟩ (fun o X he y hy=> ?_)
   have:o=[]/\X=x:=by
    cases o with
    | nil=>simpa using he.symm
    | cons a r=>simp at he
   rw[this.2];exact hxl y hy
  ·rw[List.concat_eq_append] at h hX ⊢;have hXe:=h.each X (by simp);have hXx:=hX o X rfl x (zL ..);have hp:=List.pairwise_append.1 h.pw
   by_cases hc:x.lo<=X.hi+1
   ·rw[join_old hc];refine joinGo_ok l _ hl' h1.2 ⟨fun s hs=> ?_,?_⟩ (fun o' X' he y hy=> ?_)
    ·rcases List.mem_append.1 hs with hs | hs
     ·exact h.each s (by simp[hs])
     ·rw[zN.1 hs];simp only;omega
    ·refine List.pairwise_append.2 ⟨hp.1,by simp,fun a ha b hb=> ?_⟩;rw[zN.1 hb];exact hp.2.2 a ha X (by simp)
    ·have h2:=(List.append_inj' he rfl).2
     injection h2 with h2 _
     rw[<- h2];have:=hxl y hy;simp only;omega
   ·rw[join_new hc];refine joinGo_ok l _ hl' h1.2 ⟨fun s hs=> ?_,?_⟩ (fun o' X' he y hy=> ?_)
    ·rcases List.mem_append.1 hs with hs | hs
     ·exact h.each s hs
     ·rw[zN.1 hs];exact hx
    ·refine List.pairwise_append.2 ⟨h.pw,by simp,fun a ha b hb=> ?_⟩;rw[zN.1 hb];rcases List.mem_append.1 ha with ha | ha
     ·have:=hp.2.2 a ha X (by simp);omega
     ·rw[zN.1 ha];omega
    ·have h2:=(List.append_inj' he rfl).2
     injection h2 with h2 _
     rw[<- h2];exact hxl y hy
theorem joinedV_ok {l:List JSpan} {s:JSpan} (hl:∀x∈l++[s],0<=x.lo/\x.lo<=x.hi/\x.hi<=100000):SpOk (joinedV l s):=
 joinGo_ok _ _ (fun x hx=>hl x ((sortS_perm _).mem_iff.1 hx)) (sortS_sorted _) ⟨fun x hx=>absurd hx (by simp),List.Pairwise.nil⟩ (fun o X he=>by simp at he)
theorem failJob_good {j:JobP} {q:Nat} {now until':Int} (hG:JGood j) (hq:q<j.res.length) (hn:0<=now/\now<=until'/\until'<=100000) (h16:(failOff j q now until').length<=16):JGood (failJob j q now until'):=by
 have hm:j.res.getD q default∈j.res:=by rw[getD_of hq];exact zC _
 have hO:SpOk (failOff j q now until'):=joinedV_ok (fun x hx=>by
  rcases List.mem_append.1 hx with hx | hx
  ·exact hG.off _ hm x hx
  ·rw[zN.1 hx];simp only;omega)
 have hR:∀r∈(failJob j q now until').res,r∈j.res\/r={ j.res.getD q default with off:=failOff j q now until' }:=fun r hr=>List.mem_or_eq_of_mem_set hr
 have hMany:∀k:Nat,((failJob j q now until').res.getD k default).many=(j.res.getD k default).many:=fun k=>by
  unfold failJob;simp only[zA,List.getElem?_set]
  by_cases hk:q=k
  ·subst hk;simp[hq]
  ·rw[if_neg hk]
 have hlen:(failJob j q now until').res.length=j.res.length:=by unfold failJob;simp
 exact⟨hG.nt,by rw[hlen];exact hG.nr,hG.takes,hG.needs,hG.nneeds,fun t ht u hu=>by
   have h:=hG.uses t ht u hu;rw[hlen,hMany];exact h,hG.nuses,fun r hr=>by
   rcases hR r hr with h | h
   ·exact hG.many r h
   ·rw[h];exact(show 0<=(j.res.getD q default).many/\(j.res.getD q default).many<=1000 from hG.many _ hm),fun r hr=>by
   rcases hR r hr with h | h
   ·exact hG.noff r h
   ·rw[h];exact h16,fun r hr=>by
   rcases hR r hr with h | h
   ·exact hG.off r h
   ·rw[h];exact hO.each,fun r hr=>by
   rcases hR r hr with h | h
   ·exact hG.offs r h
   ·rw[h];exact hO.pw⟩
def InOff (l:List JSpan) (t:Int):Prop:=∃s∈l,s.lo<=t/\t<=s.hi
theorem inOff_app {l l':List JSpan} {t:Int}:InOff (l++l') t↔InOff l t\/InOff l' t:=by
 unfold InOff;simp only[List.mem_append,or_and_right,exists_or]
theorem inOff_cons {x:JSpan} {l:List JSpan} {t:Int}:InOff (x::l) t↔(x.lo<=t/\t<=x.hi)\/InOff l t:=by
 unfold InOff;simp only[List.mem_cons,exists_eq_or_imp]
theorem inOff_nil {t:Int}:InOff [] t↔False:=by
 unfold InOff;simp
theorem joinGo_in {t:Int}:∀(l out:List JSpan),l.Pairwise (fun a b=>spLe a b=true)->(∀o X,out=o++[X]->∀x∈l,X.lo<=x.lo)->(InOff (joinGo out l) t↔InOff out t\/InOff l t)
 | [],out,_,_=>by simp[joinGo,inOff_nil]
 | x::l,out,hs,hX=>by
  have h1:=List.pairwise_cons.1 hs
  have hxl:∀y∈l,x.lo<=y.lo:=fun y hy=>by
   have:=h1.1 y hy;simp[spLe] at this;omega
  rcases List.eq_nil_or_concat out with rfl | ⟨o,X,rfl⟩
  ·rw[join_nil,joinGo_in l [x] h1.2 (fun o X he y hy=>by
    have:o=[]/\X=x:=by
     cases o with
     | nil=>simpa using he.symm
     | cons a r=>simp at he
    rw[this.2];exact hxl y hy)]
   simp only[inOff_cons,inOff_nil,or_false,false_or]
  ·rw[List.concat_eq_append] at hX ⊢;have hXx:=hX o X rfl x (zL ..)
   by_cases hc:x.lo<=X.hi+1
   ·rw[join_old hc,joinGo_in l _ h1.2 (fun o' X' he y hy=>by
     have h2:=(List.append_inj' he rfl).2
     injection h2 with h2 _
     rw[<- h2];have:=hxl y hy;simp only;omega)]
    simp only[inOff_app,inOff_cons,inOff_nil,or_false]
    constructor
    ·rintro((h | ⟨h2,h3⟩) | h)
     ·exact .inl (.inl h)
     ·by_cases h4:t<=X.hi
      ·exact .inl (.inr ⟨h2,h4⟩)
      ·exact .inr (.inl ⟨by omega,by omega⟩)
     ·exact .inr (.inr h)
    ·rintro((h | ⟨h2,h3⟩) | ⟨h2,h3⟩ | h)
     ·exact .inl (.inl h)
     ·exact .inl (.inr ⟨h2,by omega⟩)
     ·exact .inl (.inr ⟨by omega,by omega⟩)
     ·exact .inr h
   ·rw[join_new hc,joinGo_in l _ h1.2 (fun o' X' he y hy=>by
     have h2:=(List.append_inj' he rfl).2
     injection h2 with h2 _
     rw[<- h2];exact hxl y hy)]
    simp only[inOff_app,inOff_cons,inOff_nil,or_false,or_assoc]
theorem joinedV_in {l:List JSpan} {s:JSpan} {t:Int}:InOff (joinedV l s) t↔InOff l t\/(s.lo<=t/\t<=s.hi):=by
 unfold joinedV;rw[joinGo_in _ _ (sortS_sorted _) (fun o X he=>by simp at he)];have hp:=sortS_perm (l++[s])
 have:InOff (sortS (l++[s])) t↔InOff (l++[s]) t:=by
  unfold InOff;simp only[hp.mem_iff]
 rw[this,inOff_app,inOff_cons];simp only[inOff_nil,or_false,false_or]
theorem firstErr_none {f:Nat->Int}:∀ {n:Nat},(∀i,i<n->f i=0)->firstErr f n=0
 | 0,_=>rfl
 | n+1,h=>by rw[firstErr_succ (firstErr_none (fun i hi=>h i (by omega)))];exact h n (by omega)
theorem getD_setR {l:List ResP} {q k:Nat} {x:ResP} (hq:q<l.length):(l.set q x).getD k default=if k=q then x else l.getD k default:=by
 by_cases hk:k=q
 ·subst hk;rw[if_pos rfl,getD_set_eq hq]
 ·rw[if_neg hk,getD_set_ne hk]
structure FailOk (j:JobP) (st:List Int) (now:Int) (q:Nat) (until':Int):Prop where
 je:jobErr j=0
 hq:q<j.res.length
 now0:0<=now
 un:now<=until'
 un1:until'<=100000
 len:st.length=j.tasks.length
 kp:keepsV j st=true
 n16:(failOff j q now until').length<=16
theorem failJob_many {j:JobP} {q:Nat} {now until':Int} (hq:q<j.res.length) (k:Nat):((failJob j q now until').res.getD k default).many=(j.res.getD k default).many/\((failJob j q now until').res.getD k default).name=(j.res.getD k default).name:=by
 unfold failJob;simp only[getD_setR hq]
 split
 ·rename_i h;subst h;exact⟨rfl,rfl⟩
 ·exact⟨rfl,rfl⟩
theorem failJob_off {j:JobP} {q:Nat} {now until':Int} (hq:q<j.res.length) (k:Nat):((failJob j q now until').res.getD k default).off=if k=q then failOff j q now until' else(j.res.getD k default).off:=by
 unfold failJob;simp only[getD_setR hq]
 split<;>rfl
theorem failJob_len {j:JobP} {q:Nat} {now until':Int}:(failJob j q now until').res.length=j.res.length:=by unfold failJob;simp
theorem any_take_name {l l':List ResP} {nm:ByteArray} (hl:l'.length=l.length) (h:∀k,(l'.getD k default).name=(l.getD k default).name):∀i,i<=l.length->(l'.take i).any (fun x=>strEq x.name nm)=(l.take i).any (fun x=>strEq x.name nm)
 | 0,_=>by simp
 | i+1,hi=>by
  have h1:=h i;rw[getD_of (show i<l'.length by omega),getD_of (show i<l.length by omega)] at h1;rw[zK (show i<l'.length by omega),zK (show i<l.length by omega),List.any_append,List.any_append,any_take_name hl h i (by omega)];simp[h1]
theorem failOff_ok {j:JobP} {st:List Int} {now until':Int} {q:Nat} (h:FailOk j st now q until'):SpOk (failOff j q now until'):=by
 have hm:j.res.getD q default∈j.res:=by rw[getD_of h.hq];exact zC _
 have h0:=h.now0;have h1:=h.un;have h2:=h.un1
 exact joinedV_ok (fun x hx=>by
  rcases List.mem_append.1 hx with hx | hx
  ·exact(good_of h.je).off _ hm x hx
  ·rw[zN.1 hx];simp only;omega)
theorem offErr_ok {l:List JSpan} (h:SpOk l) (hl:l.length<=16):offErr l=0:=by
 unfold offErr;rw[if_neg (by omega)];refine firstErr_none fun i hi=> ?_
 have h1:=h.each _ (zC hi);unfold spanErrAt;rw[getD_of hi,if_pos];simp only[zY,Bool.or_eq_true,decide_eq_true_eq];refine⟨⟨⟨isTm_true.2 ⟨by omega,by omega⟩,isTm_true.2 ⟨by omega,by omega⟩⟩,by omega⟩,?_⟩
 by_cases h0:i=0
 ·exact .inl h0
 ·right
  rw[getD_of (show i-1<l.length by omega)];exact List.pairwise_iff_getElem.1 h.pw (i-1) i (by omega) hi (by omega)
theorem ordGo_tasks {j j':JobP} (h:j'.tasks=j.tasks):∀(f:Nat) (pl:List Bool) (out:List Int),ordGo j' f pl out=ordGo j f pl out
 | 0,_,_=>rfl
 | f+1,pl,out=>by
  have h1:firstMay j' pl=firstMay j pl:=by unfold firstMay mayB;rw[h]
  simp only[ordGo,h1]
  split
  ·rfl
  ·exact ordGo_tasks h f _ _
theorem failJob_err {j:JobP} {st:List Int} {now until':Int} {q:Nat} (h:FailOk j st now q until'):jobErr (failJob j q now until')=0:=by
 obtain⟨hr,hn,ht,ho⟩:=err_parts h.je
 have hr2:ressErr (failJob j q now until').res=0:=by
  unfold ressErr at hr ⊢;rw[failJob_len]
  by_cases h16:16<j.res.length
  ·rw[if_pos h16] at hr;cases hr
  rw[if_neg h16] at hr ⊢;have hz:=firstErr_zeros hr;refine firstErr_none fun i hi=> ?_
  have h1:=hz i hi;have h2:=failJob_many (now:=now) (until':=until') h.hq i;unfold resErrAt at h1 ⊢;rw[h2.2,any_take_name failJob_len (fun k=>(failJob_many h.hq k).2) i (by omega)]
  split at h1
  ·rename_i h3
   rw[if_pos h3]
   split at h1
   ·cases h1
   ·rename_i h4
    rw[if_neg h4];unfold resErr1 at h1 ⊢;rw[h2.1]
    split at h1
    ·rename_i h5
     rw[if_pos h5,failJob_off h.hq]
     split
     ·exact offErr_ok (failOff_ok h) h.n16
     ·exact h1
    ·cases h1
  ·cases h1
 have ht2:tsksErr (failJob j q now until')=0:=by
  unfold tsksErr at ht ⊢;have hz:=firstErr_zeros ht;refine firstErr_none fun i hi=> ?_
  have h1:=hz i hi
  have h3:∀l k,useErrAt (failJob j q now until').res l k=useErrAt j.res l k:=fun l k=>by
   unfold useErrAt;rw[failJob_len,(failJob_many h.hq _).1]
  have h2:∀t,tskErr1 (failJob j q now until') t=tskErr1 j t:=fun t=>by
   unfold tskErr1;rw[show useErrAt (failJob j q now until').res t.uses=useErrAt j.res t.uses from funext fun k=>h3 _ k]
   rfl
  unfold tskErrAt at h1 ⊢;rw[h2];exact h1
 have ho2:ordV (failJob j q now until')=ordV j:=ordGo_tasks (j:=j) (j':=failJob j q now until') rfl j.tasks.length _ _;unfold jobErr;rw[if_neg (by rw[hr2];simp),if_neg (show ¬ 64<(failJob j q now until').tasks.length from hn),if_neg (by rw[ht2];simp),ho2,if_neg (show ¬(ordV j).length<(failJob j q now until').tasks.length from ho)]
theorem usedTo_tasks {j j':JobP} (h:j'.tasks=j.tasks) (b:Bd) (r m:Int):∀i,usedTo j' b r m i=usedTo j b r m i
 | 0=>rfl
 | i+1=>by
  have h1:runsB j' b m i=runsB j b m i:=by unfold runsB endV;rw[h]
  simp only[usedTo,usedTo_tasks h b r m i,h1,h]
theorem kept_iff {j:JobP} {st:List Int} {now r:Int} {i:Nat}:keptB j st now r i=true↔st.getD i 0<now/\(usesB r (j.tasks.getD i default)=true->st.getD i 0+(j.tasks.getD i default).takes<=now):=by
 unfold keptB;cases usesB r (j.tasks.getD i default)<;>simp
theorem map_range_getI {f:Nat->Int} {N n:Nat} (h:n<N):((List.range N).map f).getD n 0=f n:=by
 rw[zA,List.getElem?_map,List.getElem?_range h];rfl
theorem failBd_keep {j:JobP} {st:List Int} {now until':Int} {q:Nat} (h:FailOk j st now q until'):KeepB (failJob j q now until') (failBd j st now q):=by
 have hG:=good_of h.je;have hK:=(keepsV_iff hG).1 h.kp;have hpl:∀n,(failBd j st now q).pl.getD n false=(decide (n<j.tasks.length)&&keptB j st now q n):=fun n=>map_range_getD
 have hst:∀n,n<j.tasks.length->keptB j st now q n=true->(failBd j st now q).st.getD n 0=st.getD n 0:=fun n hn hk=>by
  unfold failBd;rw[map_range_getI hn,if_pos hk]
 refine⟨fun n hn hp=> ?_,?_⟩
 ·have hn:n<j.tasks.length:=hn;rw[hpl,zY] at hp;have hk:=hp.2;obtain⟨a1,a2,a3,a4⟩:=hK.at' n hn (full_pl hn);have a2':st.getD n 0+(j.tasks.getD n default).takes<=100000:=a2;have hkp:=kept_iff.1 hk
  show 0<=(failBd j st now q).st.getD n 0/\(failBd j st now q).st.getD n 0+(j.tasks.getD n default).takes<=100000/\((j.tasks.getD n default).takes=0\/OffOk (failJob j q now until') n ((failBd j st now q).st.getD n 0))/\∀p∈(j.tasks.getD n default).needs,(failBd j st now q).pl.getD p.toNat false=true/\(failBd j st now q).st.getD p.toNat 0+(j.tasks.getD p.toNat default).takes<=(failBd j st now q).st.getD n 0
  rw[hst n hn hk];refine⟨a1,a2',?_,fun p hpn=> ?_⟩
  ·rcases a3 with a3 | a3
   ·exact .inl a3
   by_cases hz:(j.tasks.getD n default).takes=0
   ·exact .inl hz
   right
   have htk:=hG.takes _ (tk_mem hn);intro u hu sp hsp hov;have hu:u∈(j.tasks.getD n default).uses:=hu;have htt:(failJob j q now until').tasks=j.tasks:=rfl;rw[htt] at hov;rw[failJob_off h.hq] at hsp
   split at hsp
   ·rename_i hqe
    have hus:usesB q (j.tasks.getD n default)=true:=by
     have:=hG.uses _ (tk_mem hn) u hu;unfold usesB;rw[List.any_eq_true];exact⟨u,hu,by rw[beq_iff_eq];omega⟩
    have hen:=hkp.2 hus
    have hin:InOff (failOff j q now until') (max (st.getD n 0) sp.lo):=⟨sp,hsp,by omega,by
     have:=(failOff_ok h).each sp hsp;omega⟩
    unfold failOff at hin;rw[joinedV_in] at hin;rcases hin with⟨s2,hs2,h3,h4⟩ | h3
    ·exact a3 u hu s2 (by rw[hqe];exact hs2) ⟨by show s2.lo<st.getD n 0+_;omega,by show st.getD n 0<=_;omega⟩
    ·simp only at h3;omega
   ·exact a3 u hu sp hsp hov
  ·have hp0:=hG.needs _ (tk_mem hn) p hpn;have hpn':p.toNat<j.tasks.length:=by omega
   have h5:=(a4 p hpn).2;have h5':st.getD p.toNat 0+(j.tasks.getD p.toNat default).takes<=st.getD n 0:=h5;have htk:=hG.takes _ (tk_mem hpn');have hkq:keptB j st now q p.toNat=true:=kept_iff.2 ⟨by omega,fun _=>by omega⟩;rw[hpl,hst _ hpn' hkq,hkq,zD hpn'];exact⟨rfl,h5'⟩
 ·intro r hr m;rw[failJob_len] at hr;rw[(failJob_many h.hq r).1];have h1:=hK.cap r hr m
  have h2:usedV (failJob j q now until') (failBd j st now q) r m<=usedV j (fullB j st) r m:=by
   show usedTo (failJob j q now until') (failBd j st now q) r m j.tasks.length<=usedTo j (fullB j st) r m j.tasks.length
   rw[usedTo_tasks (j:=j) (j':=failJob j q now until') rfl,usedTo_sum,usedTo_sum];refine sumTo_le hG (zm _) fun k hk hk1 _=> ?_
   obtain⟨c1,c2,c3⟩:=runs_iff.1 hk1;rw[hpl,zY] at c1;unfold endV at c3;rw[hst k hk c1.2] at c2 c3;exact runs_iff.2 ⟨full_pl hk,c2,c3⟩
  omega
theorem count_map_range {P:Nat->Bool}:∀n:Nat,((List.range n).map P).count false=((List.range n).filter (fun i=> !P i)).length
 | 0=>rfl
 | n+1=>by
  rw[List.range_succ,List.map_append,List.count_append,List.filter_append,zF,count_map_range n]
  congr 1
  cases h:P n<;>simp[h]
theorem failOrd_perm (j:JobP) (st:List Int) (now r:Int):(failOrd j st now r).Perm (((List.range j.tasks.length).filter (fun i=> !keptB j st now r i)).map (fun(i:Nat)=>(i:Int))):=by
 unfold failOrd;refine(sortO_ok st ?_).1;rw[List.pairwise_map];refine(List.pairwise_lt_range.sublist List.filter_sublist).imp ?_;intro a b h;omega
structure FailG (j:JobP) (st:List Int) (now:Int) (q:Nat) (until':Int) (s:List Int):Prop where
 je:jobErr (failJob j q now until')=0
 len:s.length=j.tasks.length
 kp:keepsV (failJob j q now until') s=true
 kept:∀i,i<j.tasks.length->keptB j st now q i=true->s.getD i 0=st.getD i 0
 late:∀i,i<j.tasks.length->keptB j st now q i=false->now<=s.getD i 0
theorem fail_goes {j:JobP} {st:List Int} {now until':Int} {q:Nat} (h:FailOk j st now q until') (hr:(failRun j st now q until').1=true):FailG j st now q until' (failRun j st now q until').2.st:=by
 have hE:=failJob_err h;have hG:=good_of hE;obtain⟨bF,hF⟩:=eX ((failRun j st now q until').2)
 have hgo:serialGo (failJob j q now until') now (failOrd j st now q) (failOrd j st now q).length (failBd j st now q)=(true,bF):=by
  rw[<- hF,<-hr];rfl
 rw[hF]
 have hl:BLen (failJob j q now until') (failBd j st now q):=by
  unfold BLen failBd;simp[failJob]
 have hpl:∀n,(failBd j st now q).pl.getD n false=(decide (n<j.tasks.length)&&keptB j st now q n):=fun n=>map_range_getD
 have hp:=failOrd_perm j st now q
 have hmem:∀x,x∈failOrd j st now q↔∃i,i<j.tasks.length/\keptB j st now q i=false/\(i:Int)=x:=fun x=>by
  rw[hp.mem_iff,List.mem_map];simp only[List.mem_filter,List.mem_range,Bool.not_eq_true',and_assoc]
 have hord:∀x∈failOrd j st now q,0<=x/\x<(failJob j q now until').tasks.length:=fun x hx=>by
  obtain⟨i,hi,_,rfl⟩:=(hmem x).1 hx
  show _/\(i:Int)<j.tasks.length
  omega
 obtain⟨i1,i2,i3,i4⟩:=serialGo_spec hG h.now0 hord _ _ _ hl hgo
 have hall:=serialGo_all hE hord _ _ _ hl (by
   rw[hp.length_eq,List.length_map];unfold notPl failBd;rw[count_map_range];exact zm _) (fun n hn hpn=>by
   have hn:n<j.tasks.length:=hn;refine(hmem _).2 ⟨n,hn,?_,rfl⟩;rw[hpl,zD hn] at hpn
   simpa using hpn) hgo
 have hfull:=full_of i3 hall;refine⟨hE,i3.1,(keepsV_iff hG).2 (by rw[<- hfull];exact i1 (failBd_keep h)),fun i hi hk=> ?_,fun i hi hk=> ?_⟩
 ·have h1:=(i2 i (by rw[hpl,zD hi,hk];rfl)).2;rw[h1];unfold failBd;rw[map_range_getI hi,if_pos hk]
 ·obtain⟨b1,_,_,_,_,j5⟩:=i4 i hi (by rw[hpl,hk,Bool.and_false]) (hall i hi);have h1:=((place_spec hG hi).1 _ j5).1;have h2:=(readyGo_iff.1 (Int.le_refl (readyGo (failJob j q now until') b1 ((failJob j q now until').tasks.getD i default).needs now))).1;unfold readyV at h1;omega
end W8
