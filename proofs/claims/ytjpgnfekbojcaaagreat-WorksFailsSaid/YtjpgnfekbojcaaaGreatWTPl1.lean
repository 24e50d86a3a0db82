/- Plain functions of a train's search: room,the way on,where it can be,where it leads. -/
import Derived.Test.YtjpgnfekbojcaaaGreatWJSpec2
import Derived.Test.YtjpgnfekbojcaaaGreatWFail
import Derived.Test.YtjpgnfekbojcaaaGreatWSer
import Derived.Test.YtjpgnfekbojcaaaGreatWFlr
import Derived.Test.YtjpgnfekbojcaaaGreatWAir9
namespace W8
open W7
def roomB (l:Line) (tab:List (List TCall)) (stops:List Int) (k:Nat) (t:Int):Bool:=
 isTm t&&decide ((stAll (stops.getD k 0) t tab:Int)<l.room.getD (stops.getD k 0).toNat 0)
def secK (stops:List Int) (k:Nat):Int:=min (stops.getD k 0) (stops.getD (k+1) 0)
def runK (l:Line) (stops:List Int) (k:Nat):Int:=l.run.getD (secK stops k).toNat 0
def openB (l:Line) (tab:List (List TCall)) (stops:List Int) (k:Nat) (t:Int):Bool:=
 (List.range (runK l stops k).toNat).all (fun x=>seAll (secK stops k) (t+x) tab==0)
def onB (l:Line) (tab:List (List TCall)) (stops:List Int) (k:Nat) (t:Int):Bool:=
 decide (k+1<stops.length)&&(decide (t+runK l stops k<=100000)&&(openB l tab stops k t&&roomB l tab stops (k+1) (t+runK l stops k)))
def canRow (room leave:Nat->Bool):Nat->Bool
 | 0=>room 0&&leave 0
 | m+1=>room (m+1)&&(leave (m+1)||canRow room leave m)
def leaveB (l:Line) (tab:List (List TCall)) (stops:List Int) (best:Int) (next:Nat->Bool) (k:Nat) (t:Int):Bool:=
 onB l tab stops k t&&(decide (t+runK l stops k<=best)&&next (best-(t+runK l stops k)).toNat)
def canK (l:Line) (tab:List (List TCall)) (stops:List Int) (best:Int):Nat->Nat->Bool
 | 0=>fun m=>roomB l tab stops (stops.length-1) (best-m)&&decide (m=0)
 | d+1=>canRow (fun m=>roomB l tab stops (stops.length-1-(d+1)) (best-m)) (fun m=>leaveB l tab stops best (canK l tab stops best d) (stops.length-1-(d+1)) (best-m))
def canB (l:Line) (tab:List (List TCall)) (stops:List Int) (best:Int) (k:Nat) (t:Int):Bool:=
 decide (t<=best)&&canK l tab stops best (stops.length-1-k) (best-t).toNat
def leavesB (l:Line) (tab:List (List TCall)) (stops:List Int) (best:Int) (k:Nat) (t:Int):Bool:=
 onB l tab stops k t&&(decide (t+runK l stops k<=best)&&canB l tab stops best (k+1) (t+runK l stops k))
section
variable {l:Line} {tab:List (List TCall)} {stops:List Int} {best:Int}
theorem canB_last {t:Int} (ht:t<=best):canB l tab stops best (stops.length-1) t=(roomB l tab stops (stops.length-1) t&&decide (t=best)):=by
 unfold canB;rw[zD ht,Nat.sub_self,Bool.true_and]
 show(roomB l tab stops (stops.length-1) (best-((best-t).toNat:Int))&&decide ((best-t).toNat=0))=_
 rw[show best-((best-t).toNat:Int)=t by omega,decide_eq_decide.2 (show(best-t).toNat=0↔t=best by omega)]
theorem leave_eq {k:Nat} {t:Int}:leaveB l tab stops best (canK l tab stops best (stops.length-1-(k+1))) k t=leavesB l tab stops best k t:=by
 unfold leaveB leavesB canB
 by_cases h:t+runK l stops k<=best
 ·simp[h]
 ·simp[h]
theorem canB_eq {k:Nat} {t:Int} (hk:k+1<stops.length) (ht:t<=best) :
  canB l tab stops best k t=(roomB l tab stops k t&&(leavesB l tab stops best k t||(decide (t<best)&&canB l tab stops best k (t+1)))):=by
 obtain⟨d,hd⟩:∃d,stops.length-1-k=d+1:=⟨stops.length-1-k-1,by omega⟩
 have hk2:stops.length-1-(d+1)=k:=by omega
 have hd2:d=stops.length-1-(k+1):=by omega
 have hrow:canK l tab stops best (stops.length-1-k)=canRow (fun m=>roomB l tab stops k (best-m)) (fun m=>leavesB l tab stops best k (best-m)):=by
  rw[hd]
  show canRow _ _=_
  rw[hk2]
  congr 1
  funext m
  rw[hd2];exact leave_eq
 obtain⟨m,hm⟩:∃m:Nat,best-t=m:=⟨(best-t).toNat,by omega⟩
 have ht2:t=best-m:=by omega
 subst ht2
 have e1:canB l tab stops best k (best-m)=canRow (fun m=>roomB l tab stops k (best-m)) (fun m=>leavesB l tab stops best k (best-m)) m:=by
  unfold canB;rw[hrow,zD (by omega),show(best-(best-(m:Int))).toNat=m by omega,Bool.true_and]
 rw[e1];cases m with
 | zero=>
  have: ¬(best-((0:Nat):Int)<best):=by omega
  simp[canRow]
 | succ m=>
  have e2:canB l tab stops best k (best-((m+1:Nat):Int)+1)=canRow (fun m=>roomB l tab stops k (best-m)) (fun m=>leavesB l tab stops best k (best-m)) m:=by
   unfold canB;rw[hrow,zD (by omega),show(best-(best-((m+1:Nat):Int)+1)).toNat=m by omega,Bool.true_and]
  rw[e2];have:best-((m+1:Nat):Int)<best:=by omega
  simp only[canRow,this,decide_true,Bool.true_and]
theorem canB_late {k:Nat} {t:Int} (h:best<t):canB l tab stops best k t=false:=by
 unfold canB;rw[zE (by omega),Bool.false_and]
theorem canB_le {k:Nat} {t:Int} (h:canB l tab stops best k t=true):t<=best:=by
 rcases (show best<t\/t<=best by omega) with h1 | h1
 ·rw[canB_late h1] at h;cases h
 ·exact h1
theorem canB_room {k:Nat} {t:Int} (hk:k<stops.length) (h:canB l tab stops best k t=true):roomB l tab stops k t=true:=by
 have hle:=canB_le h
 by_cases hl:k+1<stops.length
 ·rw[canB_eq hl hle] at h;exact(Bool.and_eq_true_iff.1 h).1
 ·obtain rfl:k=stops.length-1:=by omega
  rw[canB_last hle] at h;exact(Bool.and_eq_true_iff.1 h).1
inductive Can (l:Line) (tab:List (List TCall)) (stops:List Int) (ready:Int):Nat->Int->Prop
 | start {t:Int}:ready<=t->roomB l tab stops 0 t=true->Can l tab stops ready 0 t
 | go {k:Nat} {t:Int}:Can l tab stops ready k t->onB l tab stops k t=true->Can l tab stops ready (k+1) (t+runK l stops k)
 | wait {k:Nat} {t:Int}:Can l tab stops ready k t->0<k->k+1<stops.length->roomB l tab stops k (t+1)=true->Can l tab stops ready k (t+1)
theorem onB_lt {k:Nat} {t:Int} (h:onB l tab stops k t=true):k+1<stops.length:=by
 unfold onB at h;exact zI (Bool.and_eq_true_iff.1 h).1
theorem onB_room {k:Nat} {t:Int} (h:onB l tab stops k t=true):roomB l tab stops (k+1) (t+runK l stops k)=true:=by
 unfold onB at h;simp only[zY] at h;exact h.2.2.2
theorem Can.room {ready:Int} {k:Nat} {t:Int} (h:Can l tab stops ready k t):roomB l tab stops k t=true:=by
 cases h with
 | start _ h=>exact h
 | go _ h=>exact onB_room h
 | wait _ _ _ h=>exact h
theorem Can.back {ready:Int} (hr:∀k,0<=runK l stops k) {k:Nat} {t:Int} (h:Can l tab stops ready k t):canB l tab stops best k t=true->∃t0,ready<=t0/\canB l tab stops best 0 t0=true:=by
 induction h with
 | start h1 _=>exact fun h=>⟨_,h1,h⟩
 | @go k t hc h1 ih=>
  intro h;have hl:=onB_lt h1;have hle:=canB_le h;have h0:=hr k
  have hlv:leavesB l tab stops best k t=true:=by
   unfold leavesB;rw[h1,zD hle,h]
   rfl
  exact ih (by rw[canB_eq hl (by omega),hc.room,hlv];rfl)
 | @wait k t hc h0 hl h1 ih=>
  intro h;have hle:=canB_le h;exact ih (by rw[canB_eq hl (by omega),hc.room,zD (show t<best by omega),h];simp)
theorem Can.ends {ready:Int} (hr:∀k,0<=runK l stops k) (h:Can l tab stops ready (stops.length-1) best):∃t0,ready<=t0/\canB l tab stops best 0 t0=true:=
 h.back hr (by rw[canB_last (Int.le_refl _),h.room];simp)
end
structure RSt where
 seen:List (Nat×Int)
 q:List (Nat×Int)
 best:Int
deriving Inhabited
def visV (l:Line) (tab:List (List TCall)) (stops:List Int) (s:RSt) (k:Nat) (t:Int):RSt:=
 if roomB l tab stops k t&& !s.seen.contains (k,t) then⟨(k,t)::s.seen,s.q++[(k,t)],s.best⟩ else s
def bestV (stops:List Int) (s:RSt) (k:Nat) (t:Int):Int:=if k=stops.length-1/\(s.best<0\/t<s.best) then t else s.best
def goV (l:Line) (tab:List (List TCall)) (stops:List Int) (s:RSt) (k:Nat) (t:Int):RSt:=
 if onB l tab stops k t then visV l tab stops s (k+1) (t+runK l stops k) else s
def waitV (l:Line) (tab:List (List TCall)) (stops:List Int) (s:RSt) (k:Nat) (t:Int):RSt:=
 if (decide (0<k)&&decide (k<stops.length-1))&&(decide (t<100000)&&(decide (s.best<0)||decide (t<s.best))) then visV l tab stops s k (t+1) else s
def stepV (l:Line) (tab:List (List TCall)) (stops:List Int) (s:RSt) (k:Nat) (t:Int):RSt:=
 waitV l tab stops (goV l tab stops ⟨s.seen,s.q,bestV stops s k t⟩ k t) k t
def drainV (l:Line) (tab:List (List TCall)) (stops:List Int):Nat->RSt->RSt
 | 0,s=>s
 | f+1,s=>match s.q with
  | []=>s
  | m::q=>drainV l tab stops f (stepV l tab stops ⟨s.seen,q,s.best⟩ m.1 m.2)
def drainAll (l:Line) (tab:List (List TCall)) (stops:List Int) (s:RSt):RSt:=drainV l tab stops (2*(stops.length*100001-s.seen.length)+s.q.length) s
def reachGo (l:Line) (tab:List (List TCall)) (stops:List Int):Nat->Int->RSt->Int
 | 0,_,s=>s.best
 | f+1,t,s=>
  let s2:=drainAll l tab stops (visV l tab stops s 0 t)
  if 0<=s2.best/\s2.best<=t then s2.best else reachGo l tab stops f (t+1) s2
def reachV (l:Line) (tab:List (List TCall)) (stops:List Int) (ready:Int):Int:=reachGo l tab stops (100001-ready).toNat ready ⟨[],[], -1⟩
structure RInv (l:Line) (tab:List (List TCall)) (stops:List Int) (ready:Int) (s:RSt):Prop where
 can:∀m∈s.seen,Can l tab stops ready m.1 m.2/\m.1<stops.length/\0<=m.2/\m.2<=100000
 nd:s.seen.Nodup
 sub:∀m∈s.q,m∈s.seen
 best:s.best<0\/(s.best<=100000/\Can l tab stops ready (stops.length-1) s.best)
 low: -1<=s.best
theorem nodup_lt:∀(N:Nat) (l:List Nat),l.Nodup->(∀x∈l,x<N)->l.length<=N
 | 0,l,_,h=>by
  cases l with
  | nil=>simp
  | cons a r=>have:=h a (zL ..);omega
 | N+1,l,hd,h=>by
  by_cases hm:N∈l
  ·have h1:=nodup_lt N (l.erase N) (hd.erase N) (fun x hx=>by
    have h2:=(hd.mem_erase_iff).1 hx;have:=h x h2.2;have:=h2.1;omega)
   rw[List.length_erase_of_mem hm] at h1;omega
  ·have h1:=nodup_lt N l hd (fun x hx=>by
    have h2:=h x hx;have:x≠N:=fun e=>hm (e▸hx)
    omega)
   omega
def muR (stops:List Int) (s:RSt):Nat:=2*(stops.length*100001-s.seen.length)+s.q.length
section
variable {l:Line} {tab:List (List TCall)} {stops:List Int} {ready:Int}
theorem RInv.len {s:RSt} (h:RInv l tab stops ready s):s.seen.length<=stops.length*100001:=by
 have h1:=nodup_lt (stops.length*100001) (s.seen.map (fun m=>m.1*100001+m.2.toNat)) (by
  rw[List.Nodup,List.pairwise_map];refine(List.Pairwise.and_mem.1 h.nd).imp ?_;intro a b ⟨ha,hb,hne⟩ he;have h1:=h.can a ha;have h2:=h.can b hb;apply hne;apply Prod.ext
  ·omega
  ·omega) (fun x hx=>by
  obtain⟨m,hm,rfl⟩:=List.mem_map.1 hx;have h1:=h.can m hm;have h2:(m.1+1)*100001<=stops.length*100001:=Nat.mul_le_mul_right _ h1.2.1;omega)
 rwa [List.length_map] at h1
theorem room_tm {k:Nat} {t:Int} (h:roomB l tab stops k t=true):0<=t/\t<=100000:=by
 unfold roomB at h;exact isTm_true.1 (Bool.and_eq_true_iff.1 h).1
theorem RInv.vis {s:RSt} (h:RInv l tab stops ready s) {k:Nat} {t:Int} (hk:k<stops.length) (hc:roomB l tab stops k t=true->Can l tab stops ready k t):RInv l tab stops ready (visV l tab stops s k t):=by
 unfold visV
 split
 ·rename_i hr
  simp only[zY,Bool.not_eq_true',List.contains_eq_mem,decide_eq_false_iff_not] at hr;refine⟨fun m hm=> ?_,List.nodup_cons.2 ⟨hr.2,h.nd⟩,fun m hm=> ?_,h.best,h.low⟩
  ·rcases List.mem_cons.1 hm with rfl | hm
   ·exact⟨hc hr.1,hk,room_tm hr.1⟩
   ·exact h.can m hm
  ·rcases List.mem_append.1 hm with hm | hm
   ·exact zQ _ (h.sub m hm)
   ·rw[zN.1 hm];exact zL ..
 ·exact h
theorem RInv.bst {s:RSt} (h:RInv l tab stops ready s) {k:Nat} {t:Int} (hm:(k,t)∈s.seen):RInv l tab stops ready ⟨s.seen,s.q,bestV stops s k t⟩:=by
 have hc:=h.can _ hm;simp only at hc;refine⟨h.can,h.nd,h.sub,?_,?_⟩
 ·simp only;unfold bestV
  split
  ·rename_i hb
   rw[hb.1] at hc;exact .inr ⟨hc.2.2.2,hc.1⟩
  ·exact h.best
 ·simp only;unfold bestV;have:=h.low
  split<;>omega
theorem vis_seen {s:RSt} {k:Nat} {t:Int} {m:Nat×Int} (h:m∈s.seen):m∈(visV l tab stops s k t).seen:=by
 unfold visV
 split
 ·exact zQ _ h
 ·exact h
theorem go_seen {s:RSt} {k:Nat} {t:Int} {m:Nat×Int} (h:m∈s.seen):m∈(goV l tab stops s k t).seen:=by
 unfold goV
 split
 ·exact vis_seen h
 ·exact h
theorem RInv.go {s:RSt} (h:RInv l tab stops ready s) {k:Nat} {t:Int} (hm:(k,t)∈s.seen):RInv l tab stops ready (goV l tab stops s k t):=by
 unfold goV
 split
 ·rename_i ho
  exact h.vis (onB_lt ho) (fun _=> .go (h.can _ hm).1 ho)
 ·exact h
theorem RInv.wait {s:RSt} (h:RInv l tab stops ready s) {k:Nat} {t:Int} (hm:(k,t)∈s.seen):RInv l tab stops ready (waitV l tab stops s k t):=by
 unfold waitV
 split
 ·rename_i hw
  simp only[zY,decide_eq_true_eq] at hw;exact h.vis (h.can _ hm).2.1 (fun hr=> .wait (h.can _ hm).1 hw.1.1 (by omega) hr)
 ·exact h
theorem RInv.step {s:RSt} (h:RInv l tab stops ready s) {k:Nat} {t:Int} (hm:(k,t)∈s.seen):RInv l tab stops ready (stepV l tab stops s k t):=
 ((h.bst hm).go hm).wait (go_seen hm)
theorem mu_vis {s:RSt} {k:Nat} {t:Int} (h:RInv l tab stops ready (visV l tab stops s k t)):muR stops (visV l tab stops s k t)<=muR stops s:=by
 have hl:=h.len;unfold visV at hl ⊢
 split
 ·rename_i hr
  rw[if_pos hr] at hl;unfold muR;simp only[List.length_cons,zF,List.length_nil] at hl ⊢;omega
 ·exact zm _
theorem mu_go {s:RSt} (h:RInv l tab stops ready s) {k:Nat} {t:Int} (hm:(k,t)∈s.seen):muR stops (goV l tab stops s k t)<=muR stops s:=by
 have h2:=h.go hm;unfold goV at h2 ⊢
 split
 ·rename_i ho
  rw[if_pos ho] at h2;exact mu_vis h2
 ·exact zm _
theorem mu_wait {s:RSt} (h:RInv l tab stops ready s) {k:Nat} {t:Int} (hm:(k,t)∈s.seen):muR stops (waitV l tab stops s k t)<=muR stops s:=by
 have h2:=h.wait hm;unfold waitV at h2 ⊢
 split
 ·rename_i ho
  rw[if_pos ho] at h2;exact mu_vis h2
 ·exact zm _
theorem mu_step {s:RSt} {k:Nat} {t:Int} (h:RInv l tab stops ready s) (hm:(k,t)∈s.seen):muR stops (stepV l tab stops s k t)<=muR stops s:=
 Nat.le_trans (mu_wait ((h.bst hm).go hm) (go_seen hm)) (Nat.le_trans (mu_go (h.bst hm) hm) (zm _))
theorem RInv.take {s:RSt} (h:RInv l tab stops ready s) {m:Nat×Int} {q:List (Nat×Int)} (hq:s.q=m::q):RInv l tab stops ready ⟨s.seen,q,s.best⟩/\(m.1,m.2)∈s.seen:=
 ⟨⟨h.can,h.nd,fun x hx=>h.sub x (by rw[hq];exact zQ _ hx),h.best,h.low⟩,h.sub m (by rw[hq];exact zL ..)⟩
theorem mu_take {s:RSt} {m:Nat×Int} {q:List (Nat×Int)} (hq:s.q=m::q):muR stops ⟨s.seen,q,s.best⟩+1=muR stops s:=by
 unfold muR;rw[hq];simp only[List.length_cons];omega
theorem drain_cons {s:RSt} {m:Nat×Int} {q:List (Nat×Int)} (f:Nat) (hq:s.q=m::q):drainV l tab stops (f+1) s=drainV l tab stops f (stepV l tab stops ⟨s.seen,q,s.best⟩ m.1 m.2):=by simp only[drainV,hq]
theorem drain_nil {s:RSt} (f:Nat) (hq:s.q=[]):drainV l tab stops f s=s:=by
 cases f with
 | zero=>rfl
 | succ f=>simp only[drainV,hq]
theorem RInv.drain:∀(f:Nat) {s:RSt},RInv l tab stops ready s->muR stops s<=f->RInv l tab stops ready (drainV l tab stops f s)/\(drainV l tab stops f s).q=[]
 | 0,s,h,hf=>by
  refine⟨h,?_⟩;unfold muR at hf
  show s.q=[]
  exact List.eq_nil_of_length_eq_zero (by omega)
 | f+1,s,h,hf=>by
  cases hq:s.q with
  | nil=>rw[drain_nil _ hq];exact⟨h,hq⟩
  | cons m q=>
   have ht:=h.take hq;have h1:=ht.1.step ht.2;have h2:=mu_step ht.1 ht.2;have h3:=mu_take (stops:=stops) hq;rw[drain_cons f hq];exact RInv.drain f h1 (by omega)
theorem RInv.drained {s:RSt} (h:RInv l tab stops ready s):RInv l tab stops ready (drainAll l tab stops s)/\(drainAll l tab stops s).q=[]:=h.drain _ (zm _)
theorem RInv.first:RInv l tab stops ready ⟨[],[], -1⟩:=⟨fun m h=>absurd h (by simp),List.nodup_nil,fun m h=>absurd h (by simp),.inl (by decide),by decide⟩
theorem reachGo_can:∀(f:Nat) (t:Int) {s:RSt},ready<=t->0<stops.length->RInv l tab stops ready s->0<=reachGo l tab stops f t s->Can l tab stops ready (stops.length-1) (reachGo l tab stops f t s)/\reachGo l tab stops f t s<=100000
 | 0,t,s,_,_,h,h0=>by
  simp only[reachGo] at h0 ⊢;rcases h.best with h1 | h1
  ·omega
  ·exact⟨h1.2,h1.1⟩
 | f+1,t,s,ht,hs,h,h0=>by
  have h2:=(h.vis (k:=0) (t:=t) hs (fun hr=> .start ht hr)).drained;simp only[reachGo] at h0 ⊢
  split at h0
  ·rename_i hb
   rw[if_pos hb];rcases h2.1.best with h1 | h1
   ·omega
   ·exact⟨h1.2,h1.1⟩
  ·rename_i hb
   rw[if_neg hb];exact reachGo_can f (t+1) (by omega) hs h2.1 h0
theorem reachV_can (hs:0<stops.length) (h:0<=reachV l tab stops ready):Can l tab stops ready (stops.length-1) (reachV l tab stops ready)/\reachV l tab stops ready<=100000:=
 reachGo_can _ _ (Int.le_refl _) hs .first h
end
def firstUp (p:Int->Bool):Nat->Int->Int
 | 0,t=>t
 | f+1,t=>if p t then t else firstUp p f (t+1)
theorem firstUp_hit {p:Int->Bool}:∀(f:Nat) (t:Int),(∃x,t<=x/\x<=t+f/\p x=true)->p (firstUp p f t)=true/\t<=firstUp p f t/\firstUp p f t<=t+f
 | 0,t,⟨x,h1,h2,h3⟩=>by
  obtain rfl:x=t:=by omega
  exact⟨h3,Int.le_refl _,by simp[firstUp]⟩
 | f+1,t,⟨x,h1,h2,h3⟩=>by
  simp only[firstUp]
  split
  ·rename_i h
   exact⟨h,Int.le_refl _,by omega⟩
  ·rename_i h
   have hx:x≠t:=fun e=>h (e▸h3)
   have:=firstUp_hit f (t+1) ⟨x,by omega,by omega,h3⟩;exact⟨this.1,by omega,by omega⟩
def leaveAt (l:Line) (tab:List (List TCall)) (stops:List Int) (best:Int) (k:Nat) (t:Int):Int:=firstUp (leavesB l tab stops best k) (best-t).toNat t
def wayGo (l:Line) (tab:List (List TCall)) (stops:List Int) (best:Int):Nat->Nat->Int->List TCall
 | 0,k,t=>[⟨stops.getD k 0,t,t⟩]
 | d+1,k,t=>⟨stops.getD k 0,t,leaveAt l tab stops best k t⟩::wayGo l tab stops best d (k+1) (leaveAt l tab stops best k t+runK l stops k)
theorem leaveAt_ok {l:Line} {tab:List (List TCall)} {stops:List Int} {best:Int} {k:Nat}:∀(m:Nat) {t:Int},best-t=m->k+1<stops.length->canB l tab stops best k t=true->∃x,t<=x/\x<=best/\leavesB l tab stops best k x=true
 | 0,t,hm,hk,h=>by
  have hle:=canB_le h;rw[canB_eq hk hle] at h;simp only[zY,Bool.or_eq_true,decide_eq_true_eq] at h;rcases h.2 with h1 | h1
  ·exact⟨t,Int.le_refl _,hle,h1⟩
  ·have:=canB_le h1.2;omega
 | m+1,t,hm,hk,h=>by
  have hle:=canB_le h;rw[canB_eq hk hle] at h;simp only[zY,Bool.or_eq_true,decide_eq_true_eq] at h;rcases h.2 with h1 | h1
  ·exact⟨t,Int.le_refl _,hle,h1⟩
  ·obtain⟨x,h2,h3,h4⟩:=leaveAt_ok m (t:=t+1) (by omega) hk h1.2;exact⟨x,by omega,h3,h4⟩
theorem leaveAt_is {l:Line} {tab:List (List TCall)} {stops:List Int} {best:Int} {k:Nat} {t:Int} (hk:k+1<stops.length) (h:canB l tab stops best k t=true) :
  leavesB l tab stops best k (leaveAt l tab stops best k t)=true/\t<=leaveAt l tab stops best k t/\leaveAt l tab stops best k t<=best:=by
 have hle:=canB_le h;obtain⟨x,h1,h2,h3⟩:=leaveAt_ok (best-t).toNat (by omega) hk h;have h4:=firstUp_hit (p:=leavesB l tab stops best k) (best-t).toNat t ⟨x,h1,by omega,h3⟩;unfold leaveAt;exact⟨h4.1,h4.2.1,by omega⟩
def stopsGo (to:Int):Nat->Int->List Int
 | 0,n=>[n]
 | f+1,n=>n::stopsGo to f (if n<to then n+1 else n-1)
def stopsV (frm to:Int):List Int:=stopsGo to (to-frm).natAbs frm
def startV (l:Line) (tab:List (List TCall)) (stops:List Int) (best ready:Int):Int:=firstUp (canB l tab stops best 0) (best-ready).toNat ready
def freeB (l:Line) (tab:List (List TCall)):Bool:=(List.range l.room.length).all (fun i=>(List.range 100002).all fun t=>decide ((stAll i t tab:Int)<=l.room.getD i 0))&&(List.range l.run.length).all (fun k=>(List.range 100002).all fun t=>decide (seAll k t tab<=1))
structure TrainP where
 frm:Int
 to:Int
 ready:Int
def insErr (l:Line) (tab:List (List TCall)) (t:TrainP):Int:=
 if tabErr l tab≠0 then tabErr l tab else if freeB l tab then
  (if withinB t.frm 0 ((l.room.length:Int)-1)&&withinB t.to 0 ((l.room.length:Int)-1) then
   (if isTm t.ready then(if tab.length=32 then 3 else if reachV l tab (stopsV t.frm t.to) t.ready<0 then 9 else 0) else 1) else 7) else 8
def insV (l:Line) (tab:List (List TCall)) (t:TrainP):List TCall:=
 if insErr l tab t≠0 then[] else
  wayGo l tab (stopsV t.frm t.to) (reachV l tab (stopsV t.frm t.to) t.ready) ((stopsV t.frm t.to).length-1) 0 (startV l tab (stopsV t.frm t.to) (reachV l tab (stopsV t.frm t.to) t.ready) t.ready)
theorem firstErr_all {f:Nat->Int}:∀ {n:Nat},firstErr f n=0->∀i,i<n->f i=0
 | 0,_,i,h=>absurd h (by omega)
 | n+1,h0,i,hi=>by
  have hn:firstErr f n=0:=by
   by_cases hz:firstErr f n=0
   ·exact hz
   ·have h1:firstErr f (n+1)=firstErr f n:=by simp[firstErr,hz]
    rw[h1] at h0;exact h0
  rcases Nat.lt_or_ge i n with h | h
  ·exact firstErr_all hn i h
  ·obtain rfl:i=n:=by omega
   have h1:firstErr f (i+1)=f i:=by simp[firstErr,hn]
   rw[<- h1];exact h0
structure WayOk (l:Line) (w:List TCall):Prop where
 ne:0<w.length
 st:∀i,i<w.length->0<=(w.getD i default).st/\(w.getD i default).st<l.room.length
 tm:∀i,i<w.length->0<=(w.getD i default).arr/\(w.getD i default).arr<=(w.getD i default).lv/\(w.getD i default).lv<=100000
 fol:∀i,i<w.length->i≠0->folB l w i=true
theorem wayOk_of {l:Line} {w:List TCall} (h:wayErr2 l w=0):WayOk l w/\lineErr l=0:=by
 unfold wayErr2 at h
 by_cases h1:lineErr l≠0
 ·rw[if_pos h1] at h;exact absurd h h1
 rw[if_neg h1] at h
 by_cases h2:w.length=0
 ·rw[if_pos h2] at h;exact absurd h (by decide)
 rw[if_neg h2] at h;have h3:=firstErr_all h
 have h4:∀i,i<w.length->withinB (w.getD i default).st 0 ((l.room.length:Int)-1)=true/\(isTm (w.getD i default).arr&&isTm (w.getD i default).lv&&decide ((w.getD i default).arr<=(w.getD i default).lv))=true/\(decide (i=0)||folB l w i)=true:=by
  intro i hi;have h5:=h3 i hi;unfold callErrAt at h5
  split at h5
  ·rename_i a
   split at h5
   ·rename_i b
    split at h5
    ·rename_i c
     exact⟨a,b,c⟩
    ·exact absurd h5 (by decide)
   ·exact absurd h5 (by decide)
  ·exact absurd h5 (by decide)
 refine⟨⟨by omega,fun i hi=> ?_,fun i hi=> ?_,fun i hi h0=> ?_⟩,by omega⟩
 ·have:=withinB_true.1 (h4 i hi).1;omega
 ·have h5:=(h4 i hi).2.1;simp only[zY,decide_eq_true_eq] at h5;have h6:=isTm_true.1 h5.1.1;have h7:=isTm_true.1 h5.1.2;omega
 ·have h5:=(h4 i hi).2.2
  simpa [h0] using h5
theorem fol_is {l:Line} {w:List TCall} {i:Nat} (h:folB l w i=true) :
  ((w.getD i default).st-(w.getD (i-1) default).st=1\/(w.getD i default).st-(w.getD (i-1) default).st= -1)/\(i<=1\/(w.getD (i-1) default).st-(w.getD (i-2) default).st=(w.getD i default).st-(w.getD (i-1) default).st) ∧
  (w.getD i default).arr=(w.getD (i-1) default).lv+l.run.getD (min (w.getD (i-1) default).st (w.getD i default).st).toNat 0:=by
 unfold folB at h
 simpa [and_assoc] using h
theorem WayOk.step {l:Line} {w:List TCall} (h:WayOk l w):∀i,i+1<w.length->(w.getD (i+1) default).st-(w.getD i default).st=(w.getD 1 default).st-(w.getD 0 default).st
 | 0,_=>rfl
 | i+1,hi=>by
  have h1:=fol_is (h.fol (i+2) hi (by omega));have h2:=h.step i (by omega);simp only[show i+2-1=i+1 by omega,show i+2-2=i by omega] at h1;rw[<- h2];rcases h1.2.1 with h3 | h3
  ·omega
  ·exact h3.symm
theorem WayOk.at {l:Line} {w:List TCall} (h:WayOk l w):∀i,i<w.length->(w.getD i default).st=(w.getD 0 default).st+i*((w.getD 1 default).st-(w.getD 0 default).st)
 | 0,_=>by simp
 | i+1,hi=>by
  have h1:=h.step i hi;have h2:=h.at i (by omega);rw[Int.natCast_succ,Int.add_mul];omega
theorem WayOk.len {l:Line} {w:List TCall} (h:WayOk l w):w.length<=l.room.length:=by
 by_cases h1:w.length<=1
 ·have:=h.st 0 h.ne;omega
 have h2:=fol_is (h.fol 1 (by omega) (by decide));have h3:=h.at (w.length-1) (by omega);have h4:=h.st 0 h.ne;have h5:=h.st (w.length-1) (by omega);simp only[Nat.sub_self] at h2;rcases h2.1 with h6 | h6
 ·rw[h6] at h3;omega
 ·rw[h6] at h3;omega
theorem WayOk.sec {l:Line} {w:List TCall} (h:WayOk l w) {i:Nat} (hi:i<w.length) (h0:i≠0) :
  0<=min (w.getD (i-1) default).st (w.getD i default).st/\min (w.getD (i-1) default).st (w.getD i default).st+1<l.room.length:=by
 have h2:=fol_is (h.fol i hi h0);have h4:=h.st i hi;have h5:=h.st (i-1) (by omega);omega
theorem line_ok {l:Line} (h:lineErr l=0):l.room.length<=16/\0<l.room.length/\l.run.length+1=l.room.length/\(∀x∈l.room,0<=x/\x<=1000)/\∀x∈l.run,1<=x/\x<=1000:=by
 unfold lineErr at h
 by_cases h1:16<l.room.length
 ·rw[if_pos h1] at h;exact absurd h (by decide)
 rw[if_neg h1] at h
 by_cases h2:l.room.length=0\/l.run.length+1≠l.room.length
 ·rw[if_pos h2] at h;exact absurd h (by decide)
 rw[if_neg h2] at h
 by_cases h3:(l.room.all okRoom&&l.run.all okRun)=true
 ·rw[zY,List.all_eq_true,List.all_eq_true] at h3;exact⟨by omega,by omega,by omega,fun x hx=>withinB_true.1 (h3.1 x hx),fun x hx=>withinB_true.1 (h3.2 x hx)⟩
 ·rw[if_neg h3] at h;exact absurd h (by decide)
theorem run_at {l:Line} (h:lineErr l=0) {i:Nat} (hi:i<l.run.length):1<=l.run.getD i 0/\l.run.getD i 0<=1000:=by
 rw[zA,zB hi,Option.getD_some];exact(line_ok h).2.2.2.2 _ (zC hi)
structure TabOk (l:Line) (tab:List (List TCall)):Prop where
 line:lineErr l=0
 many:tab.length<=32
 way:∀w∈tab,WayOk l w
theorem tabOk_of {l:Line} {tab:List (List TCall)} (h:tabErr l tab=0):TabOk l tab:=by
 unfold tabErr at h
 by_cases h1:lineErr l≠0
 ·rw[if_pos h1] at h;exact absurd h h1
 rw[if_neg h1] at h
 by_cases h2:32<tab.length
 ·rw[if_pos h2] at h;exact absurd h (by decide)
 rw[if_neg h2] at h;refine⟨by omega,by omega,fun w hw=> ?_⟩;obtain⟨i,hi,rfl⟩:=List.mem_iff_getElem.1 hw;have h3:=firstErr_all h i hi;unfold tabErrAt at h3;rw[zA,zB hi,Option.getD_some] at h3;exact(wayOk_of h3).1
theorem stIn_le (s t:Int) (c:TCall):stIn s t c<=1:=by unfold stIn;split<;>omega
theorem seIn_le (k t:Int) (a b:TCall):seIn k t a b<=1:=by unfold seIn;split<;>omega
theorem stWay_le (s t:Int):∀l:List TCall,stWay s t l<=l.length
 | []=>zm _
 | c::l=>by
  have h1:=stWay_le s t l;have h2:=stIn_le s t c;simp only[stWay,List.length_cons];omega
theorem seWay_le (k t:Int):∀l:List TCall,seWay k t l<=l.length
 | []=>zm _
 | [a]=>by simp[seWay]
 | a::b::l=>by
  have h1:=seWay_le k t (b::l);have h2:=seIn_le k t a b;simp only[seWay,List.length_cons] at h1 ⊢;omega
theorem stAll_le (s t:Int) (n:Nat):∀l:List (List TCall),(∀w∈l,w.length<=n)->stAll s t l<=l.length*n
 | [],_=>Nat.zero_le _
 | w::l,h=>by
  have h1:=stAll_le s t n l (fun x hx=>h x (zQ _ hx));have h2:=stWay_le s t w;have h3:=h w (zL ..);simp only[stAll,List.length_cons,Nat.succ_mul];omega
theorem seAll_le (s t:Int) (n:Nat):∀l:List (List TCall),(∀w∈l,w.length<=n)->seAll s t l<=l.length*n
 | [],_=>Nat.zero_le _
 | w::l,h=>by
  have h1:=seAll_le s t n l (fun x hx=>h x (zQ _ hx));have h2:=seWay_le s t w;have h3:=h w (zL ..);simp only[seAll,List.length_cons,Nat.succ_mul];omega
theorem stWay_snoc (s t:Int):∀(l:List TCall) (c:TCall),stWay s t (l++[c])=stWay s t l+stIn s t c
 | [],c=>by simp[stWay]
 | a::l,c=>by
  have h:=stWay_snoc s t l c;simp only[List.cons_append,stWay,h];omega
theorem seWay_snoc (s t:Int):∀(l:List TCall) (c:TCall),seWay s t (l++[c])=seWay s t l+(if l.length=0 then 0 else seIn s t (l.getD (l.length-1) default) c)
 | [],c=>by simp[seWay]
 | [a],c=>by simp[seWay]
 | a::b::l,c=>by
  have h:=seWay_snoc s t (b::l) c;simp only[List.cons_append,seWay,List.length_cons] at h ⊢;rw[h];simp;omega
theorem stAll_snoc (s t:Int):∀(l:List (List TCall)) (c:List TCall),stAll s t (l++[c])=stAll s t l+stWay s t c
 | [],c=>by simp[stAll]
 | a::l,c=>by
  have h:=stAll_snoc s t l c;simp only[List.cons_append,stAll,h];omega
theorem seAll_snoc (s t:Int):∀(l:List (List TCall)) (c:List TCall),seAll s t (l++[c])=seAll s t l+seWay s t c
 | [],c=>by simp[seAll]
 | a::l,c=>by
  have h:=seAll_snoc s t l c;simp only[List.cons_append,seAll,h];omega
section
variable {l:Line} {tab:List (List TCall)} {stops:List Int} {ready:Int}
theorem drain_fuel:∀(f g:Nat) {s:RSt},RInv l tab stops ready s->muR stops s<=f->muR stops s<=g->drainV l tab stops f s=drainV l tab stops g s
 | 0,g,s,h,hf,_=>by
  have hq:s.q=[]:=List.eq_nil_of_length_eq_zero (by unfold muR at hf;omega);rw[drain_nil 0 hq,drain_nil g hq]
 | f+1,0,s,h,_,hg=>by
  have hq:s.q=[]:=List.eq_nil_of_length_eq_zero (by unfold muR at hg;omega);rw[drain_nil _ hq,drain_nil 0 hq]
 | f+1,g+1,s,h,hf,hg=>by
  cases hq:s.q with
  | nil=>rw[drain_nil _ hq,drain_nil _ hq]
  | cons m q=>
   have ht:=h.take hq;have h2:=mu_step ht.1 ht.2;have h3:=mu_take (stops:=stops) hq;rw[drain_cons f hq,drain_cons g hq];exact drain_fuel f g (ht.1.step ht.2) (by omega) (by omega)
theorem drain_step {s:RSt} {k:Nat} {t:Int} {q:List (Nat×Int)} (h:RInv l tab stops ready s) (hq:s.q=(k,t)::q):drainV l tab stops (muR stops s) s=drainV l tab stops (muR stops (stepV l tab stops ⟨s.seen,q,s.best⟩ k t)) (stepV l tab stops ⟨s.seen,q,s.best⟩ k t):=by
 have ht:=h.take hq;have h2:=mu_step ht.1 ht.2;have h3:=mu_take (stops:=stops) hq;have hl:=drain_cons (l:=l) (tab:=tab) (stops:=stops) (muR stops ⟨s.seen,q,s.best⟩) hq;rw[h3] at hl;rw[hl];exact drain_fuel _ _ (ht.1.step ht.2) h2 (zm _)
theorem vis_best {s:RSt} {k:Nat} {t:Int}:(visV l tab stops s k t).best=s.best:=by unfold visV;split<;>rfl
theorem reach_end {t:Int} {s:RSt} (h:100001<=t):reachGo l tab stops (100001-t).toNat t s=s.best:=by
 rw[show(100001-t).toNat=0 by omega];rfl
theorem reach_round {t:Int} {s:RSt} (h:t<=100000):reachGo l tab stops (100001-t).toNat t s =
  if 0<=(drainAll l tab stops (visV l tab stops s 0 t)).best/\(drainAll l tab stops (visV l tab stops s 0 t)).best<=t then(drainAll l tab stops (visV l tab stops s 0 t)).best else reachGo l tab stops (100001-(t+1)).toNat (t+1) (drainAll l tab stops (visV l tab stops s 0 t)):=by
 obtain⟨f,hf⟩:∃f,(100001-t).toNat=f+1:=⟨(100001-t).toNat-1,by omega⟩
 rw[hf,show(100001-(t+1)).toNat=f by omega]
 rfl
end
theorem stopsGo_len (to:Int):∀(f:Nat) (n:Int),(stopsGo to f n).length=f+1
 | 0,_=>rfl
 | f+1,n=>by simp only[stopsGo,List.length_cons,stopsGo_len to f]
theorem stopsGo_at (to:Int):∀(f:Nat) (n:Int),(to-n).natAbs=f->∀k,k<=f->(stopsGo to f n).getD k 0=if n<=to then n+k else n-k
 | 0,n,h,k,hk=>by
  obtain rfl:k=0:=by omega
  simp[stopsGo]
 | f+1,n,h,0,hk=>by simp[stopsGo]
 | f+1,n,h,k+1,hk=>by
  have hx:(to-(if n<to then n+1 else n-1)).natAbs=f:=by split<;>omega
  have ih:=stopsGo_at to f (if n<to then n+1 else n-1) hx k (by omega)
  show(stopsGo to f (if n<to then n+1 else n-1)).getD k 0=_
  rw[ih]
  by_cases h1:n<to
  ·rw[if_pos h1,if_pos (by omega),if_pos (by omega)];omega
  ·rw[if_neg h1]
   by_cases h2:n-1<=to
   ·have h3:k=0:=by omega
    subst h3;rw[if_pos h2,if_neg (by omega)];omega
   ·rw[if_neg h2,if_neg (by omega)];omega
theorem stopsV_len (frm to:Int):(stopsV frm to).length=(to-frm).natAbs+1:=stopsGo_len _ _ _
theorem stopsV_at {frm to:Int} {k:Nat} (hk:k<(stopsV frm to).length):(stopsV frm to).getD k 0=if frm<=to then frm+k else frm-k:=stopsGo_at _ _ _ rfl k (by rw[stopsV_len] at hk;omega)
theorem stopsV_ok {l:Line} {frm to:Int} (hl:l.room.length<=16) (h1:0<=frm/\frm<l.room.length) (h2:0<=to/\to<l.room.length):0<(stopsV frm to).length/\(stopsV frm to).length<=16/\(∀k,k<(stopsV frm to).length->0<=(stopsV frm to).getD k 0/\(stopsV frm to).getD k 0<l.room.length) ∧
  ∀k,k+1<(stopsV frm to).length->(stopsV frm to).getD (k+1) 0-(stopsV frm to).getD k 0=1\/(stopsV frm to).getD (k+1) 0-(stopsV frm to).getD k 0= -1:=by
 have hlen:=stopsV_len frm to;refine⟨by omega,by omega,fun k hk=> ?_,fun k hk=> ?_⟩
 ·rw[stopsV_at hk]
  split<;>omega
 ·rw[stopsV_at hk,stopsV_at (show k<_ by omega)]
  split<;>omega
section
variable {l:Line} {tab:List (List TCall)} {stops:List Int} {ready best:Int}
theorem start_ok (hr:∀k,0<=runK l stops k) (hs:0<stops.length) (hb:reachV l tab stops ready=best) (h0:0<=best):canB l tab stops best 0 (startV l tab stops best ready)=true/\ready<=startV l tab stops best ready/\best<=100000:=by
 have h1:=reachV_can (ready:=ready) (l:=l) (tab:=tab) hs (by omega);rw[hb] at h1;obtain⟨t0,h2,h3⟩:=h1.1.ends hr;have h4:=canB_le h3;have h5:=firstUp_hit (p:=canB l tab stops best 0) (best-ready).toNat ready ⟨t0,h2,by omega,h3⟩;exact⟨h5.1,h5.2.1,h1.2⟩
theorem firstUp_no {p:Int->Bool} {f:Nat} {t:Int} (h:p t=false) (hf:f≠0):firstUp p f t=firstUp p (f-1) (t+1):=by
 cases f with
 | zero=>exact absurd rfl hf
 | succ f=>simp only[firstUp,h];rfl
theorem firstUp_yes {p:Int->Bool} {f:Nat} {t:Int} (h:p t=true):firstUp p f t=t:=by
 cases f with
 | zero=>rfl
 | succ f=>simp only[firstUp,h];rfl
theorem run_nonneg (hl:lineErr l=0):∀k,0<=runK l stops k:=fun k=>by
 unfold runK
 by_cases h:(secK stops k).toNat<l.run.length
 ·have:=run_at hl h;omega
 ·rw[zA,List.getElem?_eq_none (by omega)];simp
theorem leaves_is {k:Nat} {t:Int} (h:leavesB l tab stops best k t=true):onB l tab stops k t=true/\t+runK l stops k<=best/\canB l tab stops best (k+1) (t+runK l stops k)=true:=by
 unfold leavesB at h
 simpa using h
end
end W8
namespace Go.Proofs.YtjpgnfekbojcaaaGreat
open Go.RowKit W7 W8
def rigU:List JUse:=[⟨0,1⟩]
def rigP:JobP:=⟨[⟨⟨#[100,114,105,108,108]⟩,4,[],rigU⟩,⟨⟨#[98,108,97,115,116]⟩,1,[0],[]⟩,⟨⟨#[109,117,99,107]⟩,3,[1],rigU⟩],[⟨⟨#[114,105,103]⟩,1,[⟨5,6⟩]⟩]⟩
theorem dig_ser:serErr rigP [2,0,1]=0/\serV rigP [2,0,1]=[0,4,7]:=⟨by kernel_rfl,by kernel_rfl⟩
theorem dig_len:lnErr rigP [0,4,7]=0/\lnV rigP [0,4,7]=10:=⟨by kernel_rfl,by kernel_rfl⟩
theorem dig_job:jobErr rigP=0:=by kernel_rfl
theorem dig_floor:floorV rigP=⟨9,[],0⟩:=by kernel_rfl
theorem dig_fail:failErr rigP [0,4,7] 2 0 3=0:=by kernel_rfl
theorem dig_failOff:failJob rigP 0 2 3=⟨rigP.tasks,[⟨⟨#[114,105,103]⟩,1,[⟨2,3⟩,⟨5,6⟩]⟩]⟩:=by kernel_rfl
theorem dig_failSt:failSt rigP [0,4,7] 2 0 3=[7,11,12]:=by kernel_rfl
theorem dig_tab (RA:Option Addr) (rc:Nat) (MA:Option Addr) (mc:Nat):tabErr ⟨RA,rc,[3],MA,mc,[1,1]⟩ [[⟨0,0,0⟩,⟨1,3,5⟩]]=0:=by kernel_rfl
theorem dig_reach (RA:Option Addr) (rc:Nat) (MA:Option Addr) (mc:Nat):reachV ⟨RA,rc,[3],MA,mc,[1,1]⟩ [[⟨0,0,0⟩,⟨1,3,5⟩]] (stopsV 1 0) 0=9:=by kernel_rfl
theorem dig_next (A:Option Addr) (c:Nat):nextR ⟨A,c,[⟨100,60,10⟩],30,100⟩ [⟨⟨#[97,110,110]⟩,100,0,50,60⟩] ⟨#[97,110,110]⟩ 100 60 0=(0,⟨⟨#[97,110,110]⟩,100,1390,1450,1460⟩):=by kernel_rfl
abbrev lineX (RA:Option Addr) (rc:Nat) (MA:Option Addr) (mc:Nat):Line:=⟨RA,rc,[3],MA,mc,[1,1]⟩
abbrev tabX:List (List TCall):=[[⟨0,0,0⟩,⟨1,3,5⟩]]
theorem dig_free (RA:Option Addr) (rc:Nat) (MA:Option Addr) (mc:Nat):freeB (lineX RA rc MA mc) tabX=true:=by
 have h1:∀(i:Nat) (t:Nat),i<2->((stAll (i:Int) (t:Int) tabX:Nat):Int)<=1:=fun i t hi=>by
  show(((stIn _ _ ⟨0,0,0⟩+(stIn _ _ ⟨1,3,5⟩+0))+0:Nat):Int)<=1
  unfold stIn
  split<;>split<;>simp_all<;>omega
 have h2:∀(t:Nat),seAll ((0:Nat):Int) (t:Int) tabX<=1:=fun t=>by
  show seIn _ _ ⟨0,0,0⟩ ⟨1,3,5⟩+0+0<=1
  unfold seIn
  split<;>omega
 unfold freeB;rw[zY,List.all_eq_true,List.all_eq_true];refine⟨fun i hi=>List.all_eq_true.2 fun t _=>zD ?_,fun k hk=>List.all_eq_true.2 fun t _=>zD ?_⟩
 ·have hi2:i<2:=List.mem_range.1 hi;have h3:=h1 i t hi2
  have h4:((lineX RA rc MA mc).room.getD i 0)=1:=by
   rcases i with _ | _ | i
   ·rfl
   ·rfl
   ·omega
  rw[h4];exact h3
 ·obtain rfl:k=0:=by have:k<1:=List.mem_range.1 hk;omega
  exact h2 t
theorem dig_ins (RA:Option Addr) (rc:Nat) (MA:Option Addr) (mc:Nat):insErr (lineX RA rc MA mc) tabX ⟨1,0,0⟩=0:=by
 unfold insErr;rw[if_neg (by rw[dig_tab];decide),dig_free,if_pos rfl,dig_reach]
 rfl
theorem dig_insV (RA:Option Addr) (rc:Nat) (MA:Option Addr) (mc:Nat):insV (lineX RA rc MA mc) tabX ⟨1,0,0⟩=[⟨1,6,6⟩,⟨0,9,9⟩]:=by
 unfold insV;rw[if_neg (by rw[dig_ins];decide),dig_reach]
 kernel_rfl
end Go.Proofs.YtjpgnfekbojcaaaGreat
