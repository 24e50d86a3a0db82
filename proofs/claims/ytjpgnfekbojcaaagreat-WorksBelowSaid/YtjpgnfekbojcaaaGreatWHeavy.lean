/- Is a job too great to be asked: the law's heavy returns;what its no says. -/
import Derived.Test.YtjpgnfekbojcaaaGreatWWrk
set_option maxHeartbeats 8000000
set_option maxRecDepth 100000
namespace Go.Proofs.YtjpgnfekbojcaaaGreat
open Go.RowKit W7 W8
attribute [local go_sem] Oper.semAt_some
structure HeavyR (n m:Nat) (T:Int) (w:World) (e:Ending) (w':World):Prop where
 ex:∃b,e= .returned (.bool b)/\(b=false->n<=80/\m<=20/\((n:Int)<=T\/64<n))
 bel:Bl w w'
theorem heavy_any (j:Job) (T:Int) (B:Nat) (w:World) (hj:JIn w B j) (hB:B<=w.heap.size) :
  Calls Tryz.prog 15 #[jobV j,.int .i64 T] w (HeavyR j.tasks.length j.res.length T w):=by
 obtain⟨n,hn⟩:∃n,j.tasks.length=n:=⟨_,rfl⟩
 obtain⟨m,hm⟩:∃m,j.res.length=m:=⟨_,rfl⟩
 obtain⟨TA,hTA⟩:∃x,j.TA=x:=⟨_,rfl⟩
 obtain⟨RA,hRA⟩:∃x,j.RA=x:=⟨_,rfl⟩
 have hjv:jobV j= .agg #[.slice TA n j.tc,.slice RA m j.rc]:=by unfold jobV;rw[hn,hm,hTA,hRA]
 rw[hjv,hn,hm];obtain⟨W0,HW0,hs0,HB0,HX00,HU0⟩:=boxes1 w (.cells #[.slice TA n j.tc,.slice RA m j.rc] 25);have HJ:=hI (show ∀X:World,Bl W0 X->JIn X B j from fun X hX=>hj.below ((HU0.o X hX).mono hB));have htl:=hj.tl;have htc:=hj.tc;have hrl:=hj.rl;have hrc:=hj.rc;rw[hn] at htl;rw[hm] at hrl;have Hn:=hI hn;have Hm:=hI hm;have HTA:=hI hTA;have HRA:=hI hRA;clear hj hn hm hTA hRA hjv;have q0:=W7.bc (j:=0) (HX00.o W0 (Below.refl _ _)) rfl;have q1:=W7.bc (j:=1) (HX00.o W0 (Below.refl _ _)) rfl;go_enter Tryz.func15,Tryz.ntmps15;go_upto_region 1 with fail;rw[<- HW0.o]
 go_cut [42] (fun v42 wx=>∃hb:Bool,v42= .bool hb/\Hid (hb=false->n<=80/\m<=20/\((n:Int)<=T\/64<n))/\wx=W0)
 case first=>
  cases a2:decide ((n:Int)>T)
  ·have hT:(n:Int)<=T\/64<n:= .inl (by have:=of_decide_eq_false a2;omega);cases a1:decide ((n:Int)>80);rotate_left
   ·go_wp2;go_meet;exact⟨true,rfl,hI (fun h=>(by cases h)),rfl⟩
   have b1:n<=80:=by have:=of_decide_eq_false a1;omega
   cases a5:decide ((m:Int)>4)
   ·have a4:decide ((m:Int)>20)=false:=decide_eq_false (by have:=of_decide_eq_false a5;omega);have b2:m<=20:=by have:=of_decide_eq_false a4;omega
    go_wp2;go_meet;exact⟨false,rfl,hI (fun _=>⟨b1,b2,hT⟩),rfl⟩
   cases a6:decide ((m:Int)<=16);rotate_left
   ·go_wp2;go_meet;exact⟨true,rfl,hI (fun h=>(by cases h)),rfl⟩
   cases a4:decide ((m:Int)>20);rotate_left
   ·go_wp2;go_meet;exact⟨true,rfl,hI (fun h=>(by cases h)),rfl⟩
   have b2:m<=20:=by have:=of_decide_eq_false a4;omega
   go_wp2;go_meet;exact⟨false,rfl,hI (fun _=>⟨b1,b2,hT⟩),rfl⟩
  cases a3:decide ((n:Int)<=64)
  ·have hT:(n:Int)<=T\/64<n:= .inr (by have:=of_decide_eq_false a3;omega);cases a1:decide ((n:Int)>80);rotate_left
   ·go_wp2;go_meet;exact⟨true,rfl,hI (fun h=>(by cases h)),rfl⟩
   have b1:n<=80:=by have:=of_decide_eq_false a1;omega
   cases a5:decide ((m:Int)>4)
   ·have a4:decide ((m:Int)>20)=false:=decide_eq_false (by have:=of_decide_eq_false a5;omega);have b2:m<=20:=by have:=of_decide_eq_false a4;omega
    go_wp2;go_meet;exact⟨false,rfl,hI (fun _=>⟨b1,b2,hT⟩),rfl⟩
   cases a6:decide ((m:Int)<=16);rotate_left
   ·go_wp2;go_meet;exact⟨true,rfl,hI (fun h=>(by cases h)),rfl⟩
   cases a4:decide ((m:Int)>20);rotate_left
   ·go_wp2;go_meet;exact⟨true,rfl,hI (fun h=>(by cases h)),rfl⟩
   have b2:m<=20:=by have:=of_decide_eq_false a4;omega
   go_wp2;go_meet;exact⟨false,rfl,hI (fun _=>⟨b1,b2,hT⟩),rfl⟩
  go_wp2;go_meet;exact⟨true,rfl,hI (fun h=>(by cases h)),rfl⟩
 case rest=>
  obtain⟨hb,rfl,Hbb,hwc⟩:=hcut;have hwc':=hwc.symm;subst hwc';clear q0 q1;cases hb;rotate_left
  ·have HY:=hI HB0.o;go_wp2;go_ret;exact⟨⟨true,rfl,fun h=>(by cases h)⟩,HY.o⟩
  have Hyes:=hI (Hbb.o rfl);clear Hbb;go_wp2;go_loopw [5,6] (fun v5 v6 wr=>∃(i:Nat) (x:Int),i<=m/\v6= .int .i64 i/\v5= .int .i64 x/\Hid (Bl W0 wr)) (fun _ v6 _=>m-(intOf v6).toNat);case atStart=>exact⟨0,0,by omega,rfl,rfl,hI (Below.refl _ _)⟩
  case round=>
   obtain⟨i,x,hi,rfl,rfl,Hb⟩:=hrel;have hsr:=Hb.o.size;have hq:=HX00.o wr Hb.o
   by_cases hlt:i<m
   ·have hil:i<j.res.length:=by have:=Hm.o;omega
    have hjn:=HJ.o wr Hb.o;obtain⟨rb,ro,hre,hrB⟩:=hjn.ra (by omega);have hRe:RA=some ⟨rb,ro,none⟩:=by rw[<- HRA.o];exact hre
    subst hRe;obtain⟨r0,r1,r2⟩:=hjn.rcells hre hil;have hnm:=(hjn.rss _ (j.R_mem hil)).nm;have hol:=(hjn.rss _ (j.R_mem hil)).ol;have hoc:=(hjn.rss _ (j.R_mem hil)).oc;generalize j.R i=rs at r0 r1 r2 hnm hol hoc;have y1:=later_cell (bc (j:=1) hq rfl) (by omega);have z0:=later_cell r0 (by omega);have z2:=later_cell r2 (by omega);have q0:=W7.bc (j:=0) hq rfl;have q1:=W7.bc (j:=1) hq rfl;clear r0 r1 r2 hjn hre hil;go_upto_region 7 with fail;clear q0 q1 hq;refine wp_region_later (by kernel_rfl) (by kernel_rfl) ?_
    repeat (any_goals (first | go_big_quiet_step ((fail)) | quiet_step ((fail))))
    refine wpQuiet_nil ?_;rintro w' ⟨e5,rfl⟩;have Hb5:=hI (Hb.o.trans (e5.b.mono hsr));clear y1 z0 z2;go_wp2;go_roundw;case rel=>exact⟨i+1,_,by omega,by go_num,rfl,Hb5⟩
    case measure=>simp[intOf];omega
   ·have Hb0:=hI Hb.o;have q0:=W7.bc (j:=0) hq rfl;have q1:=W7.bc (j:=1) hq rfl;go_wp2;clear q0 q1 hq Hb;go_loopw [5,7] (fun v5 v7 wr=>∃(i:Nat) (x:Int),i<=n/\v7= .int .i64 i/\v5= .int .i64 x/\Hid (Bl W0 wr)) (fun _ v7 _=>n-(intOf v7).toNat);case atStart=>exact⟨0,x,by omega,rfl,rfl,Hb0⟩
    case round=>
     obtain⟨i2,x2,hi2,rfl,rfl,Hb⟩:=hrel;clear Hb0;have hsr:=Hb.o.size;have hq:=HX00.o wr Hb.o;have HUx:=hI (HU0.o wr Hb.o)
     by_cases hlt2:i2<n
     rotate_left
     ·skip;have q0:=W7.bc (j:=0) hq rfl;have q1:=W7.bc (j:=1) hq rfl;clear hq;go_wp2;go_ret;exact⟨⟨_,rfl,fun _=>Hyes.o⟩,HUx.o⟩
     cases hx:decide (x2<1000)
     ·skip;have q0:=W7.bc (j:=0) hq rfl;have q1:=W7.bc (j:=1) hq rfl;clear hq;go_wp2;go_ret;exact⟨⟨_,rfl,fun _=>Hyes.o⟩,HUx.o⟩
     have hil:i2<j.tasks.length:=by have:=Hn.o;omega
     have hjn:=HJ.o wr Hb.o;obtain⟨tb,off,hTb,htb⟩:=hjn.ta (by omega);have hTe:TA=some ⟨tb,off,none⟩:=by rw[<- HTA.o];exact hTb
     subst hTe;obtain⟨c0,c1,c2,c3⟩:=hjn.tcells hTb hil;have hnm:=(hjn.tks _ (j.T_mem hil)).nm;have hnl:=(hjn.tks _ (j.T_mem hil)).nl;have hnc:=(hjn.tks _ (j.T_mem hil)).nc;have hul:=(hjn.tks _ (j.T_mem hil)).ul;have huc:=(hjn.tks _ (j.T_mem hil)).uc;generalize j.T i2=t at c0 c1 c2 c3 hnm hnl hnc hul huc;have y0:=later_cell (bc (j:=0) hq rfl) (by omega);have z0:=later_cell c0 (by omega);have z2:=later_cell c2 (by omega);have z3:=later_cell c3 (by omega);have q0:=W7.bc (j:=0) hq rfl;have q1:=W7.bc (j:=1) hq rfl;clear c0 c1 c2 c3 hjn hTb hil;go_upto_region 11 with fail;clear q0 q1 hq;refine wp_region_later (by kernel_rfl) (by kernel_rfl) ?_
     repeat (any_goals (first | go_big_quiet_step ((fail)) | quiet_step ((fail))))
     refine wpQuiet_nil ?_;rintro w' ⟨e5,rfl⟩;have Hb5:=hI (Hb.o.trans (e5.b.mono hsr));clear y0 z0 z2 z3;go_wp2;go_roundw;case rel=>exact⟨i2+1,_,by omega,by go_num,rfl,Hb5⟩
     case measure=>simp[intOf];omega
def LastMay (j:JobP) (pl:List Bool) (n q:Nat) (e:Int):Prop:=
 (e= -1/\∀k,q<=k->k<n->mayB j pl k=false)\/∃k:Nat,e=(k:Int)/\k<n/\q<=k/\mayB j pl k=true/\∀k',q<=k'->k'<k->mayB j pl k'=false
theorem LastMay.skip {j:JobP} {pl:List Bool} {n q:Nat} {e:Int} (h:LastMay j pl n (q+1) e) (h2:mayB j pl q=false):LastMay j pl n q e:=by
 rcases h with⟨h3,h4⟩ | ⟨k,h3,h4,h5,h6,h7⟩
 ·refine .inl ⟨h3,fun k hk1 hk2=> ?_⟩
  by_cases e9:k=q
  ·rw[e9];exact h2
  ·exact h4 k (by omega) hk2
 ·refine .inr ⟨k,h3,h4,by omega,h6,fun k' hk1 hk2=> ?_⟩
  by_cases e9:k'=q
  ·rw[e9];exact h2
  ·exact h7 k' (by omega) hk2
end Go.Proofs.YtjpgnfekbojcaaaGreat
namespace W8
open W7
theorem pieces_no {r:Int}:∀ {l:List JUse},l.any (fun u=>u.res==r)=false->pieces r l=0
 | [],_=>rfl
 | u::l,h=>by
  rw[List.any_cons,Bool.or_eq_false_iff] at h
  show(if u.res==r then u.many else 0)+pieces r l=0
  rw[h.1,pieces_no h.2]
  rfl
end W8
namespace Go.Proofs.YtjpgnfekbojcaaaGreat
open Go.RowKit W7 W8
attribute [local go_sem] Oper.semAt_some
end Go.Proofs.YtjpgnfekbojcaaaGreat
namespace W8
open W7
theorem offTo_min {m L:Int}:∀ {l:List JSpan},(∀s∈l,L<=s.lo/\s.lo<=s.hi)->(l.Pairwise fun a b=>a.hi<b.lo)->offTo m l<=max (m-L) 0
 | [],_,_=>by simp only[offTo];omega
 | s::l,h,hp=>by
  have h1:=h s (List.mem_cons_self ..);rw[List.pairwise_cons] at hp;have h2:=offTo_min (m:=m) (L:=s.hi+1) (l:=l) (fun x hx=>⟨by have:=hp.1 x hx;omega,(h x (List.mem_cons_of_mem _ hx)).2⟩) hp.2;simp only[offTo];omega
theorem offTo_grow {m m' L:Int} (hm:m<=m'):∀ {l:List JSpan},(∀s∈l,L<=s.lo/\s.lo<=s.hi)->(l.Pairwise fun a b=>a.hi<b.lo)->offTo m' l-offTo m l<=max (m'-max m L) 0
 | [],_,_=>by simp only[offTo];omega
 | s::l,h,hp=>by
  have h1:=h s (List.mem_cons_self ..);rw[List.pairwise_cons] at hp;have h2:=offTo_grow (m:=m) (m':=m') (L:=s.hi+1) hm (l:=l) (fun x hx=>⟨by have:=hp.1 x hx;omega,(h x (List.mem_cons_of_mem _ hx)).2⟩) hp.2;simp only[offTo];omega
theorem off_good {j:JobP} (hG:JGood j) {r:ResP} (hr:r∈j.res):(∀s∈r.off,0<=s.lo/\s.lo<=s.hi)/\r.off.Pairwise fun a b=>a.hi<b.lo:=
 ⟨fun s hs=>⟨(hG.off r hr s hs).1,(hG.off r hr s hs).2.1⟩,hG.offs r hr⟩
end W8
namespace Go.Proofs.YtjpgnfekbojcaaaGreat
open Go.RowKit W7 W8
attribute [local go_sem] Oper.semAt_some
end Go.Proofs.YtjpgnfekbojcaaaGreat
