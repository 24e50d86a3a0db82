/- Is a job too great to be asked: the law's heavy returns;what its no says. -/
import Derived.Test.YtjpgnfekbojcaaaGreatWJSpec
import Derived.Test.YtjpgnfekbojcaaaGreatWJob9
import Derived.Test.YtjpgnfekbojcaaaGreatWFai0
set_option maxHeartbeats 8000000
set_option maxRecDepth 100000
namespace Go.Proofs.YtjpgnfekbojcaaaGreat
open Go.RowKit W7 W8
attribute [local go_sem] Oper.semAt_some
structure HeavyR (n m:Nat) (T:Int) (w:World) (e:Ending) (w':World):Prop where
 ex:∃b,e= .returned (.bool b)/\(b=false->n<=80/\m<=20/\((n:Int)<=T\/64<n))
 bel:Bl w w'
theorem heavy_any (j:Job) (T:Int) (B:Nat) (w:World) (hj:JIn w B j) (hB:B<=w.heap.size) :
  Calls Tryz.prog 15 #[jobV j,.int .i64 T] w (HeavyR j.tasks.length j.res.length T w):=by
 obtain⟨n,hn⟩:∃n,j.tasks.length=n:=⟨_,rfl⟩
 obtain⟨m,hm⟩:∃m,j.res.length=m:=⟨_,rfl⟩
 obtain⟨TA,hTA⟩:∃x,j.TA=x:=⟨_,rfl⟩
 obtain⟨RA,hRA⟩:∃x,j.RA=x:=⟨_,rfl⟩
 have hjv:jobV j= .agg #[.slice TA n j.tc,.slice RA m j.rc]:=by unfold jobV;rw[hn,hm,hTA,hRA]
 rw[hjv,hn,hm];obtain⟨W0,HW0,hs0,HB0,HX00,HU0⟩:=boxes1 w (.cells #[.slice TA n j.tc,.slice RA m j.rc] 25);have HJ:=hI (show ∀X:World,Bl W0 X->JIn X B j from fun X hX=>hj.below ((HU0.o X hX).mono hB));have htl:=hj.tl;have htc:=hj.tc;have hrl:=hj.rl;have hrc:=hj.rc;rw[hn] at htl;rw[hm] at hrl;have Hn:=hI hn;have Hm:=hI hm;have HTA:=hI hTA;have HRA:=hI hRA;clear hj hn hm hTA hRA hjv;have q0:=W7.bc (j:=0) (HX00.o W0 (Below.refl _ _)) rfl;have q1:=W7.bc (j:=1) (HX00.o W0 (Below.refl _ _)) rfl;go_enter Tryz.func15,Tryz.ntmps15;go_upto_region 1 with fail;rw[<- HW0.o]
 go_cut [42] (fun v42 wx=>∃hb:Bool,v42= .bool hb/\Hid (hb=false->n<=80/\m<=20/\((n:Int)<=T\/64<n))/\wx=W0)
 case first=>
  cases a2:decide ((n:Int)>T)
  ·have hT:(n:Int)<=T\/64<n:= .inl (by have:=of_decide_eq_false a2;omega);cases a1:decide ((n:Int)>80);rotate_left
   ·go_wp2;go_meet;exact⟨true,rfl,hI (fun h=>(by cases h)),rfl⟩
   have b1:n<=80:=by have:=of_decide_eq_false a1;omega
   cases a5:decide ((m:Int)>4)
   ·have a4:decide ((m:Int)>20)=false:=decide_eq_false (by have:=of_decide_eq_false a5;omega);have b2:m<=20:=by have:=of_decide_eq_false a4;omega
    go_wp2;go_meet;exact⟨false,rfl,hI (fun _=>⟨b1,b2,hT⟩),rfl⟩
   cases a6:decide ((m:Int)<=16);rotate_left
   ·go_wp2;go_meet;exact⟨true,rfl,hI (fun h=>(by cases h)),rfl⟩
   cases a4:decide ((m:Int)>20);rotate_left
   ·go_wp2;go_meet;exact⟨true,rfl,hI (fun h=>(by cases h)),rfl⟩
   have b2:m<=20:=by have:=of_decide_eq_false a4;omega
   go_wp2;go_meet;exact⟨false,rfl,hI (fun _=>⟨b1,b2,hT⟩),rfl⟩
  cases a3:decide ((n:Int)<=64)
  ·have hT:(n:Int)<=T\/64<n:= .inr (by have:=of_decide_eq_false a3;omega);cases a1:decide ((n:Int)>80);rotate_left
   ·go_wp2;go_meet;exact⟨true,rfl,hI (fun h=>(by cases h)),rfl⟩
   have b1:n<=80:=by have:=of_decide_eq_false a1;omega
   cases a5:decide ((m:Int)>4)
   ·have a4:decide ((m:Int)>20)=false:=decide_eq_false (by have:=of_decide_eq_false a5;omega);have b2:m<=20:=by have:=of_decide_eq_false a4;omega
    go_wp2;go_meet;exact⟨false,rfl,hI (fun _=>⟨b1,b2,hT⟩),rfl⟩
   cases a6:decide ((m:Int)<=16);rotate_left
   ·go_wp2;go_meet;exact⟨true,rfl,hI (fun h=>(by cases h)),rfl⟩
   cases a4:decide ((m:Int)>20);rotate_left
   ·go_wp2;go_meet;exact⟨true,rfl,hI (fun h=>(by cases h)),rfl⟩
   have b2:m<=20:=by have:=of_decide_eq_false a4;omega
   go_wp2;go_meet;exact⟨false,rfl,hI (fun _=>⟨b1,b2,hT⟩),rfl⟩
  go_wp2;go_meet;exact⟨true,rfl,hI (fun h=>(by cases h)),rfl⟩
 case rest=>
  obtain⟨hb,rfl,Hbb,hwc⟩:=hcut;have hwc':=hwc.symm;subst hwc';clear q0 q1;cases hb;rotate_left
  ·have HY:=hI HB0.o;go_wp2;go_ret;exact⟨⟨true,rfl,fun h=>(by cases h)⟩,HY.o⟩
  have Hyes:=hI (Hbb.o rfl);clear Hbb;go_wp2;go_loopw [5,6] (fun v5 v6 wr=>∃(i:Nat) (x:Int),i<=m/\v6= .int .i64 i/\v5= .int .i64 x/\Hid (Bl W0 wr)) (fun _ v6 _=>m-(intOf v6).toNat);case atStart=>exact⟨0,0,by omega,rfl,rfl,hI (Below.refl _ _)⟩
  case round=>
   obtain⟨i,x,hi,rfl,rfl,Hb⟩:=hrel;have hsr:=Hb.o.size;have hq:=HX00.o wr Hb.o
   by_cases hlt:i<m
   ·have hil:i<j.res.length:=by have:=Hm.o;omega
    have hjn:=HJ.o wr Hb.o;obtain⟨rb,ro,hre,hrB⟩:=hjn.ra (by omega);have hRe:RA=some ⟨rb,ro,none⟩:=by rw[<- HRA.o];exact hre
    subst hRe;obtain⟨r0,r1,r2⟩:=hjn.rcells hre hil;have hnm:=(hjn.rss _ (j.R_mem hil)).nm;have hol:=(hjn.rss _ (j.R_mem hil)).ol;have hoc:=(hjn.rss _ (j.R_mem hil)).oc;generalize j.R i=rs at r0 r1 r2 hnm hol hoc;have y1:=later_cell (bc (j:=1) hq rfl) (by omega);have z0:=later_cell r0 (by omega);have z2:=later_cell r2 (by omega);have q0:=W7.bc (j:=0) hq rfl;have q1:=W7.bc (j:=1) hq rfl;clear r0 r1 r2 hjn hre hil;go_upto_region 7 with fail;clear q0 q1 hq;refine wp_region_later (by kernel_rfl) (by kernel_rfl) ?_
    repeat (any_goals (first | go_big_quiet_step ((fail)) | quiet_step ((fail))))
    refine wpQuiet_nil ?_;rintro w' ⟨e5,rfl⟩;have Hb5:=hI (Hb.o.trans (e5.b.mono hsr));clear y1 z0 z2;go_wp2;go_roundw;case rel=>exact⟨i+1,_,by omega,by go_num,rfl,Hb5⟩
    case measure=>simp[intOf];omega
   ·have Hb0:=hI Hb.o;have q0:=W7.bc (j:=0) hq rfl;have q1:=W7.bc (j:=1) hq rfl;go_wp2;clear q0 q1 hq Hb;go_loopw [5,7] (fun v5 v7 wr=>∃(i:Nat) (x:Int),i<=n/\v7= .int .i64 i/\v5= .int .i64 x/\Hid (Bl W0 wr)) (fun _ v7 _=>n-(intOf v7).toNat);case atStart=>exact⟨0,x,by omega,rfl,rfl,Hb0⟩
    case round=>
     obtain⟨i2,x2,hi2,rfl,rfl,Hb⟩:=hrel;clear Hb0;have hsr:=Hb.o.size;have hq:=HX00.o wr Hb.o;have HUx:=hI (HU0.o wr Hb.o)
     by_cases hlt2:i2<n
     rotate_left
     ·skip;have q0:=W7.bc (j:=0) hq rfl;have q1:=W7.bc (j:=1) hq rfl;clear hq;go_wp2;go_ret;exact⟨⟨_,rfl,fun _=>Hyes.o⟩,HUx.o⟩
     cases hx:decide (x2<1000)
     ·skip;have q0:=W7.bc (j:=0) hq rfl;have q1:=W7.bc (j:=1) hq rfl;clear hq;go_wp2;go_ret;exact⟨⟨_,rfl,fun _=>Hyes.o⟩,HUx.o⟩
     have hil:i2<j.tasks.length:=by have:=Hn.o;omega
     have hjn:=HJ.o wr Hb.o;obtain⟨tb,off,hTb,htb⟩:=hjn.ta (by omega);have hTe:TA=some ⟨tb,off,none⟩:=by rw[<- HTA.o];exact hTb
     subst hTe;obtain⟨c0,c1,c2,c3⟩:=hjn.tcells hTb hil;have hnm:=(hjn.tks _ (j.T_mem hil)).nm;have hnl:=(hjn.tks _ (j.T_mem hil)).nl;have hnc:=(hjn.tks _ (j.T_mem hil)).nc;have hul:=(hjn.tks _ (j.T_mem hil)).ul;have huc:=(hjn.tks _ (j.T_mem hil)).uc;generalize j.T i2=t at c0 c1 c2 c3 hnm hnl hnc hul huc;have y0:=later_cell (bc (j:=0) hq rfl) (by omega);have z0:=later_cell c0 (by omega);have z2:=later_cell c2 (by omega);have z3:=later_cell c3 (by omega);have q0:=W7.bc (j:=0) hq rfl;have q1:=W7.bc (j:=1) hq rfl;clear c0 c1 c2 c3 hjn hTb hil;go_upto_region 11 with fail;clear q0 q1 hq;refine wp_region_later (by kernel_rfl) (by kernel_rfl) ?_
     repeat (any_goals (first | go_big_quiet_step ((fail)) | quiet_step ((fail))))
     refine wpQuiet_nil ?_;rintro w' ⟨e5,rfl⟩;have Hb5:=hI (Hb.o.trans (e5.b.mono hsr));clear y0 z0 z2 z3;go_wp2;go_roundw;case rel=>exact⟨i2+1,_,by omega,by go_num,rfl,Hb5⟩
     case measure=>simp[intOf];omega
end Go.Proofs.YtjpgnfekbojcaaaGreat
namespace W8
open W7
structure OrdInv (j:JobP) (pl:List Bool) (out:List Int):Prop where
 len:pl.length=j.tasks.length
 mem:∀i:Nat,(i:Int)∈out↔pl.getD i false=true
 nd:out.Nodup
 rng:∀x∈out,0<=x/\x<j.tasks.length
 pre:∀p (hp:p<out.length),∀m∈(j.tasks.getD (out[p]).toNat default).needs,m∈out.take p
theorem ordInv_go {j:JobP} (hG:JGood j):∀(f:Nat) (pl:List Bool) (out:List Int),OrdInv j pl out->∃pl',OrdInv j pl' (ordGo j f pl out)
 | 0,pl,out,h=>⟨pl,h⟩
 | f+1,pl,out,h=>by
  cases hm:firstMay j pl with
  | none=>rw[firstMay_none hm];exact⟨pl,h⟩
  | some k=>
   rw[firstMay_some hm];refine ordInv_go hG f _ _ ?_;have hk:=firstMay_lt hm;have hkp:k<pl.length:=by rw[h.len];exact hk.1
   have hst:standB pl (j.tasks.getD k default).needs=true:=by
    unfold firstMay at hm;have h2:=List.find?_some hm;unfold mayB at h2;simp only[Bool.and_eq_true] at h2;exact h2.2
   refine⟨by simp[h.len],fun i=> ?_,?_,?_,?_⟩
   ·rw[List.getD_eq_getElem?_getD,List.getElem?_set]
    by_cases he:k=i
    ·subst he;simp[hkp]
    ·rw[if_neg he,<-List.getD_eq_getElem?_getD,<-h.mem i];simp;omega
   ·rw[List.nodup_append];refine⟨h.nd,by simp,fun a ha b hb=> ?_⟩;rw[List.mem_singleton.1 hb];intro e;rw[e,h.mem k,hk.2] at ha;cases ha
   ·intro x hx;rcases List.mem_append.1 hx with hx | hx
    ·exact h.rng x hx
    ·rw[List.mem_singleton.1 hx];have:=hk.1;omega
   ·intro p hp m hmm
    by_cases hpl:p<out.length
    ·rw[List.getElem_append_left hpl] at hmm;rw[List.take_append_of_le_length (by omega)];exact h.pre p hpl m hmm
    ·have hpe:p=out.length:=by simp at hp;omega
     subst hpe;rw[List.getElem_append_right (Nat.le_refl _)] at hmm;simp only[Nat.sub_self,List.getElem_cons_zero,Int.toNat_natCast] at hmm;rw[List.take_left];unfold standB at hst;rw[List.all_eq_true] at hst;have h3:=hst m hmm;have h4:=hG.needs (j.tasks.getD k default) (by rw[getD_of hk.1];exact List.getElem_mem _) m hmm;have h5:=(h.mem m.toNat).2 h3
     rwa [Int.toNat_of_nonneg h4.1] at h5
theorem nodup_full:∀(n:Nat) (l:List Nat),l.Nodup->(∀x∈l,x<n)->l.length=n->∀x,x<n->x∈l:=by
 intro n l hn h hl x hx;apply Classical.byContradiction;intro hno
 have h2:=nodup_len n (x::l) (List.nodup_cons.2 ⟨hno,hn⟩) (fun y hy=>by
  rcases List.mem_cons.1 hy with rfl | hy
  ·exact hx
  ·exact h y hy)
 simp at h2;omega
theorem ord_inv {j:JobP} (h:jobErr j=0):∃pl,OrdInv j pl (ordV j):=by
 have hG:=good_of h;refine ordInv_go hG _ _ _ ⟨by simp,fun i=> ?_,by simp,by simp,by simp⟩;simp only[List.getD_eq_getElem?_getD,List.getElem?_replicate]
 split<;>simp
theorem ord_full {j:JobP} (h:jobErr j=0):∀n,n<j.tasks.length->(n:Int)∈ordV j:=by
 obtain⟨pl,hI⟩:=ord_inv h;intro n hn
 have hlen:(ordV j).length=j.tasks.length:=by
  have h1:=(err_parts h).2.2.2;have h2:=nodup_lenI (n:=j.tasks.length) hI.nd (fun x hx=>hI.rng x hx);omega
 have h3:=nodup_full j.tasks.length ((ordV j).map Int.toNat) (by
  rw[List.Nodup,List.pairwise_map];refine hI.nd.imp_of_mem ?_;intro a b ha hb hab h2;have:=hI.rng a ha;have:=hI.rng b hb;omega) (fun x hx=>by
  obtain⟨y,hy,rfl⟩:=List.mem_map.1 hx;have:=hI.rng y hy;omega) (by simpa using hlen) n hn
 obtain⟨y,hy,he⟩:=List.mem_map.1 h3;have:=hI.rng y hy;have:y=(n:Int):=by omega
 rw[<- this];exact hy
def rankOf (j:JobP) (n:Nat):Nat:=(ordV j).idxOf (n:Int)
theorem rank_lt {j:JobP} (h:jobErr j=0) {n:Nat} (hn:n<j.tasks.length):rankOf j n<j.tasks.length:=by
 obtain⟨pl,hI⟩:=ord_inv h;have h1:=List.idxOf_lt_length_of_mem (ord_full h n hn);have h2:=nodup_lenI (n:=j.tasks.length) hI.nd (fun x hx=>hI.rng x hx);unfold rankOf;omega
theorem rank_needs {j:JobP} (h:jobErr j=0) {k:Nat} (hk:k<j.tasks.length) {m:Int} (hm:m∈(j.tasks.getD k default).needs):rankOf j m.toNat<rankOf j k:=by
 obtain⟨pl,hI⟩:=ord_inv h;have hmr:=(good_of h).needs (j.tasks.getD k default) (by rw[getD_of hk];exact List.getElem_mem _) m hm;have h1:=List.idxOf_lt_length_of_mem (ord_full h k hk);have h2:=hI.pre (rankOf j k) h1;have h3:(ordV j)[rankOf j k]'h1=(k:Int):=List.getElem_idxOf h1;rw[h3,Int.toNat_natCast] at h2;have h4:=h2 m hm;obtain⟨p,hp,he⟩:=List.getElem_of_mem h4;rw[List.length_take] at hp;rw[List.getElem_take] at he;have h5:(ordV j).idxOf (ordV j)[p]=p:=hI.nd.idxOf_getElem p (by omega)
 have h6:rankOf j m.toNat=p:=by
  unfold rankOf;rw[Int.toNat_of_nonneg hmr.1,<-he];exact h5
 omega
theorem foldl_congr_mem {β:Type} {f g:β->Nat->β}:∀(l:List Nat) (b:β),(∀b,∀x∈l,f b x=g b x)->l.foldl f b=l.foldl g b
 | [],_,_=>rfl
 | x::l,b,h=>by
  rw[List.foldl_cons,List.foldl_cons,h b x (List.mem_cons_self ..)];exact foldl_congr_mem l _ (fun b y hy=>h b y (List.mem_cons_of_mem _ hy))
theorem lon_stable {j:JobP} (h:jobErr j=0):∀(d n f f':Nat),n<j.tasks.length->j.tasks.length-rankOf j n<=d->j.tasks.length-rankOf j n<=f->j.tasks.length-rankOf j n<=f'->lonGo j f n=lonGo j f' n
 | 0,n,f,f',hn,hd,_,_=>by have:=rank_lt h hn;omega
 | d+1,n,f,f',hn,hd,hf,hf'=>by
  have hr:=rank_lt h hn;obtain⟨g,rfl⟩:∃g,f=g+1:=⟨f-1,by omega⟩
  obtain⟨g',rfl⟩:∃g',f'=g'+1:=⟨f'-1,by omega⟩
  simp only[lonGo]
  congr 1
  refine foldl_congr_mem _ _ (fun b k hk=> ?_);have hkl:=List.mem_range.1 hk
  by_cases hc:(j.tasks.getD k default).needs.contains (n:Int)=true
  ·rw[if_pos hc,if_pos hc];have h1:=rank_needs h hkl (List.contains_iff_mem.1 hc);rw[Int.toNat_natCast] at h1;have h2:=rank_lt h hkl;rw[lon_stable h d k g g' hkl (by omega) (by omega) (by omega)]
  ·rw[if_neg hc,if_neg hc]
def lonStep (j:JobP) (n:Nat) (m:Int) (k:Nat):Int:=if (j.tasks.getD k default).needs.contains (n:Int) then max m (lonV j k) else m
def lonTo (j:JobP) (n i:Nat):Int:=(List.range i).foldl (lonStep j n) 0
theorem lonTo_succ (j:JobP) (n i:Nat):lonTo j n (i+1)=lonStep j n (lonTo j n i) i:=by
 unfold lonTo;rw[List.range_succ,List.foldl_append]
 rfl
theorem lonV_eq {j:JobP} (h:jobErr j=0) (n:Nat):lonV j n=(j.tasks.getD n default).takes+lonTo j n j.tasks.length:=by
 have e:lonV j n=(j.tasks.getD n default).takes+(List.range j.tasks.length).foldl (fun m k=>if (j.tasks.getD k default).needs.contains (n:Int) then max m (lonGo j j.tasks.length k) else m) 0:=rfl;rw[e]
 congr 1
 refine foldl_congr_mem _ _ (fun b k hk=> ?_);have hkl:=List.mem_range.1 hk;unfold lonStep
 by_cases hc:(j.tasks.getD k default).needs.contains (n:Int)=true
 ·rw[if_pos hc,if_pos hc];unfold lonV;have h1:=rank_needs h hkl (List.contains_iff_mem.1 hc);rw[Int.toNat_natCast] at h1;rw[lon_stable h j.tasks.length k j.tasks.length (j.tasks.length+1) hkl (by omega) (by omega) (by omega)]
 ·rw[if_neg hc,if_neg hc]
theorem foldl_max_le {j:JobP} {n f:Nat} {B:Int} (hB:∀k,k<j.tasks.length->0<=lonGo j f k/\lonGo j f k<=B) (h0:0<=B):∀(l:List Nat) (b:Int),(∀k∈l,k<j.tasks.length)->0<=b->b<=B->0<=l.foldl (fun m k=>if (j.tasks.getD k default).needs.contains (n:Int) then max m (lonGo j f k) else m) b/\l.foldl (fun m k=>if (j.tasks.getD k default).needs.contains (n:Int) then max m (lonGo j f k) else m) b<=B
 | [],_,_,h1,h2=>⟨h1,h2⟩
 | k::l,b,hl,h1,h2=>by
  rw[List.foldl_cons];have h3:=hB k (hl k (List.mem_cons_self ..));refine foldl_max_le hB h0 l _ (fun x hx=>hl x (List.mem_cons_of_mem _ hx)) ?_ ?_<;>split<;>omega
theorem lonGo_le {j:JobP} (hG:JGood j):∀(f n:Nat),n<j.tasks.length->0<=lonGo j f n/\lonGo j f n<=100000*f
 | 0,n,_=>by simp[lonGo]
 | f+1,n,hn=>by
  have h1:=hG.takes (j.tasks.getD n default) (by rw[getD_of hn];exact List.getElem_mem _);have h2:=foldl_max_le (n:=n) (f:=f) (B:=100000*f) (fun k hk=>lonGo_le hG f k hk) (by omega) (List.range j.tasks.length) 0 (fun k hk=>List.mem_range.1 hk) (Int.le_refl _) (by omega);simp only[lonGo];omega
theorem lonV_le {j:JobP} (hG:JGood j) {n:Nat} (hn:n<j.tasks.length):0<=lonV j n/\lonV j n<=6500000:=by
 have h:=lonGo_le hG (j.tasks.length+1) n hn;have:=hG.nt;unfold lonV;omega
theorem lonTo_le {j:JobP} (hG:JGood j) (n:Nat):∀i,i<=j.tasks.length->0<=lonTo j n i/\lonTo j n i<=6500000
 | 0,_=>by simp[lonTo]
 | i+1,hi=>by
  have h1:=lonTo_le hG n i (by omega);have h2:=lonV_le hG (n:=i) (by omega);rw[lonTo_succ];unfold lonStep
  split<;>omega
end W8
