/- Where a train can be (reach). -/
import Derived.Test.YtjpgnfekbojcaaaGreatWRJob5
import Derived.Test.YtjpgnfekbojcaaaGreatWLead
set_option maxHeartbeats 32000000
set_option maxRecDepth 100000
namespace Go.Proofs.YtjpgnfekbojcaaaGreat
open Go.RowKit W7 W8
attribute [local go_sem] Oper.semAt_some
def qLen (X:World) (qb:Nat):Nat:=match X.cell? ⟨qb,0,none⟩ with
 | some (.slice _ n _)=>n
 | _=>0
section
variable {X:World} {d:SrD} {l:Line} {tab:List (List TCall)} {stops:List Int} {base qb:Nat} {v:Value} {s s':RSt}
theorem RIn.rb (h:RIn X d l tab stops base qb v s) (h1:s'.seen=s.seen) (h2:s'.q=s.q):RIn X d l tab stops base qb v s':=
 ⟨h.sr,by rw[h1];exact h.mp,by rw[h2];exact h.q,h.hm,h.hb,h.hbq,h.hbs⟩
theorem RIn.meas (h:RIn X d l tab stops base qb v s):2*(stops.length*100001-mapLen X d.mb)+qLen X qb=muR stops s:=by
 obtain⟨A,c,e,_,_⟩:=h.q.row.sl;have h1:=bc (j:=0) h.q.blk rfl;rw[e] at h1;unfold muR qLen;rw[h.mp.len,h1]
 rfl
end
theorem rHKs {W0:World} {mb qb:Nat}:∀(X Y:World) (v v':Value),KeptS W0 X (fun i=>i=mb\/i=qb)->(∀g,v.ownBlock=some g->W0.heap.size<=g)->KeptS X Y (fun i=>i=mb\/i=qb\/v.ownBlock=some i)->(v'.ownBlock=v.ownBlock\/∃g,v'.ownBlock=some g/\X.heap.size<=g) →
  KeptS W0 Y (fun i=>i=mb\/i=qb)/\∀g,v'.ownBlock=some g->W0.heap.size<=g:=fun X Y v v' h1 h2 h3 h4=>by
 refine⟨⟨h3.os.trans h1.os,h3.tape.trans h1.tape,h3.output.trans h1.output,Nat.le_trans h1.size h3.size,fun i hi hn=>(h3.block i (Nat.lt_of_lt_of_le hi h1.size) (fun hs=> ?_)).trans (h1.block i hi hn)⟩,fun g hg=> ?_⟩
 ·rcases hs with hs | hs | hs
  ·exact hn (.inl hs)
  ·exact hn (.inr hs)
  ·have:=h2 i hs;omega
 ·rcases h4 with h4 | ⟨g',h4,h5⟩
  ·exact h2 g (h4▸hg)
  ·rw[h4] at hg;cases hg;exact Nat.le_trans h1.size h5
theorem reach_any (d:SrD) (l:Line) (tab:List (List TCall)) (stops:List Int) (ready:Int) (w:World) (h:SrIn w d l tab stops) (hm:MapIn w d.mb [] (fun _ _=>true)) (hBm:d.B<=d.mb) (hrd:0<=ready/\ready<=100000) :
  Calls Tryz.prog 88 #[.pointer (some ⟨d.sg,0,none⟩),.int .i64 ready] w fun e w'=>e= .returned (.int .i64 (reachV l tab stops ready))/\w.grownBy w' (some d.mb):=by
 obtain⟨W0,HW0,hs0,HB0,HX00,HX01,HU0⟩:=boxes2 w (.cells #[.pointer (some ⟨d.sg,0,none⟩)] 130) (.cells #[.slice none 0 0] 204);obtain⟨sn,hsn⟩:∃x,stops.length=x:=⟨_,rfl⟩
 have hpos:=h.st.pos;have hs16:=h.st.len;have hpc:=own_caps1 h.sp;obtain⟨pb,hPA,_,_⟩:=h.stop (k:=0) hpos;have hblk:=(HB0.o.block _ (blk_lt h.blk)).trans h.blk;rw[hsn] at hpc hs16;rw[hsn,hPA] at hblk;have z1:=bc (j:=1) hblk rfl;have hml:=hm.lt;have HR0:=hI (show RIn W0 d l tab stops (w.heap.size+1) (w.heap.size+1) (.slice none 0 0) ⟨[],[], -1⟩ from⟨h.below HB0.o,hm.below HB0.o,⟨HX01.o W0 (Below.refl _ _),.inl ⟨rfl,rfl⟩⟩,hBm,by have:=h.hB;omega,Nat.le_refl _,by omega⟩);have HSb:=hI (show ∀X,KeptS W0 X (fun i=>i=d.mb\/i=w.heap.size+1)->X.cell? ⟨w.heap.size,0,none⟩=some (.pointer (some ⟨d.sg,0,none⟩)) from fun X hX=>bc (j:=0) ((hX.block w.heap.size (by omega) (fun hs=>by rcases hs with hs | hs<;>omega)).trans (HX00.o W0 (Below.refl _ _))) rfl);have HSz:=hI (show ∀X,KeptS W0 X (fun i=>i=d.mb\/i=w.heap.size+1)->w.heap.size<X.heap.size from fun X hX=>by have:=hX.size;omega)
 have HKs:=hI (rHKs (W0:=W0) (mb:=d.mb) (qb:=w.heap.size+1));have Hsn:=hI hsn;have Hpos:=hI hpos;have HEnd:=hI (show ∀X,KeptS W0 X (fun i=>i=d.mb\/i=w.heap.size+1)->w.grownBy X (some d.mb) from fun X hX=>⟨hX.os.trans HB0.o.os,hX.tape.trans HB0.o.tape,hX.output.trans HB0.o.output,by have:=hX.size;omega,fun i hi hne=>(hX.block i (by omega) (fun hs=>by rcases hs with hs | hs;exact hne (by rw[hs]);omega)).trans (HB0.o.block i hi)⟩);obtain⟨RV,hRV⟩:∃x,reachV l tab stops ready=x:=⟨_,rfl⟩
 have HRV:=hI (show reachGo l tab stops (100001-ready).toNat ready ⟨[],[], -1⟩=RV from hRV);have hsgf:=blk_lt h.blk;rw[hRV];obtain⟨hrd0,hrd1⟩:=hrd;obtain⟨dsg,hdsg⟩:∃x,d.sg=x:=⟨_,rfl⟩
 have x0:=bc (j:=0) (HX00.o W0 (Below.refl _ _)) rfl;have Hml:=hI hml;clear h hm hblk hRV hdsg hsn hpos;go_enter Tryz.func88,Tryz.ntmps88;go_upto_region 2 with fail;rw[<- HW0.o];go_wp2;clear x0 z1;go_loopw [7,9] (fun v7 v9 wr=>∃(t:Int) (s:RSt) (v:Value),v9= .int .i64 t/\v7= .int .i64 s.best/\ready<=t/\t<=100001/\Hid (RIn wr d l tab stops (w.heap.size+1) (w.heap.size+1) v s)/\Hid (s.q=[])/\Hid (RInv l tab stops ready s)/\Hid (muR stops s<=3200032)/\Hid (KeptS W0 wr (fun i=>i=d.mb\/i=w.heap.size+1))/\Hid (∀g,v.ownBlock=some g->W0.heap.size<=g)/\Hid (reachGo l tab stops (100001-t).toNat t s=RV)) (fun _ v9 _=>(100001-intOf v9).toNat);case atStart=>exact⟨ready,⟨[],[], -1⟩,.slice none 0 0,rfl,rfl,Int.le_refl _,by omega,HR0,hI rfl,hI RInv.first,hI (by unfold muR;simp only[List.length_nil];have:=Hsn.o;omega),hI (KeptS.refl _ _),hI (fun g hg=>by cases hg),HRV⟩
 case round=>
  obtain⟨t,s,v,rfl,rfl,ht0,ht1,HR,Hq,HI,Hmu,HK,HRo,HGo⟩:=hrel
  by_cases htl:t<=100000
  ·have HVs:=hI (by
    have h5:=visit_any d l tab stops (w.heap.size+1) (w.heap.size+1) w.heap.size v s ready 0 t wr HR.o HI.o Hpos.o (by omega) (by have:=Hmu.o;unfold muR at this;omega) (HSb.o wr HK.o) (HSz.o wr HK.o);unfold moV at h5;rw[show((0:Nat):Int)=0 from rfl] at h5;exact h5)
   have HGr:=hI (reach_round (l:=l) (tab:=tab) (stops:=stops) (s:=s) htl);obtain⟨SF,hSF⟩:∃x,drainAll l tab stops (visV l tab stops s 0 t)=x:=⟨_,rfl⟩
   rw[hSF,HGo.o] at HGr;have HSF:=hI hSF;have HIv:=hI (HI.o.vis (k:=0) (t:=t) Hpos.o (fun hr=> .start ht0 hr));have HSq:=hI (show RInv l tab stops ready SF/\SF.q=[] by rw[<- hSF];exact HIv.o.drained);clear hSF;obtain⟨wo,hwo⟩:∃wo:World,wo=wr:=⟨_,rfl⟩
   subst hwo;go_upto_region 9 with(go_at_call 154;go_loud (refine HVs.o.mono ?_);rintro e9 w9 ⟨rfl,hx9,hk9⟩;have Hx9:=hI hx9;have Hk9:=hI hk9;clear hx9 hk9)
   obtain⟨v1,hr1,ho1⟩:=Hx9.o;have HKv:=hI (HKs.o wo w9 v v1 HK.o HRo.o Hk9.o ho1);have HK1:=hI HKv.o.1;have HRo1:=hI HKv.o.2;have HR1:=hI hr1;clear hr1 ho1;have HD1:=hI (show drainV l tab stops (muR stops (visV l tab stops s 0 t)) (visV l tab stops s 0 t)=SF from HSF.o);have Hm1:=hI (show muR stops (visV l tab stops s 0 t)<=3200032 from Nat.le_trans (mu_vis HIv.o) Hmu.o);have hvb:=vis_best (l:=l) (tab:=tab) (stops:=stops) (s:=s) (k:=0) (t:=t);obtain⟨s1,hs1⟩:∃x,visV l tab stops s 0 t=x:=⟨_,rfl⟩
   rw[hs1] at HD1 Hm1 HIv HR1 hvb;rw[<- hvb];clear hs1 hvb;go_loopw [7] (fun v7 wr=>∃(s:RSt) (v:Value),v7= .int .i64 s.best/\Hid (RIn wr d l tab stops (w.heap.size+1) (w.heap.size+1) v s)/\Hid (RInv l tab stops ready s)/\Hid (muR stops s<=3200032)/\Hid (drainV l tab stops (muR stops s) s=SF)/\Hid (KeptS W0 wr (fun i=>i=d.mb\/i=w.heap.size+1))/\Hid (∀g,v.ownBlock=some g->W0.heap.size<=g)) (fun _ wr=>2*(stops.length*100001-mapLen wr d.mb)+qLen wr (w.heap.size+1));case atStart=>exact⟨s1,v1,rfl,HR1,HIv,Hm1,HD1,HK1,HRo1⟩
   case round=>
    obtain⟨s,v,rfl,HRn,hi,hmu,HDn,HKn,HRon⟩:=hrel;have hsr:=HKn.o.size;cases hqq:s.q with
    | nil=>
     have HT:=hI (take0_any (w.heap.size+1) (w.heap.size+1) v wr (by have h5:=HRn.o.q;rw[hqq] at h5;exact h5));have HSs:=hI (show s=SF by rw[<- HDn.o,drain_nil _ hqq]);have HGs:=hI (show RV=if 0<=s.best/\s.best<=t then s.best else reachGo l tab stops (100001-(t+1)).toNat (t+1) s by rw[HSs.o];exact HGr.o);have Hqn:=hI hqq;obtain⟨bo,hbo⟩:∃x,s.best=x:=⟨_,rfl⟩
     rw[hbo] at HGs ⊢;have Hbo:=hI hbo;have HKt:=hI (show ∀X,Bl wr X->KeptS W0 X (fun i=>i=d.mb\/i=w.heap.size+1) from fun X hX=>HKn.o.trans (KeptS.of_below hX));have HRt:=hI (show ∀X,Bl wr X->RIn X d l tab stops (w.heap.size+1) (w.heap.size+1) v s from fun X hX=>HRn.o.below hX);clear hqq hbo;go_upto_region 18 with(go_at_call 157;go_loud (refine HT.o.mono ?_);rintro e2 w2 ⟨rfl,hb2⟩;have hs2:=hb2.size;have Hb2:=hI hb2;clear hb2)
     obtain⟨W3,hW3⟩:∃W3,W3=w2.alloc (.cells #[.int .i64 0,.int .i64 0] 136):=⟨_,rfl⟩
     have HB3:=hI (show Bl wr W3 by rw[hW3];exact Hb2.o.alloc hs2 _);rw[<- hW3];clear hW3
     by_cases h01:0<=bo
     rotate_left
     ·have hd1:decide (0<=bo)=false:=decide_eq_false h01;have HNx:=hI (show reachGo l tab stops (100001-(t+1)).toNat (t+1) s=RV by rw[HGs.o,if_neg (fun h=>h01 h.1)]);go_wp2;go_roundw;case rel=>exact⟨t+1,s,v,by go_num,by rw[Hbo.o],by omega,by omega,hI (HRt.o W3 HB3.o),Hqn,hi,hmu,hI (HKt.o W3 HB3.o),HRon,HNx⟩
      case measure=>simp[intOf];omega
     have hd1:decide (0<=bo)=true:=decide_eq_true h01
     by_cases h02:bo<=t
     ·have hd2:decide (bo<=t)=true:=decide_eq_true h02;have HNx:=hI (show RV=bo by rw[HGs.o,if_pos ⟨h01,h02⟩]);have HE:=hI (HEnd.o W3 (HKt.o W3 HB3.o));go_wp2;go_ret;exact⟨ret_int HNx.o.symm,HE.o⟩
     ·have hd2:decide (bo<=t)=false:=decide_eq_false h02;have HNx:=hI (show reachGo l tab stops (100001-(t+1)).toNat (t+1) s=RV by rw[HGs.o,if_neg (fun h=>h02 h.2)]);go_wp2;go_roundw;case rel=>exact⟨t+1,s,v,by go_num,by rw[Hbo.o],by omega,by omega,hI (HRt.o W3 HB3.o),Hqn,hi,hmu,hI (HKt.o W3 HB3.o),HRon,HNx⟩
      case measure=>simp[intOf];omega
    | cons m q'=>
     obtain⟨k,t'⟩:=m;have hq:=hI hqq;have hcan:=hi.out.can _ (hi.out.sub _ (by rw[hqq];exact List.mem_cons_self ..));simp only at hcan;have hk:=hcan.2.1;have htk:=hcan.2.2;have HDr:=hI ((drain_step hi.out hqq).symm.trans HDn.o);have HT:=hI ((take1_any (w.heap.size+1) (w.heap.size+1) v k t' q' wr (by have h5:=HRn.o.q;rw[hqq] at h5;exact h5)).mono (R':=fun e w'=>e= .returned (.tuple #[.agg #[.int .i64 (k:Int),.int .i64 t'],.bool true])/\(∃v',QIn w' (w.heap.size+1) (w.heap.size+1) v' q'/\v'.ownBlock=v.ownBlock)/\KeptS wr w' (fun i=>i=w.heap.size+1)) (fun e w' h5=>⟨h5.val,h5.ex,h5.k⟩));have hmq:=HRn.o.mq;have hal:=HRn.o.alien;clear hqq hcan;go_upto_region 10 with(go_at_call 157;go_loud (refine HT.o.mono ?_);rintro e2 W1 ⟨rfl,hx1,hk1⟩;have hs1:=hk1.size;have Hx1:=hI hx1;have Hk1:=hI hk1;clear hx1 hk1)
     obtain⟨v4,hq4,ho4⟩:=Hx1.o;obtain⟨W4,hW4⟩:∃W4,W4=W1.alloc (.cells #[.int .i64 (k:Int),.int .i64 t'] 136):=⟨_,rfl⟩
     have hB4:Bl W1 W4:=by rw[hW4];exact(Below.refl _ _).alloc (Nat.le_refl _) _
     have HX4:=hI (show W4.heap[W1.heap.size]? =some (.cells #[.int .i64 (k:Int),.int .i64 t'] 136 (0,0)) by rw[hW4];exact heap_alloc_new _ _)
     have HR4':=hI (show RIn W4 d l tab stops (w.heap.size+1) (w.heap.size+1) v4 ⟨s.seen,q',s.best⟩ from
      RIn.below ⟨HRn.o.sr.keptS Hk1.o (fun i hi=>by rw[hi];exact⟨by have:=HRn.o.hb;omega,hal.1⟩),HRn.o.mp.kept (Hk1.o.block _ HRn.o.mp.lt (fun hs=>hmq.1 hs)),hq4,HRn.o.hm,HRn.o.hb,HRn.o.hbq,Nat.le_trans HRn.o.hbs hs1⟩ hB4)
     have HS4:=hI HR4'.o.sr;have HK4:=hI (show KeptS W0 W4 (fun i=>i=d.mb\/i=w.heap.size+1) from(HKn.o.trans (Hk1.o.mono (fun i hi=> .inr hi))).trans (KeptS.of_below hB4));have HRo4:=hI (show ∀g,v4.ownBlock=some g->W0.heap.size<=g from fun g hg=>HRon.o g (ho4▸hg));have HRn4:=hI (show ∀g,v4.ownBlock=some g->g<W1.heap.size from fun g hg=>(hq4.row.lt hg).2.1);have HSz2:=hI (show d.mb<W1.heap.size/\w.heap.size+1<W1.heap.size from by have:=Hml.o;omega);rw[<- hW4];clear hW4 hB4 hq4 ho4 hmq hal;obtain⟨bo,hbo⟩:∃x,s.best=x:=⟨_,rfl⟩
     rw[hbo];have Hbo:=hI hbo;clear hbo
     by_cases hkl0:k+1=sn
     rotate_left
     ·have hq1:((k:Int)==(sn:Int)-1)=false:=beq_false_of_ne (by omega);have HBv:=hI (show bestV stops ⟨s.seen,q',s.best⟩ k t'=bo by unfold bestV;simp only;rw[Hbo.o];rw[if_neg (fun h=>by have:=h.1;have:=Hsn.o;omega)]);have m0:=W7.bc (j:=0) HX4.o rfl;have m1:=W7.bc (j:=1) HX4.o rfl;go_upto_region 13 with fail;clear m0 m1;have hklt:k+1<sn:=by have:=Hsn.o;omega
      have HiB:=hI (show RInv l tab stops ready ⟨s.seen,q',bo⟩ by rw[<- HBv.o];exact(hi.out.take hq.out).1.bst (hi.out.take hq.out).2);have HinB:=hI (show(k,t')∈(⟨s.seen,q',bo⟩:RSt).seen from(hi.out.take hq.out).2);have HmB:=hI (show muR stops (⟨s.seen,q',bo⟩:RSt)<=3200032 from Nat.le_trans (Nat.le_of_succ_le (Nat.le_of_eq (mu_take (stops:=stops) hq.out))) hmu.out);have HMe:=hI (show 2*(stops.length*100001-mapLen wr d.mb)+qLen wr (w.heap.size+1)=muR stops (⟨s.seen,q',bo⟩:RSt)+1 by rw[RIn.meas HRn.o];exact(mu_take (stops:=stops) hq.out).symm);have HR4:=hI (show RIn W4 d l tab stops (w.heap.size+1) (w.heap.size+1) v4 ⟨s.seen,q',bo⟩ from HR4'.o.rb rfl rfl);obtain⟨ob,hob⟩:∃x,onB l tab stops k t'=x:=⟨_,rfl⟩
      have HOn:=hI ((on_any d l tab stops k t' W4 HS4.o hk htk).mono (R':=fun e w'=>∃a b:Int,e= .returned (.tuple #[.agg #[.int .i64 a,.int .i64 b],.bool ob])/\(ob=true->a=(k:Int)+1/\b=t'+runK l stops k)/\Bl W4 w') (fun e w' ⟨⟨a,b,h1,h2⟩,h3⟩=>by rw[hob] at h1 h2;exact⟨a,b,h1,h2,h3⟩));have Hob:=hI hob;have sbx4:=HSb.o W4 HK4.o;have m0:=W7.bc (j:=0) HX4.o rfl;have m1:=W7.bc (j:=1) HX4.o rfl;clear hob;go_upto_region 14 with(go_at_call 91;go_loud (refine HOn.o.mono ?_);rintro e5 w5 ⟨a,b,rfl,hab,hb5⟩;have hs5:=hb5.size;have Hb5:=hI hb5;have Hab:=hI hab;clear hb5 hab)
      obtain⟨W6,hW6⟩:∃W6,W6=w5.alloc (.cells #[.int .i64 a,.int .i64 b] 136):=⟨_,rfl⟩
      have HB6:=hI (show Bl W4 W6 by rw[hW6];exact Hb5.o.alloc hs5 _);have HN6:=hI (show W6.heap[w5.heap.size]? =some (.cells #[.int .i64 a,.int .i64 b] 136 (0,0)) by rw[hW6];exact heap_alloc_new _ _);rw[<- hW6];clear hW6 m0 m1 sbx4;have HRB:=hI (show RIn W6 d l tab stops (w.heap.size+1) (w.heap.size+1) v4 ⟨s.seen,q',bo⟩ from(HR4.o.below HB6.o));have HX6:=hI ((HB6.o.block _ (blk_lt HX4.o)).trans HX4.o);have HK6:=hI (show KeptS W0 W6 (fun i=>i=d.mb\/i=w.heap.size+1) from HK4.o.trans (KeptS.of_below HB6.o));cases ob
      ·skip;obtain⟨SG,hSG⟩:∃x,goV l tab stops ⟨s.seen,q',bo⟩ k t'=x:=⟨_,rfl⟩
       have HSGi:=hI (show RInv l tab stops ready SG by rw[<- hSG];exact HiB.o.go HinB.o);have HSGs:=hI (show(k,t')∈SG.seen by rw[<- hSG];exact go_seen HinB.o);have HSGm2:=hI (show muR stops SG<=muR stops (⟨s.seen,q',bo⟩:RSt) by rw[<- hSG];exact mu_go HiB.o HinB.o);have HSGm:=hI (show muR stops SG<=3200032 from Nat.le_trans HSGm2.o HmB.o);have HSGb:=hI (show SG.best=bo by rw[<- hSG];unfold goV;split;exact vis_best;rfl);have HStp:=hI (show stepV l tab stops ⟨s.seen,q',s.best⟩ k t'=waitV l tab stops SG k t' by show waitV l tab stops (goV l tab stops ⟨s.seen,q',bestV stops ⟨s.seen,q',s.best⟩ k t'⟩ k t') k t'=_;rw[HBv.o,hSG]);rw[show goV l tab stops ⟨s.seen,q',bo⟩ k t'=⟨s.seen,q',bo⟩ by unfold goV;rw[if_neg (by rw[Hob.o];decide)]] at hSG;rw[hSG] at HRB;clear hSG;have HKW:=HK6;have HRWo:=HRo4;have m0:=W7.bc (j:=0) HX6.o rfl;have m1:=W7.bc (j:=1) HX6.o rfl
       by_cases hkp:0<k
       rotate_left
       ·have hkz:=hkp;have hk0: ¬ 0<k:=hkz;have HWt:=hI (show waitV l tab stops SG k t'=SG by unfold waitV;rw[decide_eq_false hk0];rfl);have HF:=HSGi;go_wp2;go_roundw;case rel=>exact⟨SG,v4,by rw[HSGb.o],HRB,HSGi,HSGm,hI (by have h9:=HDr.o;rw[HStp.o,HWt.o] at h9;exact h9),HKW,HRWo⟩
        case measure=>rw[RIn.meas HRB.o,HMe.o];have h2:=HSGm2.o;omega
       by_cases htw:t'<100000
       rotate_left
       ·skip;have hk0:0<k:=hkp;have hq7:decide ((k:Int)<(sn:Int)-1)=true:=by simp;omega
        have hq8:decide (t'<100000)=false:=decide_eq_false htw;have HWt:=hI (show waitV l tab stops SG k t'=SG by unfold waitV;rw[hq8];simp);have HF:=HSGi;go_wp2;go_roundw;case rel=>exact⟨SG,v4,by rw[HSGb.o],HRB,HSGi,HSGm,hI (by have h9:=HDr.o;rw[HStp.o,HWt.o] at h9;exact h9),HKW,HRWo⟩
        case measure=>rw[RIn.meas HRB.o,HMe.o];have h2:=HSGm2.o;omega
       by_cases hbn:bo<0
       ·have hq9:decide (bo<0)=true:=decide_eq_true hbn;have hk0:0<k:=hkp;have hq7:decide ((k:Int)<(sn:Int)-1)=true:=by simp;omega
        have hq8:decide (t'<100000)=true:=decide_eq_true htw;have HWt:=hI (show waitV l tab stops SG k t'=visV l tab stops SG k (t'+1) by unfold waitV;rw[HSGb.o,hq8,hq9,decide_eq_true (show 0<k from hk0),decide_eq_true (show k<stops.length-1 by have:=Hsn.o;omega)];rfl)
        have HVw:=hI (by
         have h5:=visit_any d l tab stops (w.heap.size+1) (w.heap.size+1) w.heap.size v4 SG ready k (t'+1) W6 HRB.o HSGi.o hk (by omega) (by have:=HSGm.o;unfold muR at this;omega) (HSb.o W6 HKW.o) (HSz.o W6 HKW.o);unfold moV at h5;exact h5)
        go_wp2_with (go_at_call 154;go_loud (refine HVw.o.mono ?_);rintro e9 w9 ⟨rfl,hx9,hk9⟩;have Hx9:=hI hx9;have Hk9:=hI hk9;clear hx9 hk9);obtain⟨v9,hr9,ho9⟩:=Hx9.o;have HF:=hI (show RInv l tab stops ready (visV l tab stops SG k (t'+1)) by rw[<- HWt.o];exact HSGi.o.wait HSGs.o);have HFm:=hI (show muR stops (visV l tab stops SG k (t'+1))<=3200032 from Nat.le_trans (mu_vis HF.o) HSGm.o);have HKf:=hI (HKs.o W6 w9 v4 v9 HKW.o HRWo.o Hk9.o ho9);go_roundw;case rel=>exact⟨visV l tab stops SG k (t'+1),v9,by rw[vis_best,HSGb.o],hI hr9,HF,HFm,hI (by rw[<- HWt.o,<-HStp.o];exact HDr.o),hI HKf.o.1,hI HKf.o.2⟩
        case measure=>rw[RIn.meas hr9,HMe.o];have h1:=mu_vis HF.o;have h2:=HSGm2.o;omega
       have hq9:decide (bo<0)=false:=decide_eq_false hbn
       by_cases hbt:t'<bo
       ·have hq10:decide (t'<bo)=true:=decide_eq_true hbt;have hk0:0<k:=hkp;have hq7:decide ((k:Int)<(sn:Int)-1)=true:=by simp;omega
        have hq8:decide (t'<100000)=true:=decide_eq_true htw;have HWt:=hI (show waitV l tab stops SG k t'=visV l tab stops SG k (t'+1) by unfold waitV;rw[HSGb.o,hq8,hq9,hq10,decide_eq_true (show 0<k from hk0),decide_eq_true (show k<stops.length-1 by have:=Hsn.o;omega)];rfl)
        have HVw:=hI (by
         have h5:=visit_any d l tab stops (w.heap.size+1) (w.heap.size+1) w.heap.size v4 SG ready k (t'+1) W6 HRB.o HSGi.o hk (by omega) (by have:=HSGm.o;unfold muR at this;omega) (HSb.o W6 HKW.o) (HSz.o W6 HKW.o);unfold moV at h5;exact h5)
        go_wp2_with (go_at_call 154;go_loud (refine HVw.o.mono ?_);rintro e9 w9 ⟨rfl,hx9,hk9⟩;have Hx9:=hI hx9;have Hk9:=hI hk9;clear hx9 hk9);obtain⟨v9,hr9,ho9⟩:=Hx9.o;have HF:=hI (show RInv l tab stops ready (visV l tab stops SG k (t'+1)) by rw[<- HWt.o];exact HSGi.o.wait HSGs.o);have HFm:=hI (show muR stops (visV l tab stops SG k (t'+1))<=3200032 from Nat.le_trans (mu_vis HF.o) HSGm.o);have HKf:=hI (HKs.o W6 w9 v4 v9 HKW.o HRWo.o Hk9.o ho9);go_roundw;case rel=>exact⟨visV l tab stops SG k (t'+1),v9,by rw[vis_best,HSGb.o],hI hr9,HF,HFm,hI (by rw[<- HWt.o,<-HStp.o];exact HDr.o),hI HKf.o.1,hI HKf.o.2⟩
        case measure=>rw[RIn.meas hr9,HMe.o];have h1:=mu_vis HF.o;have h2:=HSGm2.o;omega
       have hq10:decide (t'<bo)=false:=decide_eq_false hbt;have hk0:0<k:=hkp;have hq7:decide ((k:Int)<(sn:Int)-1)=true:=by simp;omega
       have hq8:decide (t'<100000)=true:=decide_eq_true htw;have HWt:=hI (show waitV l tab stops SG k t'=SG by unfold waitV;rw[HSGb.o,hq8,hq9,hq10,decide_eq_true (show 0<k from hk0),decide_eq_true (show k<stops.length-1 by have:=Hsn.o;omega)];rfl);have HF:=HSGi;go_wp2;go_roundw;case rel=>exact⟨SG,v4,by rw[HSGb.o],HRB,HSGi,HSGm,hI (by have h9:=HDr.o;rw[HStp.o,HWt.o] at h9;exact h9),HKW,HRWo⟩
       case measure=>rw[RIn.meas HRB.o,HMe.o];have h2:=HSGm2.o;omega
      obtain⟨rfl,hb⟩:=Hab.o rfl;have hkl:=onB_lt Hob.o;have hrb:=runK_bd HS4.o.ok.line HS4.o.st hkl;have htb: -1000<=b/\b<=1000000:=by omega
      have HVg:=hI (by
       have h5:=visit_any d l tab stops (w.heap.size+1) (w.heap.size+1) w.heap.size v4 ⟨s.seen,q',bo⟩ ready (k+1) b W6 HRB.o HiB.o hkl htb (by have:=HmB.o;unfold muR at this;omega) (HSb.o W6 HK6.o) (HSz.o W6 HK6.o);unfold moV at h5;rw[show((k+1:Nat):Int)=(k:Int)+1 from rfl] at h5;exact h5)
      have Hbe:=hI hb;have n0:=W7.bc (j:=0) HN6.o rfl;have n1:=W7.bc (j:=1) HN6.o rfl;clear hb hrb htb;go_upto_region 16 with(go_at_call 154;go_loud (refine HVg.o.mono ?_);rintro e7 w7 ⟨rfl,hx7,hk7⟩;have Hx7:=hI hx7;have Hk7:=hI hk7;clear hx7 hk7)
      clear n0 n1;obtain⟨v7,hr7,ho7⟩:=Hx7.o;have HR7:=hI hr7;have HKs7:=hI (HKs.o W6 w7 v4 v7 HK6.o HRo4.o Hk7.o ho7);have HKW:=hI HKs7.o.1;have HRWo:=hI HKs7.o.2;have hx7':=(Hk7.o.block W1.heap.size (blk_lt HX6.o) (by intro hs;rcases hs with hs | hs | hs;(have:=HSz2.o;omega);(have:=HSz2.o;omega);(have:=HRn4.o _ hs;omega))).trans HX6.o;have m0:=W7.bc (j:=0) hx7' rfl;have m1:=W7.bc (j:=1) hx7' rfl;clear hx7' hr7 ho7;obtain⟨SG,hSG⟩:∃x,goV l tab stops ⟨s.seen,q',bo⟩ k t'=x:=⟨_,rfl⟩
      have HSGi:=hI (show RInv l tab stops ready SG by rw[<- hSG];exact HiB.o.go HinB.o);have HSGs:=hI (show(k,t')∈SG.seen by rw[<- hSG];exact go_seen HinB.o);have HSGm2:=hI (show muR stops SG<=muR stops (⟨s.seen,q',bo⟩:RSt) by rw[<- hSG];exact mu_go HiB.o HinB.o);have HSGm:=hI (show muR stops SG<=3200032 from Nat.le_trans HSGm2.o HmB.o);have HSGb:=hI (show SG.best=bo by rw[<- hSG];unfold goV;split;exact vis_best;rfl);have HStp:=hI (show stepV l tab stops ⟨s.seen,q',s.best⟩ k t'=waitV l tab stops SG k t' by show waitV l tab stops (goV l tab stops ⟨s.seen,q',bestV stops ⟨s.seen,q',s.best⟩ k t'⟩ k t') k t'=_;rw[HBv.o,hSG]);rw[show goV l tab stops ⟨s.seen,q',bo⟩ k t'=visV l tab stops ⟨s.seen,q',bo⟩ (k+1) b by unfold goV;rw[if_pos Hob.o,<-Hbe.o]] at hSG;rw[hSG] at HR7;clear hSG
      by_cases hkp:0<k
      rotate_left
      ·have hkz:=hkp;have hk0: ¬ 0<k:=hkz;have HWt:=hI (show waitV l tab stops SG k t'=SG by unfold waitV;rw[decide_eq_false hk0];rfl);have HF:=HSGi;go_wp2;go_roundw;case rel=>exact⟨SG,v7,by rw[HSGb.o],HR7,HSGi,HSGm,hI (by have h9:=HDr.o;rw[HStp.o,HWt.o] at h9;exact h9),HKW,HRWo⟩
       case measure=>rw[RIn.meas HR7.o,HMe.o];have h2:=HSGm2.o;omega
      by_cases htw:t'<100000
      rotate_left
      ·skip;have hk0:0<k:=hkp;have hq7:decide ((k:Int)<(sn:Int)-1)=true:=by simp;omega
       have hq8:decide (t'<100000)=false:=decide_eq_false htw;have HWt:=hI (show waitV l tab stops SG k t'=SG by unfold waitV;rw[hq8];simp);have HF:=HSGi;go_wp2;go_roundw;case rel=>exact⟨SG,v7,by rw[HSGb.o],HR7,HSGi,HSGm,hI (by have h9:=HDr.o;rw[HStp.o,HWt.o] at h9;exact h9),HKW,HRWo⟩
       case measure=>rw[RIn.meas HR7.o,HMe.o];have h2:=HSGm2.o;omega
      by_cases hbn:bo<0
      ·have hq9:decide (bo<0)=true:=decide_eq_true hbn;have hk0:0<k:=hkp;have hq7:decide ((k:Int)<(sn:Int)-1)=true:=by simp;omega
       have hq8:decide (t'<100000)=true:=decide_eq_true htw;have HWt:=hI (show waitV l tab stops SG k t'=visV l tab stops SG k (t'+1) by unfold waitV;rw[HSGb.o,hq8,hq9,decide_eq_true (show 0<k from hk0),decide_eq_true (show k<stops.length-1 by have:=Hsn.o;omega)];rfl)
       have HVw:=hI (by
        have h5:=visit_any d l tab stops (w.heap.size+1) (w.heap.size+1) w.heap.size v7 SG ready k (t'+1) w7 HR7.o HSGi.o hk (by omega) (by have:=HSGm.o;unfold muR at this;omega) (HSb.o w7 HKW.o) (HSz.o w7 HKW.o);unfold moV at h5;exact h5)
       go_wp2_with (go_at_call 154;go_loud (refine HVw.o.mono ?_);rintro e9 w9 ⟨rfl,hx9,hk9⟩;have Hx9:=hI hx9;have Hk9:=hI hk9;clear hx9 hk9);obtain⟨v9,hr9,ho9⟩:=Hx9.o;have HF:=hI (show RInv l tab stops ready (visV l tab stops SG k (t'+1)) by rw[<- HWt.o];exact HSGi.o.wait HSGs.o);have HFm:=hI (show muR stops (visV l tab stops SG k (t'+1))<=3200032 from Nat.le_trans (mu_vis HF.o) HSGm.o);have HKf:=hI (HKs.o w7 w9 v7 v9 HKW.o HRWo.o Hk9.o ho9);go_roundw;case rel=>exact⟨visV l tab stops SG k (t'+1),v9,by rw[vis_best,HSGb.o],hI hr9,HF,HFm,hI (by rw[<- HWt.o,<-HStp.o];exact HDr.o),hI HKf.o.1,hI HKf.o.2⟩
       case measure=>rw[RIn.meas hr9,HMe.o];have h1:=mu_vis HF.o;have h2:=HSGm2.o;omega
      have hq9:decide (bo<0)=false:=decide_eq_false hbn
      by_cases hbt:t'<bo
      ·have hq10:decide (t'<bo)=true:=decide_eq_true hbt;have hk0:0<k:=hkp;have hq7:decide ((k:Int)<(sn:Int)-1)=true:=by simp;omega
       have hq8:decide (t'<100000)=true:=decide_eq_true htw;have HWt:=hI (show waitV l tab stops SG k t'=visV l tab stops SG k (t'+1) by unfold waitV;rw[HSGb.o,hq8,hq9,hq10,decide_eq_true (show 0<k from hk0),decide_eq_true (show k<stops.length-1 by have:=Hsn.o;omega)];rfl)
       have HVw:=hI (by
        have h5:=visit_any d l tab stops (w.heap.size+1) (w.heap.size+1) w.heap.size v7 SG ready k (t'+1) w7 HR7.o HSGi.o hk (by omega) (by have:=HSGm.o;unfold muR at this;omega) (HSb.o w7 HKW.o) (HSz.o w7 HKW.o);unfold moV at h5;exact h5)
       go_wp2_with (go_at_call 154;go_loud (refine HVw.o.mono ?_);rintro e9 w9 ⟨rfl,hx9,hk9⟩;have Hx9:=hI hx9;have Hk9:=hI hk9;clear hx9 hk9);obtain⟨v9,hr9,ho9⟩:=Hx9.o;have HF:=hI (show RInv l tab stops ready (visV l tab stops SG k (t'+1)) by rw[<- HWt.o];exact HSGi.o.wait HSGs.o);have HFm:=hI (show muR stops (visV l tab stops SG k (t'+1))<=3200032 from Nat.le_trans (mu_vis HF.o) HSGm.o);have HKf:=hI (HKs.o w7 w9 v7 v9 HKW.o HRWo.o Hk9.o ho9);go_roundw;case rel=>exact⟨visV l tab stops SG k (t'+1),v9,by rw[vis_best,HSGb.o],hI hr9,HF,HFm,hI (by rw[<- HWt.o,<-HStp.o];exact HDr.o),hI HKf.o.1,hI HKf.o.2⟩
       case measure=>rw[RIn.meas hr9,HMe.o];have h1:=mu_vis HF.o;have h2:=HSGm2.o;omega
      have hq10:decide (t'<bo)=false:=decide_eq_false hbt;have hk0:0<k:=hkp;have hq7:decide ((k:Int)<(sn:Int)-1)=true:=by simp;omega
      have hq8:decide (t'<100000)=true:=decide_eq_true htw;have HWt:=hI (show waitV l tab stops SG k t'=SG by unfold waitV;rw[HSGb.o,hq8,hq9,hq10,decide_eq_true (show 0<k from hk0),decide_eq_true (show k<stops.length-1 by have:=Hsn.o;omega)];rfl);have HF:=HSGi;go_wp2;go_roundw;case rel=>exact⟨SG,v7,by rw[HSGb.o],HR7,HSGi,HSGm,hI (by have h9:=HDr.o;rw[HStp.o,HWt.o] at h9;exact h9),HKW,HRWo⟩
      case measure=>rw[RIn.meas HR7.o,HMe.o];have h2:=HSGm2.o;omega
     have hq1:((k:Int)==(sn:Int)-1)=true:=by rw[<- hkl0];simp
     by_cases hbn0:bo<0
     ·have hq2:decide (bo<0)=true:=decide_eq_true hbn0;have HBv:=hI (show bestV stops ⟨s.seen,q',s.best⟩ k t'=t' by unfold bestV;simp only;rw[Hbo.o];rw[if_pos ⟨by have:=Hsn.o;omega,.inl hbn0⟩]);have m0:=W7.bc (j:=0) HX4.o rfl;have m1:=W7.bc (j:=1) HX4.o rfl;go_upto_region 13 with fail;clear m0 m1;have HiB:=hI (show RInv l tab stops ready ⟨s.seen,q',t'⟩ by rw[<- HBv.o];exact(hi.out.take hq.out).1.bst (hi.out.take hq.out).2);have HinB:=hI (show(k,t')∈(⟨s.seen,q',t'⟩:RSt).seen from(hi.out.take hq.out).2);have HmB:=hI (show muR stops (⟨s.seen,q',t'⟩:RSt)<=3200032 from Nat.le_trans (Nat.le_of_succ_le (Nat.le_of_eq (mu_take (stops:=stops) hq.out))) hmu.out);have HMe:=hI (show 2*(stops.length*100001-mapLen wr d.mb)+qLen wr (w.heap.size+1)=muR stops (⟨s.seen,q',t'⟩:RSt)+1 by rw[RIn.meas HRn.o];exact(mu_take (stops:=stops) hq.out).symm)
      have HR4:=hI (show RIn W4 d l tab stops (w.heap.size+1) (w.heap.size+1) v4 ⟨s.seen,q',t'⟩ from HR4'.o.rb rfl rfl);obtain⟨ob,hob⟩:∃x,onB l tab stops k t'=x:=⟨_,rfl⟩
      have HOn:=hI ((on_any d l tab stops k t' W4 HS4.o hk htk).mono (R':=fun e w'=>∃a b:Int,e= .returned (.tuple #[.agg #[.int .i64 a,.int .i64 b],.bool ob])/\(ob=true->a=(k:Int)+1/\b=t'+runK l stops k)/\Bl W4 w') (fun e w' ⟨⟨a,b,h1,h2⟩,h3⟩=>by rw[hob] at h1 h2;exact⟨a,b,h1,h2,h3⟩));have Hob:=hI hob;have sbx4:=HSb.o W4 HK4.o;have m0:=W7.bc (j:=0) HX4.o rfl;have m1:=W7.bc (j:=1) HX4.o rfl;clear hob;go_upto_region 14 with(go_at_call 91;go_loud (refine HOn.o.mono ?_);rintro e5 w5 ⟨a,b,rfl,hab,hb5⟩;have hs5:=hb5.size;have Hb5:=hI hb5;have Hab:=hI hab;clear hb5 hab)
      obtain⟨W6,hW6⟩:∃W6,W6=w5.alloc (.cells #[.int .i64 a,.int .i64 b] 136):=⟨_,rfl⟩
      have HB6:=hI (show Bl W4 W6 by rw[hW6];exact Hb5.o.alloc hs5 _);have HN6:=hI (show W6.heap[w5.heap.size]? =some (.cells #[.int .i64 a,.int .i64 b] 136 (0,0)) by rw[hW6];exact heap_alloc_new _ _);rw[<- hW6];clear hW6 m0 m1 sbx4;have HRB:=hI (show RIn W6 d l tab stops (w.heap.size+1) (w.heap.size+1) v4 ⟨s.seen,q',t'⟩ from(HR4.o.below HB6.o));have HX6:=hI ((HB6.o.block _ (blk_lt HX4.o)).trans HX4.o);have HK6:=hI (show KeptS W0 W6 (fun i=>i=d.mb\/i=w.heap.size+1) from HK4.o.trans (KeptS.of_below HB6.o));have hobf:ob=false:=by rw[<- Hob.o];unfold onB;rw[decide_eq_false (by have:=Hsn.o;omega)];rfl
      subst hobf;obtain⟨SG,hSG⟩:∃x,goV l tab stops ⟨s.seen,q',t'⟩ k t'=x:=⟨_,rfl⟩
      have HSGi:=hI (show RInv l tab stops ready SG by rw[<- hSG];exact HiB.o.go HinB.o);have HSGs:=hI (show(k,t')∈SG.seen by rw[<- hSG];exact go_seen HinB.o);have HSGm2:=hI (show muR stops SG<=muR stops (⟨s.seen,q',t'⟩:RSt) by rw[<- hSG];exact mu_go HiB.o HinB.o);have HSGm:=hI (show muR stops SG<=3200032 from Nat.le_trans HSGm2.o HmB.o);have HSGb:=hI (show SG.best=t' by rw[<- hSG];unfold goV;split;exact vis_best;rfl);have HStp:=hI (show stepV l tab stops ⟨s.seen,q',s.best⟩ k t'=waitV l tab stops SG k t' by show waitV l tab stops (goV l tab stops ⟨s.seen,q',bestV stops ⟨s.seen,q',s.best⟩ k t'⟩ k t') k t'=_;rw[HBv.o,hSG]);rw[show goV l tab stops ⟨s.seen,q',t'⟩ k t'=⟨s.seen,q',t'⟩ by unfold goV;rw[if_neg (by rw[Hob.o];decide)]] at hSG;rw[hSG] at HRB;clear hSG;have HKW:=HK6;have HRWo:=HRo4;have m0:=W7.bc (j:=0) HX6.o rfl;have m1:=W7.bc (j:=1) HX6.o rfl
      by_cases hkp:0<k
      rotate_left
      ·have hkz:=hkp;have hk0: ¬ 0<k:=hkz;have HWt:=hI (show waitV l tab stops SG k t'=SG by unfold waitV;rw[decide_eq_false hk0];rfl);have HF:=HSGi;go_wp2;go_roundw;case rel=>exact⟨SG,v4,by rw[HSGb.o],HRB,HSGi,HSGm,hI (by have h9:=HDr.o;rw[HStp.o,HWt.o] at h9;exact h9),HKW,HRWo⟩
       case measure=>rw[RIn.meas HRB.o,HMe.o];have h2:=HSGm2.o;omega
      have hk0:0<k:=hkp;have hq7:decide ((k:Int)<(sn:Int)-1)=false:=by simp;omega
      have HWt:=hI (show waitV l tab stops SG k t'=SG by unfold waitV;rw[decide_eq_false (show ¬k<stops.length-1 by have:=Hsn.o;omega),Bool.and_false];rfl);have HF:=HSGi;go_wp2;go_roundw;case rel=>exact⟨SG,v4,by rw[HSGb.o],HRB,HSGi,HSGm,hI (by have h9:=HDr.o;rw[HStp.o,HWt.o] at h9;exact h9),HKW,HRWo⟩
      case measure=>rw[RIn.meas HRB.o,HMe.o];have h2:=HSGm2.o;omega
     have hq2:decide (bo<0)=false:=decide_eq_false hbn0
     by_cases hbt0:t'<bo
     ·have hq3:decide (t'<bo)=true:=decide_eq_true hbt0;have HBv:=hI (show bestV stops ⟨s.seen,q',s.best⟩ k t'=t' by unfold bestV;simp only;rw[Hbo.o];rw[if_pos ⟨by have:=Hsn.o;omega,.inr hbt0⟩]);have m0:=W7.bc (j:=0) HX4.o rfl;have m1:=W7.bc (j:=1) HX4.o rfl;go_upto_region 13 with fail;clear m0 m1;have HiB:=hI (show RInv l tab stops ready ⟨s.seen,q',t'⟩ by rw[<- HBv.o];exact(hi.out.take hq.out).1.bst (hi.out.take hq.out).2);have HinB:=hI (show(k,t')∈(⟨s.seen,q',t'⟩:RSt).seen from(hi.out.take hq.out).2);have HmB:=hI (show muR stops (⟨s.seen,q',t'⟩:RSt)<=3200032 from Nat.le_trans (Nat.le_of_succ_le (Nat.le_of_eq (mu_take (stops:=stops) hq.out))) hmu.out);have HMe:=hI (show 2*(stops.length*100001-mapLen wr d.mb)+qLen wr (w.heap.size+1)=muR stops (⟨s.seen,q',t'⟩:RSt)+1 by rw[RIn.meas HRn.o];exact(mu_take (stops:=stops) hq.out).symm)
      have HR4:=hI (show RIn W4 d l tab stops (w.heap.size+1) (w.heap.size+1) v4 ⟨s.seen,q',t'⟩ from HR4'.o.rb rfl rfl);obtain⟨ob,hob⟩:∃x,onB l tab stops k t'=x:=⟨_,rfl⟩
      have HOn:=hI ((on_any d l tab stops k t' W4 HS4.o hk htk).mono (R':=fun e w'=>∃a b:Int,e= .returned (.tuple #[.agg #[.int .i64 a,.int .i64 b],.bool ob])/\(ob=true->a=(k:Int)+1/\b=t'+runK l stops k)/\Bl W4 w') (fun e w' ⟨⟨a,b,h1,h2⟩,h3⟩=>by rw[hob] at h1 h2;exact⟨a,b,h1,h2,h3⟩));have Hob:=hI hob;have sbx4:=HSb.o W4 HK4.o;have m0:=W7.bc (j:=0) HX4.o rfl;have m1:=W7.bc (j:=1) HX4.o rfl;clear hob;go_upto_region 14 with(go_at_call 91;go_loud (refine HOn.o.mono ?_);rintro e5 w5 ⟨a,b,rfl,hab,hb5⟩;have hs5:=hb5.size;have Hb5:=hI hb5;have Hab:=hI hab;clear hb5 hab)
      obtain⟨W6,hW6⟩:∃W6,W6=w5.alloc (.cells #[.int .i64 a,.int .i64 b] 136):=⟨_,rfl⟩
      have HB6:=hI (show Bl W4 W6 by rw[hW6];exact Hb5.o.alloc hs5 _);have HN6:=hI (show W6.heap[w5.heap.size]? =some (.cells #[.int .i64 a,.int .i64 b] 136 (0,0)) by rw[hW6];exact heap_alloc_new _ _);rw[<- hW6];clear hW6 m0 m1 sbx4;have HRB:=hI (show RIn W6 d l tab stops (w.heap.size+1) (w.heap.size+1) v4 ⟨s.seen,q',t'⟩ from(HR4.o.below HB6.o));have HX6:=hI ((HB6.o.block _ (blk_lt HX4.o)).trans HX4.o);have HK6:=hI (show KeptS W0 W6 (fun i=>i=d.mb\/i=w.heap.size+1) from HK4.o.trans (KeptS.of_below HB6.o));have hobf:ob=false:=by rw[<- Hob.o];unfold onB;rw[decide_eq_false (by have:=Hsn.o;omega)];rfl
      subst hobf;obtain⟨SG,hSG⟩:∃x,goV l tab stops ⟨s.seen,q',t'⟩ k t'=x:=⟨_,rfl⟩
      have HSGi:=hI (show RInv l tab stops ready SG by rw[<- hSG];exact HiB.o.go HinB.o);have HSGs:=hI (show(k,t')∈SG.seen by rw[<- hSG];exact go_seen HinB.o);have HSGm2:=hI (show muR stops SG<=muR stops (⟨s.seen,q',t'⟩:RSt) by rw[<- hSG];exact mu_go HiB.o HinB.o);have HSGm:=hI (show muR stops SG<=3200032 from Nat.le_trans HSGm2.o HmB.o);have HSGb:=hI (show SG.best=t' by rw[<- hSG];unfold goV;split;exact vis_best;rfl);have HStp:=hI (show stepV l tab stops ⟨s.seen,q',s.best⟩ k t'=waitV l tab stops SG k t' by show waitV l tab stops (goV l tab stops ⟨s.seen,q',bestV stops ⟨s.seen,q',s.best⟩ k t'⟩ k t') k t'=_;rw[HBv.o,hSG]);rw[show goV l tab stops ⟨s.seen,q',t'⟩ k t'=⟨s.seen,q',t'⟩ by unfold goV;rw[if_neg (by rw[Hob.o];decide)]] at hSG;rw[hSG] at HRB;clear hSG;have HKW:=HK6;have HRWo:=HRo4;have m0:=W7.bc (j:=0) HX6.o rfl;have m1:=W7.bc (j:=1) HX6.o rfl
      by_cases hkp:0<k
      rotate_left
      ·have hkz:=hkp;have hk0: ¬ 0<k:=hkz;have HWt:=hI (show waitV l tab stops SG k t'=SG by unfold waitV;rw[decide_eq_false hk0];rfl);have HF:=HSGi;go_wp2;go_roundw;case rel=>exact⟨SG,v4,by rw[HSGb.o],HRB,HSGi,HSGm,hI (by have h9:=HDr.o;rw[HStp.o,HWt.o] at h9;exact h9),HKW,HRWo⟩
       case measure=>rw[RIn.meas HRB.o,HMe.o];have h2:=HSGm2.o;omega
      have hk0:0<k:=hkp;have hq7:decide ((k:Int)<(sn:Int)-1)=false:=by simp;omega
      have HWt:=hI (show waitV l tab stops SG k t'=SG by unfold waitV;rw[decide_eq_false (show ¬k<stops.length-1 by have:=Hsn.o;omega),Bool.and_false];rfl);have HF:=HSGi;go_wp2;go_roundw;case rel=>exact⟨SG,v4,by rw[HSGb.o],HRB,HSGi,HSGm,hI (by have h9:=HDr.o;rw[HStp.o,HWt.o] at h9;exact h9),HKW,HRWo⟩
      case measure=>rw[RIn.meas HRB.o,HMe.o];have h2:=HSGm2.o;omega
     have hq3:decide (t'<bo)=false:=decide_eq_false hbt0;have HBv:=hI (show bestV stops ⟨s.seen,q',s.best⟩ k t'=bo by unfold bestV;simp only;rw[Hbo.o];rw[if_neg (fun h=>h.2.elim hbn0 hbt0)]);have m0:=W7.bc (j:=0) HX4.o rfl;have m1:=W7.bc (j:=1) HX4.o rfl;go_upto_region 13 with fail;clear m0 m1;have HiB:=hI (show RInv l tab stops ready ⟨s.seen,q',bo⟩ by rw[<- HBv.o];exact(hi.out.take hq.out).1.bst (hi.out.take hq.out).2);have HinB:=hI (show(k,t')∈(⟨s.seen,q',bo⟩:RSt).seen from(hi.out.take hq.out).2);have HmB:=hI (show muR stops (⟨s.seen,q',bo⟩:RSt)<=3200032 from Nat.le_trans (Nat.le_of_succ_le (Nat.le_of_eq (mu_take (stops:=stops) hq.out))) hmu.out);have HMe:=hI (show 2*(stops.length*100001-mapLen wr d.mb)+qLen wr (w.heap.size+1)=muR stops (⟨s.seen,q',bo⟩:RSt)+1 by rw[RIn.meas HRn.o];exact(mu_take (stops:=stops) hq.out).symm)
     have HR4:=hI (show RIn W4 d l tab stops (w.heap.size+1) (w.heap.size+1) v4 ⟨s.seen,q',bo⟩ from HR4'.o.rb rfl rfl);obtain⟨ob,hob⟩:∃x,onB l tab stops k t'=x:=⟨_,rfl⟩
     have HOn:=hI ((on_any d l tab stops k t' W4 HS4.o hk htk).mono (R':=fun e w'=>∃a b:Int,e= .returned (.tuple #[.agg #[.int .i64 a,.int .i64 b],.bool ob])/\(ob=true->a=(k:Int)+1/\b=t'+runK l stops k)/\Bl W4 w') (fun e w' ⟨⟨a,b,h1,h2⟩,h3⟩=>by rw[hob] at h1 h2;exact⟨a,b,h1,h2,h3⟩));have Hob:=hI hob;have sbx4:=HSb.o W4 HK4.o;have m0:=W7.bc (j:=0) HX4.o rfl;have m1:=W7.bc (j:=1) HX4.o rfl;clear hob;go_upto_region 14 with(go_at_call 91;go_loud (refine HOn.o.mono ?_);rintro e5 w5 ⟨a,b,rfl,hab,hb5⟩;have hs5:=hb5.size;have Hb5:=hI hb5;have Hab:=hI hab;clear hb5 hab)
     obtain⟨W6,hW6⟩:∃W6,W6=w5.alloc (.cells #[.int .i64 a,.int .i64 b] 136):=⟨_,rfl⟩
     have HB6:=hI (show Bl W4 W6 by rw[hW6];exact Hb5.o.alloc hs5 _);have HN6:=hI (show W6.heap[w5.heap.size]? =some (.cells #[.int .i64 a,.int .i64 b] 136 (0,0)) by rw[hW6];exact heap_alloc_new _ _);rw[<- hW6];clear hW6 m0 m1 sbx4;have HRB:=hI (show RIn W6 d l tab stops (w.heap.size+1) (w.heap.size+1) v4 ⟨s.seen,q',bo⟩ from(HR4.o.below HB6.o));have HX6:=hI ((HB6.o.block _ (blk_lt HX4.o)).trans HX4.o);have HK6:=hI (show KeptS W0 W6 (fun i=>i=d.mb\/i=w.heap.size+1) from HK4.o.trans (KeptS.of_below HB6.o));have hobf:ob=false:=by rw[<- Hob.o];unfold onB;rw[decide_eq_false (by have:=Hsn.o;omega)];rfl
     subst hobf;obtain⟨SG,hSG⟩:∃x,goV l tab stops ⟨s.seen,q',bo⟩ k t'=x:=⟨_,rfl⟩
     have HSGi:=hI (show RInv l tab stops ready SG by rw[<- hSG];exact HiB.o.go HinB.o);have HSGs:=hI (show(k,t')∈SG.seen by rw[<- hSG];exact go_seen HinB.o);have HSGm2:=hI (show muR stops SG<=muR stops (⟨s.seen,q',bo⟩:RSt) by rw[<- hSG];exact mu_go HiB.o HinB.o);have HSGm:=hI (show muR stops SG<=3200032 from Nat.le_trans HSGm2.o HmB.o);have HSGb:=hI (show SG.best=bo by rw[<- hSG];unfold goV;split;exact vis_best;rfl);have HStp:=hI (show stepV l tab stops ⟨s.seen,q',s.best⟩ k t'=waitV l tab stops SG k t' by show waitV l tab stops (goV l tab stops ⟨s.seen,q',bestV stops ⟨s.seen,q',s.best⟩ k t'⟩ k t') k t'=_;rw[HBv.o,hSG]);rw[show goV l tab stops ⟨s.seen,q',bo⟩ k t'=⟨s.seen,q',bo⟩ by unfold goV;rw[if_neg (by rw[Hob.o];decide)]] at hSG;rw[hSG] at HRB;clear hSG;have HKW:=HK6;have HRWo:=HRo4;have m0:=W7.bc (j:=0) HX6.o rfl;have m1:=W7.bc (j:=1) HX6.o rfl
     by_cases hkp:0<k
     rotate_left
     ·have hkz:=hkp;have hk0: ¬ 0<k:=hkz;have HWt:=hI (show waitV l tab stops SG k t'=SG by unfold waitV;rw[decide_eq_false hk0];rfl);have HF:=HSGi;go_wp2;go_roundw;case rel=>exact⟨SG,v4,by rw[HSGb.o],HRB,HSGi,HSGm,hI (by have h9:=HDr.o;rw[HStp.o,HWt.o] at h9;exact h9),HKW,HRWo⟩
      case measure=>rw[RIn.meas HRB.o,HMe.o];have h2:=HSGm2.o;omega
     have hk0:0<k:=hkp;have hq7:decide ((k:Int)<(sn:Int)-1)=false:=by simp;omega
     have HWt:=hI (show waitV l tab stops SG k t'=SG by unfold waitV;rw[decide_eq_false (show ¬k<stops.length-1 by have:=Hsn.o;omega),Bool.and_false];rfl);have HF:=HSGi;go_wp2;go_roundw;case rel=>exact⟨SG,v4,by rw[HSGb.o],HRB,HSGi,HSGm,hI (by have h9:=HDr.o;rw[HStp.o,HWt.o] at h9;exact h9),HKW,HRWo⟩
     case measure=>rw[RIn.meas HRB.o,HMe.o];have h2:=HSGm2.o;omega
  ·have HNx:=hI (show RV=s.best by rw[<- HGo.o];exact reach_end (by omega));have HE:=hI (HEnd.o wr HK.o);go_wp2;go_ret;exact⟨ret_int HNx.o.symm,HE.o⟩
end Go.Proofs.YtjpgnfekbojcaaaGreat
