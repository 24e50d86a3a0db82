/- Where a train's stay leads to (leads,leaves). -/
import Derived.Test.YtjpgnfekbojcaaaGreatWOn
set_option maxHeartbeats 16000000
set_option maxRecDepth 100000
namespace Go.Proofs.YtjpgnfekbojcaaaGreat
open Go.RowKit W7 W8
attribute [local go_sem] Oper.semAt_some
theorem runK_bd {l:Line} {stops:List Int} (hl:lineErr l=0) (h:StOk l stops) {k:Nat} (hk:k+1<stops.length):1<=runK l stops k/\runK l stops k<=1000:=by
 have h1:=h.at' k (by omega);have h2:=h.at' (k+1) hk;have h3:=h.step k hk;have h4:=(line_ok hl).2.2.1;have h5:=run_at hl (i:=(secK stops k).toNat) (by unfold secK;omega);exact h5
structure EndsIn (X:World) (l:Line) (tab:List (List TCall)) (stops:List Int) (best:Int) (eb:Nat) (E:List (Nat×Int)):Prop where
 map:MapIn X eb E (canB l tab stops best)
 nd:E.Nodup
 rg:∀p∈E,p.1<stops.length/\0<=p.2/\p.2<=best
 hb:best<=100000
 hs:stops.length<=16
section
variable {X Y:World} {l:Line} {tab:List (List TCall)} {stops:List Int} {best:Int} {eb:Nat} {E:List (Nat×Int)}
theorem EndsIn.len (h:EndsIn X l tab stops best eb E):E.length<1000000000:=by
 have h1:=nodup_lt (stops.length*100001) (E.map (fun m=>m.1*100001+m.2.toNat)) (by
  rw[List.Nodup,List.pairwise_map];refine(List.Pairwise.and_mem.1 h.nd).imp ?_;intro a b ⟨ha,hb,hne⟩ he;have h1:=h.rg a ha;have h2:=h.rg b hb;have:=h.hb;apply hne;apply Prod.ext
  ·omega
  ·omega) (fun x hx=>by
  obtain⟨m,hm,rfl⟩:=List.mem_map.1 hx;have h1:=h.rg m hm;have:=h.hb;have h2:(m.1+1)*100001<=stops.length*100001:=Nat.mul_le_mul_right _ h1.1;omega)
 rw[List.length_map] at h1;have:=h.hs;have h3:stops.length*100001<=16*100001:=Nat.mul_le_mul_right _ this;omega
theorem EndsIn.ins {k:Nat} {t:Int} (h:EndsIn X l tab stops best eb E) (hm:MapIn Y eb (insK E (k,t)) (canB l tab stops best)) (hk:k<stops.length) (h0:0<=t) (hle:t<=best):EndsIn Y l tab stops best eb (insK E (k,t)):=
 ⟨hm,insK_nodup h.nd,fun p hp=>(insK_mem.1 hp).elim (fun e=>by rw[e];exact⟨hk,h0,hle⟩) (h.rg p),h.hb,h.hs⟩
theorem EndsIn.below (h:EndsIn X l tab stops best eb E) (hb:Bl X Y):EndsIn Y l tab stops best eb E:=⟨h.map.below hb,h.nd,h.rg,h.hb,h.hs⟩
end
structure LeadR (l:Line) (tab:List (List TCall)) (stops:List Int) (best:Int) (k:Nat) (t:Int) (eb:Nat) (E:List (Nat×Int)) (w:World) (e:Ending) (w':World):Prop where
 val:e= .returned (.bool (canB l tab stops best k t))
 g:w.grownBy w' (some eb)
 ex:∃E',EndsIn w' l tab stops best eb E'/\∀p∈E,p∈E'
structure LeaveR (l:Line) (tab:List (List TCall)) (stops:List Int) (best:Int) (k:Nat) (t:Int) (eb:Nat) (E:List (Nat×Int)) (w:World) (e:Ending) (w':World):Prop where
 val:e= .returned (.bool (leavesB l tab stops best k t))
 g:w.grownBy w' (some eb)
 ex:∃E',EndsIn w' l tab stops best eb E'/\∀p∈E,p∈E'
theorem leaves1_any (d:SrD) (l:Line) (tab:List (List TCall)) (stops:List Int) (best:Int) (k:Nat) (t:Int) (E:List (Nat×Int)) (w:World) (h:SrIn w d l tab stops) (hE:EndsIn w l tab stops best d.eb E) (hk:k<stops.length) (ht:0<=t/\t<=100000)
  (ih:k+1<stops.length->∀(t':Int) (X:World) (E':List (Nat×Int)),SrIn X d l tab stops->EndsIn X l tab stops best d.eb E'->0<=t'->t'<=200000->Calls Tryz.prog 89 #[.pointer (some ⟨d.sg,0,none⟩),moV (k+1) t',.int .i64 best] X (LeadR l tab stops best (k+1) t' d.eb E' X)) :
  Calls Tryz.prog 90 #[.pointer (some ⟨d.sg,0,none⟩),moV k t,.int .i64 best] w (LeaveR l tab stops best k t d.eb E w):=by
 obtain⟨W0,hW0⟩:=eY (w.alloc (.cells #[.int .i64 (k:Int),.int .i64 t] 136));have hs0:W0.heap.size=w.heap.size+1:=by rw[hW0];simp
 have HB0:=hI (show Bl w W0 by rw[hW0];exact(zX _ _).alloc (zm _) _);have Q0:=hI (show W0.heap[w.heap.size]? =some (.cells #[.int .i64 (k:Int),.int .i64 t] 136 (0,0)) by rw[hW0];exact zW _ _);have HS:=hI (fun(X:World) (hX:Bl w X)=>h.below hX);have HE:=hI (fun(X:World) (hX:Bl w X)=>hE.below hX);obtain⟨ob,hob⟩:=eX (onB l tab stops k t);have HOn:=hI ((on_any d l tab stops k t W0 (h.below HB0.o) hk ht).mono (R':=fun e w'=>∃a b:Int,e= .returned (.tuple #[.agg #[.int .i64 a,.int .i64 b],.bool ob])/\(ob=true->a=(k:Int)+1/\b=t+runK l stops k)/\Bl W0 w') (fun e w' ⟨⟨a,b,h1,h2⟩,h3⟩=>by rw[hob] at h1 h2;exact⟨a,b,h1,h2,h3⟩));have HIh:=hI ih;have Hk:=hI (show ob=true->k+1<stops.length/\(1<=runK l stops k/\runK l stops k<=1000) from fun h1=>⟨onB_lt (hob.trans h1),runK_bd h.ok.line h.st (onB_lt (hob.trans h1))⟩)
 have HV:=hI (show leavesB l tab stops best k t=(ob&&(decide (t+runK l stops k<=best)&&canB l tab stops best (k+1) (t+runK l stops k))) by unfold leavesB;rw[hob]);obtain⟨lv,hlv⟩:=eX (leavesB l tab stops best k t);have HEnd:=hI (show ∀(v:Bool) (X:World),leavesB l tab stops best k t=v->Bl w X->LeaveR l tab stops best k t d.eb E w (.returned (.bool v)) X from fun v X hv hX=>⟨by rw[hv],grown_of_below hX _,E,hE.below hX,fun p hp=>hp⟩);have HEnd2:=hI (show ∀(v:Bool) (X Y:World) (E':List (Nat×Int)),leavesB l tab stops best k t=v->Bl w X->X.grownBy Y (some d.eb)->EndsIn Y l tab stops best d.eb E'->(∀p∈E,p∈E')->LeaveR l tab stops best k t d.eb E w (.returned (.bool v)) Y from fun v X Y E' hv hX hg h1 h2=>⟨by rw[hv],grown_trans (grown_of_below hX _) hg,E',h1,h2⟩);have HW0:=hI hW0;obtain⟨sg,hsg⟩:=eX d.sg;rw[hsg] at HOn;have Hsg:=hI hsg;have q0:=kC 0 Q0.out rfl;have q1:=kC 1 Q0.out rfl
 obtain⟨ht0,ht1⟩:=ht;unfold moV;rw[hsg];clear hW0 h hE hob ih hlv hsg;go_enter Tryz.func90,Tryz.ntmps90;go_upto_region 1 with fail;rw[<- HW0.o];go_upto_region 2 with(go_at_call 91;go_loud (refine HOn.o.mono ?_);rintro e w1 ⟨a,b,rfl,hab,hb1⟩;have hs1:=hb1.size;have Hb1:=hI hb1;have Hab:=hI hab;clear hb1 hab)
 obtain⟨W2,hW2⟩:=eY (w1.alloc (.cells #[.int .i64 a,.int .i64 b] 136));have HB2:=hI (show Bl w W2 by rw[hW2];exact(HB0.o.trans (Hb1.o.mono (by omega))).alloc (by omega) _);have hQ2:W2.heap[w1.heap.size]? =some (.cells #[.int .i64 a,.int .i64 b] 136 (0,0)):=by rw[hW2];exact zW _ _
 rw[<- hW2];clear hW2 q0 q1;have r0:=kC 0 hQ2 rfl;have r1:=kC 1 hQ2 rfl;clear hQ2;cases ob
 ·have HR:=hI (HEnd.o false W2 (by rw[HV.o];rfl) HB2.o);go_wp2;go_ret;exact HR.o
 obtain⟨rfl,hb⟩:=Hab.o rfl;have hkk:=Hk.o rfl;have hrb:=hkk.2;obtain⟨rn,hrn⟩:=eX (runK l stops k);rw[hrn] at hb hrb;have HV2:=hI (show leavesB l tab stops best k t=(decide (b<=best)&&canB l tab stops best (k+1) b) by rw[HV.o,hrn,<-hb];rfl);have hb0:0<=b/\b<=101000:=by omega
 obtain⟨hb1,hb2⟩:=hb0;clear hb hrn
 by_cases hle:b<=best
 ·have hd:decide (b<=best)=true:=zD hle
  have HL:=hI (by
   have h5:=HIh.o hkk.1 b W2 E (HS.o W2 HB2.o) (HE.o W2 HB2.o) hb1 (by omega);unfold moV at h5;rw[Hsg.o,show((k+1:Nat):Int)=(k:Int)+1 from rfl] at h5;exact h5)
  have HV3:=hI (show leavesB l tab stops best k t=canB l tab stops best (k+1) b by rw[HV2.o,hd];rfl);obtain⟨cv,hcv⟩:=eX (canB l tab stops best (k+1) b);have Hcv:=hI hcv;clear hcv;go_wp2_with (go_at_call 89;go_loud (refine HL.o.mono ?_);rintro e w3 ⟨rfl,hg3,hx3⟩;have Hg3:=hI hg3;have Hx3:=hI hx3;clear hg3 hx3;go_loud (rw[Hcv.o]))
  have HR:=hI (by
   obtain⟨E',h6,h7⟩:=Hx3.o;exact HEnd2.o cv W2 w3 E' (HV3.o.trans Hcv.o) HB2.o Hg3.o h6 h7)
  go_ret;exact HR.o
 ·have hd:decide (b<=best)=false:=zE hle;have HR:=hI (HEnd.o false W2 (by rw[HV2.o,hd];rfl) HB2.o);go_wp2;go_ret;exact HR.o
theorem leads1_any (d:SrD) (l:Line) (tab:List (List TCall)) (stops:List Int) (best:Int) (k:Nat) (t:Int) (E:List (Nat×Int)) (w:World) (h:SrIn w d l tab stops) (hE:EndsIn w l tab stops best d.eb E) (hk:k<stops.length) (ht:0<=t/\t<=200000) (hbt:0<=best/\best<=100000) (hBe:d.B<=d.eb)
  (hlv:k+1<stops.length->∀(t':Int) (X:World) (E':List (Nat×Int)),SrIn X d l tab stops->EndsIn X l tab stops best d.eb E'->0<=t'/\t'<=100000->Calls Tryz.prog 90 #[.pointer (some ⟨d.sg,0,none⟩),moV k t',.int .i64 best] X (LeaveR l tab stops best k t' d.eb E' X)) :
  Calls Tryz.prog 89 #[.pointer (some ⟨d.sg,0,none⟩),moV k t,.int .i64 best] w (LeadR l tab stops best k t d.eb E w):=by
 obtain⟨W0,hW0⟩:=eY (w.alloc (.cells #[.int .i64 (k:Int),.int .i64 t] 136));have hs0:W0.heap.size=w.heap.size+1:=by rw[hW0];simp
 have HB0:=hI (show Bl w W0 by rw[hW0];exact(zX _ _).alloc (zm _) _);have Q0:=hI (show W0.heap[w.heap.size]? =some (.cells #[.int .i64 (k:Int),.int .i64 t] 136 (0,0)) by rw[hW0];exact zW _ _);have hel:=hE.map.lt;have HS:=hI (show ∀X,W0.grownBy X (some d.eb)->SrIn X d l tab stops from fun X hX=>(h.below HB0.o).grown hX hBe (hE.map.below HB0.o).alien);have HE0:=hI (hE.below HB0.o);have HLv:=hI hlv;have HBe:=hI hBe;obtain⟨sn,hsn⟩:=eX stops.length;have Hsn:=hI hsn;have hs16:=hE.hs;have hpc:=own_caps1 h.sp;obtain⟨pb,hPA,_,_⟩:=h.stop hk;rw[hsn] at hpc hs16;have hksn:k<sn:=by rw[<- hsn];exact hk
 have HK:=hI (show ∀X,W0.grownBy X (some d.eb)->X.heap[d.sg]? =some (.cells #[.pointer (some ⟨d.g,0,none⟩),.slice (some ⟨pb,0,none⟩) sn d.pc,.map (some d.mb),.map (some d.eb)] 133 (0,0)) from fun X hX=>by have h5:=(HS.o X hX).blk;rw[hsn,hPA] at h5;exact h5)
 have hsge:d.sg≠d.eb:=fun e=>by
  have h5:=hE.map.alien _ _ (by rw[<- e];exact h.blk);exact h5.1 rfl
 have HW0:=hI hW0;have q0:=kC 0 Q0.out rfl;have q1:=kC 1 Q0.out rfl;obtain⟨ht0,ht1⟩:=ht;obtain⟨hb0,hb1⟩:=hbt;obtain⟨cv,hcv⟩:=eX (canB l tab stops best k t);have HR:=hI (show ∀(X:World) (E':List (Nat×Int)),W0.grownBy X (some d.eb)->EndsIn X l tab stops best d.eb E'->(∀p∈E,p∈E')->LeadR l tab stops best k t d.eb E w (.returned (.bool cv)) X from fun X E' hX h1 h2=>⟨by rw[hcv],grown_trans (grown_of_below HB0.o _) hX,E',h1,h2⟩);have Hcv:=hI hcv;unfold moV;clear hW0 h hE hlv hcv hPA hsn hBe;go_enter Tryz.func89,Tryz.ntmps89;go_upto_region 1 with fail;rw[<- HW0.o];clear q0 q1;go_wp2;go_loopw [7] (fun v7 wr=>∃(tt:Int) (E':List (Nat×Int)),tt<=best/\(t-1<=tt\/tt=best)/\v7= .int .i64 tt/\Hid (W0.grownBy wr (some d.eb))/\Hid (EndsIn wr l tab stops best d.eb E')/\Hid (∀x:Int,tt<x->x<=best->(k,x)∈E')/\Hid (∀p∈E,p∈E')) (fun v7 _=>(intOf v7-t+1).toNat)
 case atStart=>exact⟨best,E,Int.le_refl _,.inr rfl,rfl,hI (World.grownBy.refl _ _),HE0,hI (fun x h1 h2=>absurd h1 (by omega)),hI (fun p hp=>hp)⟩
 case round=>
  obtain⟨tt,E',hle,hlo,rfl,HG,HE,HUp,HSb⟩:=hrel;have hsr:=HG.o.size;have hq:=(HG.o.block w.heap.size (by omega) (fun e=>by have:=zJ e;omega)).trans Q0.out;have q0:=kC 0 hq rfl;have q1:=kC 1 hq rfl
  by_cases hlt:t<=tt
  ·have htt:0<=tt/\tt<=100000:=by omega
   obtain⟨htt0,htt1⟩:=htt;have Hkb:=hI (show KeyB k tt from⟨by omega,by omega,by omega⟩);obtain⟨W4,hW4⟩:=eY (wr.alloc (.cells #[.int .i64 (k:Int),.int .i64 tt] 136));have hs4:wr.heap.size<W4.heap.size:=by rw[hW4];simp
   have hb4:Bl wr W4:=by rw[hW4];exact(zX _ _).alloc (zm _) _
   have Hb4:=hI hb4;have HX4:=hI (show W4.heap[wr.heap.size]? =some (.cells #[.int .i64 (k:Int),.int .i64 tt] 136 (0,0)) by rw[hW4];exact zW _ _);have HG4:=hI (show W0.grownBy W4 (some d.eb) from grown_trans HG.o (grown_of_below hb4 _));have hk4:=HK.o W4 HG4.o;have y0:=zV (kC 3 hk4 rfl) (blk_lt hk4);have y1:=zV (kC 0 HX4.o rfl) hs4;have y2:=zV (kC 1 HX4.o rfl) hs4;obtain⟨ct,hct⟩:=eX (E'.contains (k,tt));have HCt:=hI hct;obtain⟨cc,hcc⟩:=eX (ct&&canB l tab stops best k tt)
   have yl:∀e:Later W4,(Instr.lookup 131 (.map (some d.eb)) (.agg #[.int .i64 (k:Int),.int .i64 tt]) true).run Tryz.prog e.w= .ok (.tuple #[.bool cc,.bool ct]) e.w:=fun e=>by
    have h5:=((HE.o.below hb4).below e.b).map.look_ok Hkb.o;rw[hct,hcc] at h5;exact h5
   clear hct hcc hb4 hk4 hq;go_upto_region 5 with fail;rw[<- hW4];clear hW4;refine wp_region_later (by kernel_rfl) (by kernel_rfl) ?_
   repeat (any_goals (first | go_big_quiet_step ((fail)) | quiet_step ((fail))))
   refine wpQuiet_nil ?_;rintro w' ⟨e5,rfl⟩;obtain⟨W5,hW5⟩:=eY e5.w;have HB4:=hI (show Bl wr W5 by rw[hW5];exact Hb4.o.trans (e5.b.mono (by omega)));have HX5:=hI (show W5.heap[wr.heap.size]? =some (.cells #[.int .i64 (k:Int),.int .i64 tt] 136 (0,0)) by rw[hW5];exact(e5.b.block _ hs4).trans HX4.o);rw[<- hW5];clear hW5 y0 y1 y2 yl q0 q1;have HG5:=hI (show W0.grownBy W5 (some d.eb) from grown_trans HG.o (grown_of_below HB4.o _));have HE5:=hI (HE.o.below HB4.o);cases ct;rotate_left
   ·have HUn:=hI (show ∀x:Int,tt-1<x->x<=best->(k,x)∈E' from fun x h1 h2=>by
     by_cases hx:x=tt
     ·subst hx;exact List.contains_iff_mem.1 HCt.o
     ·exact HUp.o x (by omega) h2)
    go_wp2;go_roundw;case rel=>exact⟨tt-1,E',by omega,by omega,by go_num,HG5,HE5,HUn,HSb⟩
    case measure=>simp[intOf];omega
   have HS5:=hI (HS.o W5 HG5.o);have ha5:=HE5.o.map.alien;obtain⟨ME,hME⟩:∃ME:World->Prop,ME=fun W=>∃E2,EndsIn W l tab stops best d.eb E2/\∀p∈E',p∈E2:=⟨_,rfl⟩
   have HMe:=hI (show ∀W,ME W->∃E2,EndsIn W l tab stops best d.eb E2/\∀p∈E',p∈E2 from fun W hW=>by rw[hME] at hW;exact hW);have HMi:=hI (show ∀W,(∃E2,EndsIn W l tab stops best d.eb E2/\∀p∈E',p∈E2)->ME W from fun W hW=>by rw[hME];exact hW)
   have HMb:=hI (show ∀X Y,ME X->Bl X Y->ME Y from fun X Y hX hb=>by
    obtain⟨E2,h1,h2⟩:=HMe.o X hX;exact HMi.o Y ⟨E2,h1.below hb,h2⟩)
   have HM0:=hI (show ME { W5 with drawn:=W5.drawn+1 } from HMi.o _ ⟨E',⟨HE5.o.map.kept rfl,HE5.o.nd,HE5.o.rg,HE5.o.hb,HE5.o.hs⟩,fun p hp=>hp⟩)
   haveI hne5:Nonempty (ELater W5 d.eb ME):=⟨⟨W5,World.grownBy.refl _ _,HMi.o W5 ⟨E',HE5.o,fun p hp=>hp⟩⟩⟩
   have HSe:=hI (fun(e:ELater W5 d.eb ME)=>HS5.o.grown e.g HBe.o ha5);have hk5:=HK.o W5 HG5.o;have hwr5:wr.heap.size<W5.heap.size:=by have:=blk_lt HX5.o;omega
   have hq5:=(HG5.o.block w.heap.size (by omega) (fun e=>by have:=zJ e;omega)).trans Q0.out;have hwe:w.heap.size≠d.eb:=by omega
   have hxe:wr.heap.size≠d.eb:=by have:=HE.o.map.lt;omega
   have z0:=elater_cell (M:=ME) (kC 1 hk5 rfl) (blk_lt hk5) hsge;have z1:=elater_cell (M:=ME) (kC 3 hk5 rfl) (blk_lt hk5) hsge;have z2:=elater_cell (M:=ME) (kC 0 HX5.o rfl) hwr5 hxe;have z3:=elater_cell (M:=ME) (kC 1 HX5.o rfl) hwr5 hxe;have zm:=elater_cell (M:=ME) (kC 0 hq5 rfl) (blk_lt hq5) hwe;have HRo0:=hI (fun(e:ELater W5 d.eb ME)=>sroom_any d l tab stops k tt e.w (HSe.o e) hk);obtain⟨rm,hrm⟩:=eX (roomB l tab stops k tt);have Hrm:=hI hrm;have HRo:=hI (fun(e:ELater W5 d.eb ME)=>by have h5:=HRo0.o e;rw[hrm] at h5;exact h5);clear hrm HRo0 hk5 hq5 hME ha5;cases rm
   ·have HV:=hI (show canB l tab stops best k tt=false by
     cases hc:canB l tab stops best k tt with
     | false=>rfl
     | true=>have h5:=canB_room hk hc;rw[Hrm.o] at h5;cases h5)
    have zl:True:=trivial;go_upto_region 7 with fail;refine wp_region_elater_tail d.eb ME 58 (by kernel_rfl) (by kernel_rfl) (HM0.o) ?_;simp only[List.take_succ_cons,List.take_zero,List.drop_succ_cons,List.drop_zero]
    repeat (any_goals (first | go_big_quiet_step ((first | (go_at_call 155;exact elater_call HMb.o _ (HRo.o _)) | (go_at_call 90;exact elater_call2 _ (HLe.o _)))) | quiet_step ((first | (go_at_call 155;exact elater_call HMb.o _ (HRo.o _)) | (go_at_call 90;exact elater_call2 _ (HLe.o _))))))
    refine wpQuiet_nil ?_;rintro w' ⟨e,rfl⟩;obtain⟨E2,hE2,hsub2⟩:=HMe.o e.w e.m;have hl2:=hE2.len;have HE2:=hI hE2;have Hsub2:=hI hsub2;clear hE2 hsub2;go_upto_region 3 with(at_mapUpdate;go_loud (refine wpList_mapIn_put rfl rfl _ _ _ rfl d.eb E2 (canB l tab stops best) k (tt:Int) HE2.o.map rfl rfl (by rw[HV.o];rfl) Hkb.o hl2 ?_);intro w7 hm7 hg7;have Hm7:=hI hm7;have Hg7:=hI hg7;clear hm7 hg7)
    have HGn:=hI (show wr.grownBy w7 (some d.eb) from grown_trans (grown_trans (grown_of_below HB4.o _) e.g) Hg7.o);have HEn:=hI (show EndsIn w7 l tab stops best d.eb (insK E2 (k,(tt:Int))) from HE2.o.ins Hm7.o hk (by omega) hle);have HSn:=hI (show ∀p∈E',p∈insK E2 (k,(tt:Int)) from fun p hp=>insK_mem.2 (.inr (Hsub2.o p hp)));clear z0 z1 z2 z3 zl zm hl2;go_wp2;go_roundw
    case rel=>exact⟨tt-1,insK E2 (k,(tt:Int)),by omega,by omega,by go_num,hI (grown_trans HG.o HGn.o),HEn,hI (fun x h1 h2=>by
     by_cases hx:x=(tt:Int)
     ·subst hx;exact insK_mem.2 (.inl rfl)
     ·exact HSn.o _ (HUp.o x (by omega) h2)),hI (fun p hp=>HSn.o p (HSb.o p hp))⟩
    case measure=>simp[intOf];omega
   by_cases hlast:k+1=sn
   ·have hq1:((k:Int)==(sn:Int)-1)=true:=by rw[<- hlast];simp
    have hq2:decide ((k:Int)<(sn:Int)-1)=false:=by simp;omega
    have HLa:=hI (show canB l tab stops best k tt=decide (tt=best) by
     have h5:=canB_last (l:=l) (tab:=tab) (stops:=stops) hle;rw[show stops.length-1=k by rw[Hsn.o];omega,Hrm.o] at h5;exact h5)
    by_cases hte:tt=best
    ·have hq3:(tt==best)=true:=by rw[hte];simp
     have HV:=hI (show canB l tab stops best k tt=true by rw[HLa.o];exact zD hte);have zl:True:=trivial;clear hte hlast;go_upto_region 7 with fail;refine wp_region_elater_tail d.eb ME 58 (by kernel_rfl) (by kernel_rfl) (HM0.o) ?_;simp only[List.take_succ_cons,List.take_zero,List.drop_succ_cons,List.drop_zero]
     repeat (any_goals (first | go_big_quiet_step ((first | (go_at_call 155;exact elater_call HMb.o _ (HRo.o _)) | (go_at_call 90;exact elater_call2 _ (HLe.o _)))) | quiet_step ((first | (go_at_call 155;exact elater_call HMb.o _ (HRo.o _)) | (go_at_call 90;exact elater_call2 _ (HLe.o _))))))
     refine wpQuiet_nil ?_;rintro w' ⟨e,rfl⟩;obtain⟨E2,hE2,hsub2⟩:=HMe.o e.w e.m;have hl2:=hE2.len;have HE2:=hI hE2;have Hsub2:=hI hsub2;clear hE2 hsub2;go_upto_region 3 with(at_mapUpdate;go_loud (refine wpList_mapIn_put rfl rfl _ _ _ rfl d.eb E2 (canB l tab stops best) k (tt:Int) HE2.o.map rfl rfl (by rw[HV.o];rfl) Hkb.o hl2 ?_);intro w7 hm7 hg7;have Hm7:=hI hm7;have Hg7:=hI hg7;clear hm7 hg7)
     have HGn:=hI (show wr.grownBy w7 (some d.eb) from grown_trans (grown_trans (grown_of_below HB4.o _) e.g) Hg7.o);have HEn:=hI (show EndsIn w7 l tab stops best d.eb (insK E2 (k,(tt:Int))) from HE2.o.ins Hm7.o hk (by omega) hle);have HSn:=hI (show ∀p∈E',p∈insK E2 (k,(tt:Int)) from fun p hp=>insK_mem.2 (.inr (Hsub2.o p hp)));clear z0 z1 z2 z3 zl zm hl2;go_wp2;go_roundw
     case rel=>exact⟨tt-1,insK E2 (k,(tt:Int)),by omega,by omega,by go_num,hI (grown_trans HG.o HGn.o),HEn,hI (fun x h1 h2=>by
      by_cases hx:x=(tt:Int)
      ·subst hx;exact insK_mem.2 (.inl rfl)
      ·exact HSn.o _ (HUp.o x (by omega) h2)),hI (fun p hp=>HSn.o p (HSb.o p hp))⟩
     case measure=>simp[intOf];omega
    ·have hq3:(tt==best)=false:=beq_false_of_ne hte;have HV:=hI (show canB l tab stops best k tt=false by rw[HLa.o];exact zE hte);have zl:True:=trivial;clear hte hlast;go_upto_region 7 with fail;refine wp_region_elater_tail d.eb ME 58 (by kernel_rfl) (by kernel_rfl) (HM0.o) ?_;simp only[List.take_succ_cons,List.take_zero,List.drop_succ_cons,List.drop_zero]
     repeat (any_goals (first | go_big_quiet_step ((first | (go_at_call 155;exact elater_call HMb.o _ (HRo.o _)) | (go_at_call 90;exact elater_call2 _ (HLe.o _)))) | quiet_step ((first | (go_at_call 155;exact elater_call HMb.o _ (HRo.o _)) | (go_at_call 90;exact elater_call2 _ (HLe.o _))))))
     refine wpQuiet_nil ?_;rintro w' ⟨e,rfl⟩;obtain⟨E2,hE2,hsub2⟩:=HMe.o e.w e.m;have hl2:=hE2.len;have HE2:=hI hE2;have Hsub2:=hI hsub2;clear hE2 hsub2;go_upto_region 3 with(at_mapUpdate;go_loud (refine wpList_mapIn_put rfl rfl _ _ _ rfl d.eb E2 (canB l tab stops best) k (tt:Int) HE2.o.map rfl rfl (by rw[HV.o];rfl) Hkb.o hl2 ?_);intro w7 hm7 hg7;have Hm7:=hI hm7;have Hg7:=hI hg7;clear hm7 hg7)
     have HGn:=hI (show wr.grownBy w7 (some d.eb) from grown_trans (grown_trans (grown_of_below HB4.o _) e.g) Hg7.o);have HEn:=hI (show EndsIn w7 l tab stops best d.eb (insK E2 (k,(tt:Int))) from HE2.o.ins Hm7.o hk (by omega) hle);have HSn:=hI (show ∀p∈E',p∈insK E2 (k,(tt:Int)) from fun p hp=>insK_mem.2 (.inr (Hsub2.o p hp)));clear z0 z1 z2 z3 zl zm hl2;go_wp2;go_roundw
     case rel=>exact⟨tt-1,insK E2 (k,(tt:Int)),by omega,by omega,by go_num,hI (grown_trans HG.o HGn.o),HEn,hI (fun x h1 h2=>by
      by_cases hx:x=(tt:Int)
      ·subst hx;exact insK_mem.2 (.inl rfl)
      ·exact HSn.o _ (HUp.o x (by omega) h2)),hI (fun p hp=>HSn.o p (HSb.o p hp))⟩
     case measure=>simp[intOf];omega
   have hq1:((k:Int)==(sn:Int)-1)=false:=beq_false_of_ne (by omega);have hq2:decide ((k:Int)<(sn:Int)-1)=true:=by simp;omega
   have hkl:k+1<stops.length:=by rw[Hsn.o];omega
   have HLv2:=hI (fun(e:ELater W5 d.eb ME)=>by
    obtain⟨E2,h1,h2⟩:=HMe.o e.w e.m;have h5:=HLv.o hkl tt e.w E2 (HSe.o e) h1 ⟨htt0,htt1⟩
    exact h5.mono (R':=fun r w'=>r= .returned (.bool (leavesB l tab stops best k tt))/\e.w.grownBy w' (some d.eb)/\ME w') (fun r w' hr=>⟨hr.val,hr.g,by
     obtain⟨E3,h6,h7⟩:=hr.ex;exact HMi.o w' ⟨E3,h6,fun p hp=>h7 p (h2 p hp)⟩⟩))
   have HCe:=hI (show canB l tab stops best k tt=(leavesB l tab stops best k tt||(decide (tt<best)&&canB l tab stops best k (tt+1))) by rw[canB_eq hkl hle,Hrm.o];rfl);obtain⟨lv,hlv⟩:=eX (leavesB l tab stops best k tt);rw[hlv] at HCe;have HLe:=hI (fun(e:ELater W5 d.eb ME)=>by have h5:=HLv2.o e;rw[hlv] at h5;exact h5);clear hlv HLv2 hlast;cases lv;rotate_left
   ·have HV:=hI (show canB l tab stops best k tt=true by rw[HCe.o];rfl);have zl:True:=trivial;go_upto_region 7 with fail;refine wp_region_elater_tail d.eb ME 58 (by kernel_rfl) (by kernel_rfl) (HM0.o) ?_;simp only[List.take_succ_cons,List.take_zero,List.drop_succ_cons,List.drop_zero]
    repeat (any_goals (first | go_big_quiet_step ((first | (go_at_call 155;exact elater_call HMb.o _ (HRo.o _)) | (go_at_call 90;exact elater_call2 _ (HLe.o _)))) | quiet_step ((first | (go_at_call 155;exact elater_call HMb.o _ (HRo.o _)) | (go_at_call 90;exact elater_call2 _ (HLe.o _))))))
    refine wpQuiet_nil ?_;rintro w' ⟨e,rfl⟩;obtain⟨E2,hE2,hsub2⟩:=HMe.o e.w e.m;have hl2:=hE2.len;have HE2:=hI hE2;have Hsub2:=hI hsub2;clear hE2 hsub2;go_upto_region 3 with(at_mapUpdate;go_loud (refine wpList_mapIn_put rfl rfl _ _ _ rfl d.eb E2 (canB l tab stops best) k (tt:Int) HE2.o.map rfl rfl (by rw[HV.o];rfl) Hkb.o hl2 ?_);intro w7 hm7 hg7;have Hm7:=hI hm7;have Hg7:=hI hg7;clear hm7 hg7)
    have HGn:=hI (show wr.grownBy w7 (some d.eb) from grown_trans (grown_trans (grown_of_below HB4.o _) e.g) Hg7.o);have HEn:=hI (show EndsIn w7 l tab stops best d.eb (insK E2 (k,(tt:Int))) from HE2.o.ins Hm7.o hk (by omega) hle);have HSn:=hI (show ∀p∈E',p∈insK E2 (k,(tt:Int)) from fun p hp=>insK_mem.2 (.inr (Hsub2.o p hp)));clear z0 z1 z2 z3 zl zm hl2;go_wp2;go_roundw
    case rel=>exact⟨tt-1,insK E2 (k,(tt:Int)),by omega,by omega,by go_num,hI (grown_trans HG.o HGn.o),HEn,hI (fun x h1 h2=>by
     by_cases hx:x=(tt:Int)
     ·subst hx;exact insK_mem.2 (.inl rfl)
     ·exact HSn.o _ (HUp.o x (by omega) h2)),hI (fun p hp=>HSn.o p (HSb.o p hp))⟩
    case measure=>simp[intOf];omega
   by_cases hte:tt<best
   ·have hq4:decide (tt<best)=true:=zD hte;obtain⟨cn,hcn⟩:=eX (canB l tab stops best k (tt+1));have HV:=hI (show canB l tab stops best k tt=cn by rw[HCe.o,hq4,hcn];rfl)
    have zl:∀e:ELater W5 d.eb ME,(Instr.lookup 131 (.map (some d.eb)) (.agg #[.int .i64 (k:Int),.int .i64 (tt+1)]) false).run Tryz.prog e.w= .ok (.bool cn) e.w:=fun e=>by
     obtain⟨E2,h1,h2⟩:=HMe.o e.w e.m;have h5:=h1.map.look (k:=k) (t:=tt+1) ⟨by omega,by omega,by omega⟩;rw[List.contains_iff_mem.2 (h2 _ (HUp.o (tt+1) (by omega) (by omega))),hcn] at h5;exact h5
    clear hcn;go_upto_region 7 with fail;refine wp_region_elater_tail d.eb ME 58 (by kernel_rfl) (by kernel_rfl) (HM0.o) ?_;simp only[List.take_succ_cons,List.take_zero,List.drop_succ_cons,List.drop_zero]
    repeat (any_goals (first | go_big_quiet_step ((first | (go_at_call 155;exact elater_call HMb.o _ (HRo.o _)) | (go_at_call 90;exact elater_call2 _ (HLe.o _)))) | quiet_step ((first | (go_at_call 155;exact elater_call HMb.o _ (HRo.o _)) | (go_at_call 90;exact elater_call2 _ (HLe.o _))))))
    refine wpQuiet_nil ?_;rintro w' ⟨e,rfl⟩;obtain⟨E2,hE2,hsub2⟩:=HMe.o e.w e.m;have hl2:=hE2.len;have HE2:=hI hE2;have Hsub2:=hI hsub2;clear hE2 hsub2;go_upto_region 3 with(at_mapUpdate;go_loud (refine wpList_mapIn_put rfl rfl _ _ _ rfl d.eb E2 (canB l tab stops best) k (tt:Int) HE2.o.map rfl rfl (by rw[HV.o];rfl) Hkb.o hl2 ?_);intro w7 hm7 hg7;have Hm7:=hI hm7;have Hg7:=hI hg7;clear hm7 hg7)
    have HGn:=hI (show wr.grownBy w7 (some d.eb) from grown_trans (grown_trans (grown_of_below HB4.o _) e.g) Hg7.o);have HEn:=hI (show EndsIn w7 l tab stops best d.eb (insK E2 (k,(tt:Int))) from HE2.o.ins Hm7.o hk (by omega) hle);have HSn:=hI (show ∀p∈E',p∈insK E2 (k,(tt:Int)) from fun p hp=>insK_mem.2 (.inr (Hsub2.o p hp)));clear z0 z1 z2 z3 zl zm hl2;go_wp2;go_roundw
    case rel=>exact⟨tt-1,insK E2 (k,(tt:Int)),by omega,by omega,by go_num,hI (grown_trans HG.o HGn.o),HEn,hI (fun x h1 h2=>by
     by_cases hx:x=(tt:Int)
     ·subst hx;exact insK_mem.2 (.inl rfl)
     ·exact HSn.o _ (HUp.o x (by omega) h2)),hI (fun p hp=>HSn.o p (HSb.o p hp))⟩
    case measure=>simp[intOf];omega
   ·have hq4:decide (tt<best)=false:=zE hte;have HV:=hI (show canB l tab stops best k tt=false by rw[HCe.o,hq4];rfl);have zl:True:=trivial;go_upto_region 7 with fail;refine wp_region_elater_tail d.eb ME 58 (by kernel_rfl) (by kernel_rfl) (HM0.o) ?_;simp only[List.take_succ_cons,List.take_zero,List.drop_succ_cons,List.drop_zero]
    repeat (any_goals (first | go_big_quiet_step ((first | (go_at_call 155;exact elater_call HMb.o _ (HRo.o _)) | (go_at_call 90;exact elater_call2 _ (HLe.o _)))) | quiet_step ((first | (go_at_call 155;exact elater_call HMb.o _ (HRo.o _)) | (go_at_call 90;exact elater_call2 _ (HLe.o _))))))
    refine wpQuiet_nil ?_;rintro w' ⟨e,rfl⟩;obtain⟨E2,hE2,hsub2⟩:=HMe.o e.w e.m;have hl2:=hE2.len;have HE2:=hI hE2;have Hsub2:=hI hsub2;clear hE2 hsub2;go_upto_region 3 with(at_mapUpdate;go_loud (refine wpList_mapIn_put rfl rfl _ _ _ rfl d.eb E2 (canB l tab stops best) k (tt:Int) HE2.o.map rfl rfl (by rw[HV.o];rfl) Hkb.o hl2 ?_);intro w7 hm7 hg7;have Hm7:=hI hm7;have Hg7:=hI hg7;clear hm7 hg7)
    have HGn:=hI (show wr.grownBy w7 (some d.eb) from grown_trans (grown_trans (grown_of_below HB4.o _) e.g) Hg7.o);have HEn:=hI (show EndsIn w7 l tab stops best d.eb (insK E2 (k,(tt:Int))) from HE2.o.ins Hm7.o hk (by omega) hle);have HSn:=hI (show ∀p∈E',p∈insK E2 (k,(tt:Int)) from fun p hp=>insK_mem.2 (.inr (Hsub2.o p hp)));clear z0 z1 z2 z3 zl zm hl2;go_wp2;go_roundw
    case rel=>exact⟨tt-1,insK E2 (k,(tt:Int)),by omega,by omega,by go_num,hI (grown_trans HG.o HGn.o),HEn,hI (fun x h1 h2=>by
     by_cases hx:x=(tt:Int)
     ·subst hx;exact insK_mem.2 (.inl rfl)
     ·exact HSn.o _ (HUp.o x (by omega) h2)),hI (fun p hp=>HSn.o p (HSb.o p hp))⟩
    case measure=>simp[intOf];omega
  ·have Hkb:=hI (show KeyB k t from⟨by omega,by omega,by omega⟩);have hkk:=HK.o wr HG.o;have y0:=zV (kC 3 hkk rfl) (blk_lt hkk);have y1:=zV (kC 0 hq rfl) (blk_lt hq);have y2:=zV (kC 1 hq rfl) (blk_lt hq)
   have HCc:=hI (show(E'.contains (k,t)&&canB l tab stops best k t)=cv by
    rw[<- Hcv.o]
    by_cases htb:t<=best
    ·rw[List.contains_iff_mem.2 (HUp.o t (by omega) htb)];rfl
    ·rw[canB_late (by omega),Bool.and_false])
   have yl:∀e:Later wr,(Instr.lookup 131 (.map (some d.eb)) (.agg #[.int .i64 (k:Int),.int .i64 t]) false).run Tryz.prog e.w= .ok (.bool cv) e.w:=fun e=>by
    have h5:=(HE.o.below e.b).map.look Hkb.o;rw[HCc.o] at h5;exact h5
   clear hq hkk;go_upto_region 8 with fail;clear q0 q1;refine wp_region_later (by kernel_rfl) (by kernel_rfl) ?_
   repeat (any_goals (first | go_big_quiet_step ((fail)) | quiet_step ((fail))))
   refine wpQuiet_nil ?_;rintro w' ⟨e8,rfl⟩;have HRr:=hI (HR.o e8.w E' (grown_trans HG.o (grown_of_below e8.b _)) (HE.o.below e8.b) HSb.o);go_wp2;go_ret;exact HRr.o
theorem leads_any (d:SrD) (l:Line) (tab:List (List TCall)) (stops:List Int) (best:Int) (hbt:0<=best/\best<=100000) (hBe:d.B<=d.eb):∀(D k:Nat),k<stops.length->stops.length-1-k=D->∀(t:Int) (X:World) (E:List (Nat×Int)),SrIn X d l tab stops->EndsIn X l tab stops best d.eb E->0<=t->t<=200000 →
  Calls Tryz.prog 89 #[.pointer (some ⟨d.sg,0,none⟩),moV k t,.int .i64 best] X (LeadR l tab stops best k t d.eb E X)
 | 0,k,hk,hD,t,X,E,h,hE,h0,h1=>leads1_any d l tab stops best k t E X h hE hk ⟨h0,h1⟩ hbt hBe (fun hkl=>absurd hkl (by omega))
 | D+1,k,hk,hD,t,X,E,h,hE,h0,h1=>leads1_any d l tab stops best k t E X h hE hk ⟨h0,h1⟩ hbt hBe (fun hkl t' Y E' hY hE' ht'=>leaves1_any d l tab stops best k t' E' Y hY hE' hk ht' (fun _ t2 Z E2 hZ hE2 h2 h3=>leads_any d l tab stops best hbt hBe D (k+1) hkl (by omega) t2 Z E2 hZ hE2 h2 h3))
theorem leaves_any (d:SrD) (l:Line) (tab:List (List TCall)) (stops:List Int) (best:Int) (hbt:0<=best/\best<=100000) (hBe:d.B<=d.eb) (k:Nat) (hk:k<stops.length) (t:Int) (X:World) (E:List (Nat×Int)) (h:SrIn X d l tab stops) (hE:EndsIn X l tab stops best d.eb E) (ht:0<=t/\t<=100000) :
  Calls Tryz.prog 90 #[.pointer (some ⟨d.sg,0,none⟩),moV k t,.int .i64 best] X (LeaveR l tab stops best k t d.eb E X):=
 leaves1_any d l tab stops best k t E X h hE hk ht (fun hkl t2 Z E2 hZ hE2 h2 h3=>leads_any d l tab stops best hbt hBe _ (k+1) hkl rfl t2 Z E2 hZ hE2 h2 h3)
end Go.Proofs.YtjpgnfekbojcaaaGreat
