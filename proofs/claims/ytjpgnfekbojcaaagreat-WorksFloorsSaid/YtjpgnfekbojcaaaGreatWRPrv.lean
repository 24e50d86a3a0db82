/- Which floors are proved,by the specification: Proves. -/
import Derived.Test.YtjpgnfekbojcaaaGreatWPrv
set_option maxHeartbeats 8000000
set_option maxRecDepth 100000
namespace Go.Proofs.YtjpgnfekbojcaaaGreat
open Go.RowKit W7 W8
attribute [local go_sem] Oper.semAt_some
theorem refproves_any (j : Job) (m r : Int) (c : List Int) (CA : Option Addr) (cn cc B : Nat) (w : World) (hj : JIn w B j) (hB : B <= w.heap.size) (h0 : jobErr j.p = 0) (hc : StIn w B CA cn cc c) (hm : 1 <= m /\ m <= 9223372036854775807) :
  Calls Tryz.prog 122 #[jobV j,.agg #[.int .i64 m,.slice CA cn cc,.int .i64 r]] w fun e w' => e = .returned (.bool (provesB j.p m c r)) /\ Bl w w' := by
 have hG := good_of h0; obtain ⟨n,hn⟩ : ∃ n,j.tasks.length = n := ⟨_,rfl⟩
 obtain ⟨TA,hTA⟩ : ∃ x,j.TA = x := ⟨_,rfl⟩
 obtain ⟨RA,hRA⟩ : ∃ x,j.RA = x := ⟨_,rfl⟩
 obtain ⟨nr,hnr'⟩ : ∃ x,j.res.length = x := ⟨_,rfl⟩
 have hjv : jobV j = .agg #[.slice TA n j.tc,.slice RA nr j.rc] := by unfold jobV; rw [hn,hTA,hRA,hnr']
 have h64 : n <= 64 := by have := hG.nt; rw [j.nt,hn] at this; exact this
 have hr16 : nr <= 16 := by have := hG.nr; rw [j.nr,hnr'] at this; exact this
 obtain ⟨W0,HW0,hs0,HB0,HX00,HX01,HU0⟩ := boxes2 w (.cells #[.slice TA n j.tc,.slice RA nr j.rc] 25) (.cells #[.int .i64 m,.slice CA cn cc,.int .i64 r] 92); have HJ := hI (show ∀ X : World,Bl W0 X -> JIn X B j /\ StIn X B CA cn cc c from fun X hX => ⟨hj.below ((HU0.o X hX).mono hB),hc.below ((HU0.o X hX).mono hB)⟩); have hlc := hj.tl; have hc2 := hj.tc; have hlr := hj.rl; have hcr := hj.rc; rw [hn] at hlc; rw [hnr'] at hlr; have Hlen := hI hc.len; have hsm := hc.small; have hcn := hc.le; have hcc := hc.cap; have Hn := hI hn; have HTA := hI hTA; have HRA := hI hRA; have Hnr := hI hnr'; have Hjv := hI hjv; have HG := hI hG; have hmp : ¬ m <= 0 := by omega
 have HP2 := hI (fun (h : cn = 0) => show provesB j.p m c r = (withinB r 0 ((nr : Int) - 1) && decide (roomV (j.p.res.getD r.toNat default) (m - 1) < workV j.p r)) by rw [prv_res hmp (by rw [<- hc.len]; exact h),j.nr,hnr']); have HP3 := hI (fun (h : ¬ cn = 0) => show provesB j.p m c r = ((List.range cn).all (linkB j.p c) && decide (m <= sumC j.p c cn)) by rw [prv_chain hmp (by rw [<- hc.len]; exact h), <- hc.len]); obtain ⟨pv,hpv⟩ : ∃ x,provesB j.p m c r = x := ⟨_,rfl⟩
 rw [hpv] at HP2 HP3 ⊢; rw [hjv]; have hmn := min_run Tryz.prog; have q0 := W7.bc (j := 0) (HX00.o W0 (Below.refl _ _)) rfl; have q1 := W7.bc (j := 1) (HX00.o W0 (Below.refl _ _)) rfl; have g0 := W7.bc (j := 0) (HX01.o W0 (Below.refl _ _)) rfl; have g1 := W7.bc (j := 1) (HX01.o W0 (Below.refl _ _)) rfl; have g2 := W7.bc (j := 2) (HX01.o W0 (Below.refl _ _)) rfl; have hm0 : decide (m <= 0) = false := decide_eq_false hmp; clear hj hc hn hjv hTA hRA hnr' hpv hG h0 hmp; go_enter Tryz.func122,Tryz.ntmps122; go_upto_region 1 with fail; rw [<- HW0.o]
 by_cases hcz : cn = 0
 ·have HR := hI (HP2.o hcz); subst hcz; have yj0 := later_cell (bc (j := 0) (HX00.o W0 (Below.refl _ _)) rfl) (by omega); have yj1 := later_cell (bc (j := 1) (HX00.o W0 (Below.refl _ _)) rfl) (by omega); have yf0 := later_cell (bc (j := 0) (HX01.o W0 (Below.refl _ _)) rfl) (by omega); have yf2 := later_cell (bc (j := 2) (HX01.o W0 (Below.refl _ _)) rfl) (by omega); cases ha : decide (r >= 0)
  ·have HE := hI (show pv = false by
    rw [HR.o,show withinB r 0 ((nr : Int) - 1) = false by
     rw [Bool.eq_false_iff]; intro h; have := withinB_true.1 h; have := of_decide_eq_false ha; omega]
    rfl)
   go_upto_region 2 with fail; clear q0 q1 g0 g1 g2; refine wp_region_later (by kernel_rfl) (by kernel_rfl) ?_
   repeat (any_goals (first | go_big_quiet_step ((fail)) | quiet_step ((fail))))
   refine wpQuiet_nil ?_; rintro w' ⟨e5,rfl⟩; have Hb5 := hI (HU0.o _ e5.b); go_wp2; go_ret; exact ⟨ret_bool HE.o.symm,Hb5.o⟩
  cases hb : decide (r < (nr : Int))
  ·have HE := hI (show pv = false by
    rw [HR.o,show withinB r 0 ((nr : Int) - 1) = false by
     rw [Bool.eq_false_iff]; intro h; have := withinB_true.1 h; have := of_decide_eq_false hb; omega]
    rfl)
   go_upto_region 2 with fail; clear q0 q1 g0 g1 g2; refine wp_region_later (by kernel_rfl) (by kernel_rfl) ?_
   repeat (any_goals (first | go_big_quiet_step ((fail)) | quiet_step ((fail))))
   refine wpQuiet_nil ?_; rintro w' ⟨e5,rfl⟩; have Hb5 := hI (HU0.o _ e5.b); go_wp2; go_ret; exact ⟨ret_bool HE.o.symm,Hb5.o⟩
  have ha' := of_decide_eq_true ha; have hb' := of_decide_eq_true hb; have hwb : withinB r 0 ((nr : Int) - 1) = true := withinB_true.2 (by omega); rw [hwb,Bool.true_and] at HR; obtain ⟨q,hq⟩ : ∃ q : Nat,r = (q : Int) := ⟨r.toNat,by omega⟩
  have Hq := hI hq; have hqr : q < nr := by omega
  have hql : q < j.res.length := by have := Hnr.o; omega
  have hjn := (HJ.o W0 (Below.refl _ _)).1; obtain ⟨rb,roff,hRb,hrb2⟩ := hjn.ra (by omega); have hRe : RA = some ⟨rb,roff,none⟩ := by rw [<- HRA.o]; exact hRb
  obtain ⟨r0,r1,r2⟩ := hjn.rcells hRb hql; have hmc : 0 <= min (m - 1) 1099511627776 /\ min (m - 1) 1099511627776 <= 1099511627776 := by omega
  have HWk := hI (fun e : Later W0 => refWork_any j (q : Int) B e.w (HJ.o e.w e.b).1 (by have := e.b.size; omega) HG.o); have HRo := hI (fun e : Later W0 => refHas_any j.p (j.R q) (min (m - 1) 1099511627776) B e.w ((HJ.o e.w e.b).1.rss _ (j.R_mem hql)) (by have := e.b.size; omega) HG.o (j.Rp_mem hql) hmc); rw [Hjv.o] at HWk; rw [room_cut HG.o (j.Rp_mem hql)] at HRo; rw [hq,Int.toNat_natCast,j.pR] at HR; generalize j.R q = rs at r0 r1 r2 HRo HR; generalize workV j.p (q : Int) = WV at HWk HR; generalize roomV rs.p (m - 1) = RV at HRo HR; have z0 := later_cell r0 (by omega); have z1 := later_cell r1 (by omega); have z2 := later_cell r2 (by omega); subst hRe; subst hq; clear r0 r1 r2 hjn hRb ha hb ha' hb' hwb hmc; go_upto_region 2 with fail; clear q0 q1 g0 g1 g2; cases hd : decide (WV > RV)
  ·have HE := hI (show pv = false by rw [HR.o,decide_eq_false (show ¬ RV < WV from of_decide_eq_false hd)]); refine wp_region_later (by kernel_rfl) (by kernel_rfl) ?_
   repeat (any_goals (first | go_big_quiet_step ((first | (go_at_call 118; exact later_call _ (HWk.o _)) | (go_at_call 119; exact later_call _ (HRo.o _)))) | quiet_step ((first | (go_at_call 118; exact later_call _ (HWk.o _)) | (go_at_call 119; exact later_call _ (HRo.o _))))))
   refine wpQuiet_nil ?_; rintro w' ⟨e5,rfl⟩; have Hb5 := hI (HU0.o _ e5.b); go_wp2; go_ret; exact ⟨ret_bool HE.o.symm,Hb5.o⟩
  ·have HE := hI (show pv = true by rw [HR.o,decide_eq_true (show RV < WV from of_decide_eq_true hd)]); refine wp_region_later (by kernel_rfl) (by kernel_rfl) ?_
   repeat (any_goals (first | go_big_quiet_step ((first | (go_at_call 118; exact later_call _ (HWk.o _)) | (go_at_call 119; exact later_call _ (HRo.o _)))) | quiet_step ((first | (go_at_call 118; exact later_call _ (HWk.o _)) | (go_at_call 119; exact later_call _ (HRo.o _))))))
   refine wpQuiet_nil ?_; rintro w' ⟨e5,rfl⟩; have Hb5 := hI (HU0.o _ e5.b); go_wp2; go_ret; exact ⟨ret_bool HE.o.symm,Hb5.o⟩
 have HR := hI (HP3.o hcz); have hcz' : ((cn : Int) == 0) = false := beq_false_of_ne (by omega); have HBad := hI (fun (i : Nat) (hi : i < cn) (h : linkB j.p c i = false) => show pv = false from by rw [HR.o,range_all_bad hi h]; rfl); have HSb := hI (fun i h => sumC_le HG.o (c := c) i h); have Hcz := hI hcz; clear hcz; go_wp2; clear q0 q1 g0 g1 g2 HP2 HP3; go_loopw [5,6] (fun v5 v6 wr => ∃ i : Nat,i <= cn /\ v6 = .int .i64 i /\ v5 = .int .i64 (sumC j.p c i) /\ Hid (∀ k,k < i -> linkB j.p c k = true) /\ Hid (Bl W0 wr)) (fun _ v6 _ => cn - (intOf v6).toNat); case atStart => exact ⟨0,by omega,rfl,rfl,hI (fun k hk => absurd hk (by omega)),hI (Below.refl _ _)⟩
 case round =>
  obtain ⟨i,hi,rfl,rfl,HA,Hb⟩ := hrel; have hsr := Hb.o.size; have hq := HX00.o wr Hb.o; have hf := HX01.o wr Hb.o; have hsb := HSb.o i HA.o; have q0 := W7.bc (j := 0) hq rfl; have g0 := W7.bc (j := 0) hf rfl; have g1 := W7.bc (j := 1) hf rfl; have g2 := W7.bc (j := 2) hf rfl
  by_cases hlt : i < cn
  rotate_left
  ·have HE := hI (show pv = decide (m <= sumC j.p c i) by rw [HR.o,List.all_eq_true.2 (fun k hk => HA.o k (by have := List.mem_range.1 hk; omega)),Bool.true_and,show cn = i by omega]); have HUx := hI (HU0.o wr Hb.o); generalize sumC j.p c i = S at HE hsb; clear hf hq; go_wp2; go_ret; exact ⟨ret_bool HE.o.symm,HUx.o⟩
  have hci : i < c.length := by have := Hlen.o; omega
  obtain ⟨hjn,hst⟩ := HJ.o wr Hb.o; obtain ⟨cb,co,hce,hcb,hcs⟩ := hst.sl (by omega)
  have HCc := hI (show ∀ X : World,Bl W0 X -> ∀ k (hk : k < cn),X.cell? ⟨cb,co + k,none⟩ = some (.int .i64 (c.getD k 0)) from fun X hX k hk => by
   have hkl : k < c.length := by have := Hlen.o; omega
   obtain ⟨cb',co',hce',_,hcs'⟩ := (HJ.o X hX).2.sl (by omega); rw [hce] at hce'; cases hce'; have h := hcs' k hkl 0 _ rfl; rw [Nat.mul_one,Nat.add_zero] at h; rw [h,List.getD_eq_getElem?_getD,List.getElem?_eq_getElem hkl]
   rfl)
  have c0 := HCc.o wr Hb.o i hlt; have HLk := hI (show linkB j.p c i = (withinB (c.getD i 0) 0 ((n : Int) - 1) && (decide (i = 0) || (j.p.tasks.getD (c.getD i 0).toNat default).needs.any (fun y => y == c.getD (i - 1) 0))) by unfold linkB; rw [j.nt,Hn.o]); have HSn := hI (show sumC j.p c (i + 1) = sumC j.p c i + (j.p.tasks.getD (c.getD i 0).toNat default).takes from rfl); have HBi := hI (HBad.o i hlt); generalize c.getD i 0 = x at c0 HLk HSn; generalize sumC j.p c i = S at hsb HSn; subst hce; clear hcs; have HUx := hI (HU0.o wr Hb.o); cases ha : decide (x < 0); rotate_left
  ·have HE := hI (HBi.o (by rw [HLk.o,show withinB x 0 ((n : Int) - 1) = false by rw [Bool.eq_false_iff]; intro h; have := withinB_true.1 h; have := of_decide_eq_true ha; omega]; rfl)); clear hf hq; go_wp2; go_ret; exact ⟨ret_bool HE.o.symm,HUx.o⟩
  cases hb : decide (x >= (n : Int)); rotate_left
  ·have HE := hI (HBi.o (by rw [HLk.o,show withinB x 0 ((n : Int) - 1) = false by rw [Bool.eq_false_iff]; intro h; have := withinB_true.1 h; have := of_decide_eq_true hb; omega]; rfl)); clear hf hq; go_wp2; go_ret; exact ⟨ret_bool HE.o.symm,HUx.o⟩
  have ha' := of_decide_eq_false ha; have hb' := of_decide_eq_false hb; have hwb : withinB x 0 ((n : Int) - 1) = true := withinB_true.2 (by omega); obtain ⟨q,hqx⟩ : ∃ q : Nat,x = (q : Int) := ⟨x.toNat,by omega⟩
  have hqn : q < n := by omega
  have hql : q < j.tasks.length := by have := Hn.o; omega
  obtain ⟨tb,off,hTb,htb⟩ := hjn.ta (by omega); have hTe : TA = some ⟨tb,off,none⟩ := by rw [<- HTA.o]; exact hTb
  have HTn := hI (show ∀ X : World,Bl W0 X -> X.cell? ⟨tb,off + q * 4 + 1,none⟩ = some (.int .i64 (j.T q).p.takes) /\ X.cell? ⟨tb,off + q * 4 + 2,none⟩ = some (.slice (j.T q).NA (j.T q).p.needs.length (j.T q).nc) /\ Sl X B 1 encInt1 (j.T q).NA (j.T q).p.needs from fun X hX => ⟨((HJ.o X hX).1.tcells (by rw [<- hTb]) hql).2.1,((HJ.o X hX).1.tcells (by rw [<- hTb]) hql).2.2.1,((HJ.o X hX).1.tks _ (j.T_mem hql)).ns⟩); have htk := HG.o.takes _ (j.Tp_mem hql); have hnn64 := needs_len HG.o (j.Tp_mem hql); have hnl := (hjn.tks _ (j.T_mem hql)).nl; have hnc := (hjn.tks _ (j.T_mem hql)).nc; rw [hwb,hqx,Int.toNat_natCast,j.pT,Bool.true_and] at HLk; rw [hqx,Int.toNat_natCast,j.pT] at HSn; generalize j.T q = t at HTn htk hnn64 hnl hnc HLk HSn; obtain ⟨tk,htk'⟩ : ∃ x,t.p.takes = x := ⟨_,rfl⟩
  rw [htk'] at HTn htk HSn; obtain ⟨nn,hnn⟩ : ∃ x,t.p.needs.length = x := ⟨_,rfl⟩
  rw [hnn] at HTn hnl hnn64; have Hnn := hI hnn
  have HOk := hI (show linkB j.p c i = true -> ∀ k,k < i + 1 -> linkB j.p c k = true from fun h k hk => by
   by_cases e : k = i
   ·rw [e]; exact h
   ·exact HA.o k (by omega))
  subst hTe; subst hqx; clear hjn hTb htk' hf ha hb ha' hb' hwb hnn
  by_cases hi0 : i = 0
  ·have HV := hI (HOk.o (by rw [HLk.o,decide_eq_true hi0]; rfl)); have e0 : ((i : Int) == 0) = true := by rw [hi0]; rfl
   clear hi0; obtain ⟨t1,t2,_⟩ := HTn.o wr Hb.o; go_wp2; refine wp_loop_rounds 1 ?_; rw [rounds_succ]; go_wp2; go_roundw; case rel => exact ⟨i + 1,by omega,by go_num,by rw [HSn.o],HV,Hb⟩
   case measure => simp [intOf]; omega
   case roundEnd => exact ⟨⟨i + 1,by omega,by simp,by rw [HSn.o],HV,Hb⟩,by simp [intOf]; omega⟩
  have e0 : ((i : Int) == 0) = false := beq_false_of_ne (by omega); rw [decide_eq_false hi0,Bool.false_or] at HLk; have HC1 := hI (fun (X : World) (hX : Bl W0 X) => HCc.o X hX (i - 1) (by omega)); generalize c.getD (i - 1) 0 = y at HC1 HLk; have Hi0 := hI hi0; clear hi0; obtain ⟨wl,hwl⟩ : ∃ z,z = wr := ⟨_,rfl⟩
  subst hwl; go_wp2; clear c0 q0 g0 g1 g2; go_loopw [8,9] (fun v8 v9 wr => ∃ k : Nat,k <= nn /\ v9 = .int .i64 k /\ v8 = .bool ((t.p.needs.take k).any (fun z => z == y)) /\ Hid (Bl W0 wr)) (fun _ v9 _ => nn - (intOf v9).toNat); case atStart => exact ⟨0,by omega,rfl,by simp,Hb⟩
  case round =>
   obtain ⟨k,hk,rfl,rfl,Hb2⟩ := hrel; have hsr2 := Hb2.o.size; have hq2 := HX00.o wr Hb2.o; have hf2 := HX01.o wr Hb2.o; obtain ⟨t1,t2,hsl⟩ := HTn.o wr Hb2.o; have q0 := W7.bc (j := 0) hq2 rfl; have HUy := hI (HU0.o wr Hb2.o); obtain ⟨kb,hkb⟩ : ∃ kb,(t.p.needs.take k).any (fun z => z == y) = kb := ⟨_,rfl⟩
   rw [hkb]; have Hkb := hI hkb; clear hkb
   by_cases hlt2 : k < nn
   rotate_left
   ·have HFl := hI (show linkB j.p c i = kb by rw [HLk.o, <- Hkb.o,List.take_of_length_le (by have := Hnn.o; omega)]); cases kb
    ·have HE := hI (HBi.o HFl.o); clear hsl; go_wp2; go_ret; exact ⟨ret_bool HE.o.symm,HUy.o⟩
    ·have HV := hI (HOk.o HFl.o); clear hsl; go_wp2; go_roundw; case rel => exact ⟨i + 1,by omega,by go_num,by rw [HSn.o],HV,Hb2⟩
     case measure => simp [intOf]; omega
   cases kb; rotate_left
   ·have HV := hI (HOk.o (by
     rw [HLk.o,List.any_eq_true]; obtain ⟨z,hz,hzy⟩ := List.any_eq_true.1 Hkb.o; exact ⟨z,List.mem_of_mem_take hz,hzy⟩))
    clear hsl; go_wp2; go_roundw; case rel => exact ⟨i + 1,by omega,by go_num,by rw [HSn.o],HV,Hb2⟩
    case measure => simp [intOf]; omega
   have hkl : k < t.p.needs.length := by have := Hnn.o; omega
   obtain ⟨nb,no,hne,hnB,hcs⟩ := hsl (by omega); have n0 : wr.cell? ⟨nb,no + k,none⟩ = some (.int .i64 t.p.needs[k]) := by have h := hcs k hkl 0 _ rfl; rwa [Nat.mul_one,Nat.add_zero] at h
   have HNx := hI (show (t.p.needs.take (k + 1)).any (fun z => z == y) = (t.p.needs[k] == y) by rw [any_take_hit hkl,Hkb.o,Bool.false_or]); rw [hne] at t2; generalize t.p.needs[k] = qv at n0 HNx; have c1 := HC1.o wr Hb2.o; have yn := later_cell n0 (by omega); have yc1 := later_cell c1 (by omega); have yt2 := later_cell t2 (by omega); have yj0 := later_cell (bc (j := 0) hq2 rfl) (by omega); have yf1 := later_cell (bc (j := 1) hf2 rfl) (by omega); clear hcs hne hsl hf2 hq2; cases hqy : (qv == y)
   ·rw [hqy] at HNx; go_upto_region 14 with fail; clear n0 c1 t1 t2 q0; obtain ⟨iv,hiv⟩ : ∃ iv : Int,(i : Int) = iv := ⟨_,rfl⟩
    rw [hiv]; obtain ⟨i1,hi1e⟩ : ∃ i1 : Nat,i - 1 = i1 := ⟨_,rfl⟩
    have hi1 : iv - 1 = (i1 : Int) := by have := Hi0.o; omega
    have hi1l : i1 < cn := by omega
    have hivb : 0 <= iv /\ iv <= 1000 := by omega
    rw [hi1e] at yc1; have Hiv := hI hiv; clear hiv hi1e; refine wp_region_later (by kernel_rfl) (by kernel_rfl) ?_
    repeat (any_goals (first | go_big_quiet_step ((fail)) | quiet_step ((fail))))
    refine wpQuiet_nil ?_; rintro w' ⟨e5,rfl⟩; obtain rfl := Hiv.o; clear hi1; have Hb5 := hI (Hb2.o.trans (e5.b.mono hsr2)); go_wp2; go_roundw; case rel => exact ⟨k + 1,by omega,by go_num,by rw [HNx.o],Hb5⟩
    case measure => simp [intOf]; omega
   ·rw [hqy] at HNx; go_upto_region 14 with fail; clear n0 c1 t1 t2 q0; obtain ⟨iv,hiv⟩ : ∃ iv : Int,(i : Int) = iv := ⟨_,rfl⟩
    rw [hiv]; obtain ⟨i1,hi1e⟩ : ∃ i1 : Nat,i - 1 = i1 := ⟨_,rfl⟩
    have hi1 : iv - 1 = (i1 : Int) := by have := Hi0.o; omega
    have hi1l : i1 < cn := by omega
    have hivb : 0 <= iv /\ iv <= 1000 := by omega
    rw [hi1e] at yc1; have Hiv := hI hiv; clear hiv hi1e; refine wp_region_later (by kernel_rfl) (by kernel_rfl) ?_
    repeat (any_goals (first | go_big_quiet_step ((fail)) | quiet_step ((fail))))
    refine wpQuiet_nil ?_; rintro w' ⟨e5,rfl⟩; obtain rfl := Hiv.o; clear hi1; have Hb5 := hI (Hb2.o.trans (e5.b.mono hsr2)); go_wp2; go_roundw; case rel => exact ⟨k + 1,by omega,by go_num,by rw [HNx.o],Hb5⟩
    case measure => simp [intOf]; omega
theorem refProves_any (j : Job) (m r : Int) (c : List Int) (CA : Option Addr) (cn cc B : Nat) (w : World) (hj : JIn w B j) (hB : B <= w.heap.size) (hc : StIn w B CA cn cc c) (hm : m <= 9223372036854775807) :
  Calls Tryz.prog 54 #[jobV j,.agg #[.int .i64 m,.slice CA cn cc,.int .i64 r]] w fun e w' => e = .returned (.tuple #[.bool (prvV j.p m c r),.int .i64 (jobErr j.p)]) /\ Bl w w' := by
 obtain ⟨n,hn⟩ : ∃ n,j.tasks.length = n := ⟨_,rfl⟩
 obtain ⟨TA,hTA⟩ : ∃ x,j.TA = x := ⟨_,rfl⟩
 have hjv : jobV j = .agg #[.slice TA n j.tc,.slice j.RA j.res.length j.rc] := by unfold jobV; rw [hn,hTA]
 obtain ⟨W0,HW0,hs0,HB0,HX00,HX01,HU0⟩ := boxes2 w (.cells #[.slice TA n j.tc,.slice j.RA j.res.length j.rc] 25) (.cells #[.int .i64 m,.slice CA cn cc,.int .i64 r] 92); have HJ := hI (show ∀ X : World,Bl W0 X -> JIn X B j /\ StIn X B CA cn cc c from fun X hX => ⟨hj.below ((HU0.o X hX).mono hB),hc.below ((HU0.o X hX).mono hB)⟩); have HC := hI (refCheck_any j B W0 (HJ.o W0 (Below.refl _ _)).1 (by omega)); have Hjv := hI hjv; rw [hjv] at HC ⊢; obtain ⟨je,hje⟩ : ∃ x,jobErr j.p = x := ⟨_,rfl⟩
 rw [hje] at HC; have Hje := hI hje; have HPv := hI (show prvV j.p m c r = (decide (je = 0) && provesB j.p m c r) by unfold prvV; rw [hje]); obtain ⟨pv,hpv⟩ : ∃ x,prvV j.p m c r = x := ⟨_,rfl⟩
 rw [hpv] at HPv; rw [hje,hpv]; have q0 := W7.bc (j := 0) (HX00.o W0 (Below.refl _ _)) rfl; have q1 := W7.bc (j := 1) (HX00.o W0 (Below.refl _ _)) rfl; clear hj hc hn hjv hje hTA hpv; go_enter Tryz.func54,Tryz.ntmps54; go_upto_region 1 with fail; rw [<- HW0.o]; go_upto_region 2 with (go_at_call 38; refine HC.o.mono ?_; rintro e w1 ⟨rfl,hb1⟩; have hs1 := hb1.size; have Hb1 := hI hb1; clear hb1)
 clear q0 q1 HC; cases h0 : (je == 0)
 ·have h0' : (je != 0) = true := by simp [bne,h0]
  have HR := hI (show pv = false by rw [HPv.o,decide_eq_false (fun h => by rw [h] at h0; cases h0)]; rfl); go_wp2; go_ret2; rw [HR.o]; exact ⟨rfl,HU0.o _ Hb1.o⟩
 have h0' : (je != 0) = false := by simp [bne,h0]
 obtain rfl := eq_of_beq h0; have HP2 := hI (show pv = provesB j.p m c r by rw [HPv.o]; simp); clear HPv; have q0 := W7.bc (j := 0) (HX00.o w1 Hb1.o) rfl; have q1 := W7.bc (j := 1) (HX00.o w1 Hb1.o) rfl; have g0 := W7.bc (j := 0) (HX01.o w1 Hb1.o) rfl; have g1 := W7.bc (j := 1) (HX01.o w1 Hb1.o) rfl; have g2 := W7.bc (j := 2) (HX01.o w1 Hb1.o) rfl; cases hm0 : decide (m <= 0); rotate_left
 ·have HR := hI (show pv = true by rw [HP2.o,prv_pos (of_decide_eq_true hm0)]); go_wp2; go_ret2; rw [HR.o]; exact ⟨rfl,HU0.o _ Hb1.o⟩
 have HPr := hI (refproves_any j m r c CA cn cc B w1 (HJ.o w1 Hb1.o).1 (by omega) Hje.o (HJ.o w1 Hb1.o).2 (by have := of_decide_eq_false hm0; omega)); rw [<- HP2.o,Hjv.o] at HPr; go_wp2_with (go_at_call 122; refine HPr.o.mono ?_; rintro e w2 ⟨rfl,hb2⟩; have Hb2 := hI (Hb1.o.trans (hb2.mono hs1)); clear hb2); go_ret2; exact ⟨rfl,HU0.o _ Hb2.o⟩
end Go.Proofs.YtjpgnfekbojcaaaGreat
