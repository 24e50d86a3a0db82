/- Order of both sides; the specification's Length. -/
import Derived.Test.YtjpgnfekbojcaaaGreatWRKeep
set_option maxHeartbeats 4000000
set_option maxRecDepth 100000
namespace Go.Proofs.YtjpgnfekbojcaaaGreat
open Go.RowKit W7 W8
attribute [local go_sem] Oper.semAt_some
def ordL (j : JobP) : List Int := if jobErr j = 0 then ordV j else []
structure OrdR (j : Job) (w : World) (e : Ending) (w' : World) : Prop where
 ex : ∃ v,e = .returned (.tuple #[v,.int .i64 (jobErr j.p)]) /\ w'.ownsRow w.heap.size 3 1 v (ordL j.p).length ((ordL j.p).map (Value.int .i64))
 bel : Bl w w'
theorem OrdR.bad {j : Job} {w w' : World} {k : Int} (h : jobErr j.p = k) (h0 : k ≠ 0) (hb : Bl w w') : OrdR j w (.returned (.tuple #[.slice none 0 0,.int .i64 k])) w' :=
 ⟨⟨.slice none 0 0,by rw [h],by unfold ordL; rw [if_neg (by rw [h]; exact h0)]; exact World.ownsRow_nil _ _ _ _⟩,hb⟩
theorem OrdR.good {j : Job} {w w' : World} {v : Value} (h : jobErr j.p = 0) (ho : w'.ownsRow w.heap.size 3 1 v (ordV j.p).length ((ordV j.p).map (Value.int .i64))) (hb : Bl w w') : OrdR j w (.returned (.tuple #[v,.int .i64 0])) w' :=
 ⟨⟨v,by rw [h],by unfold ordL; rw [if_pos h]; exact ho⟩,hb⟩
theorem Order_any (j : Job) (B : Nat) (w : World) (hj : JIn w B j) (hB : B <= w.heap.size) (hS : Slim j) :
  Calls Tryz.prog 35 #[jobV j] w (OrdR j w) := by
 have hjv : jobV j = .agg #[.slice j.TA j.tasks.length j.tc,.slice j.RA j.res.length j.rc] := rfl; obtain ⟨n,hn⟩ : ∃ n,j.tasks.length = n := ⟨_,rfl⟩
 rw [hn] at hjv; obtain ⟨W0,HW0,hs0,HB0,HX00,HU0⟩ := boxes1 w (.cells #[.slice j.TA n j.tc,.slice j.RA j.res.length j.rc] 25); have HJ := hI (show ∀ X : World,Bl W0 X -> JIn X B j from fun X hX => hj.below ((HU0.o X hX).mono hB)); have HC := hI (Check_any j B W0 (HJ.o W0 (Below.refl _ _)) (by omega) hS); have HO := hI (fun (X : World) (hX : Bl W0 X) (h0 : jobErr j.p = 0) => ordered_any j B X (HJ.o X hX) (by have := hX.size; omega) (by have := (good_of h0).nt; rw [j.nt] at this; omega) (fun t ht => by have := needs_len (good_of h0) (t := t.p) (List.mem_map.2 ⟨t,ht,rfl⟩); omega) (task_good (good_of h0))); rw [hjv] at HC HO ⊢; obtain ⟨je,hje⟩ : ∃ x,jobErr j.p = x := ⟨_,rfl⟩
 rw [hje] at HC; have Hje := hI hje; have q0 := W7.bc (j := 0) (HX00.o W0 (Below.refl _ _)) rfl; have q1 := W7.bc (j := 1) (HX00.o W0 (Below.refl _ _)) rfl; clear hj hn hjv hje hS; go_enter Tryz.func35,Tryz.ntmps35; go_upto_region 1 with fail; rw [<- HW0.o]; go_upto_region 2 with (go_at_call 37; refine HC.o.mono ?_; rintro e w1 ⟨rfl,hb1⟩; have hs1 := hb1.size; have Hb1 := hI hb1; clear hb1)
 clear q0 q1; cases h0 : (je == 0)
 ·have h0' : (je != 0) = true := by simp [bne,h0]
  have HR := hI (OrdR.bad (j := j) Hje.o (fun h => by rw [h] at h0; cases h0) (HU0.o _ Hb1.o)); go_wp2; go_ret2; exact HR.o
 have h0' : (je != 0) = false := by simp [bne,h0]
 have HJ0 := hI (show jobErr j.p = 0 by rw [Hje.o]; exact eq_of_beq h0); have HO2 := hI (HO.o w1 Hb1.o HJ0.o); have q0 := W7.bc (j := 0) (HX00.o w1 Hb1.o) rfl; have q1 := W7.bc (j := 1) (HX00.o w1 Hb1.o) rfl; go_wp2_with (go_at_call 95; refine HO2.o.mono ?_; rintro e w2 ⟨v,rfl,ho,hb2⟩; have Ho := hI ho; have Hb2 := hI (Hb1.o.trans (hb2.mono hs1)); clear ho hb2); go_ret2; exact OrdR.good HJ0.o (own_mono Ho.o (by omega)) (HU0.o _ Hb2.o)
theorem refOrder_any (j : Job) (B : Nat) (w : World) (hj : JIn w B j) (hB : B <= w.heap.size) :
  Calls Tryz.prog 36 #[jobV j] w (OrdR j w) := by
 have hjv : jobV j = .agg #[.slice j.TA j.tasks.length j.tc,.slice j.RA j.res.length j.rc] := rfl; obtain ⟨n,hn⟩ : ∃ n,j.tasks.length = n := ⟨_,rfl⟩
 rw [hn] at hjv; obtain ⟨W0,HW0,hs0,HB0,HX00,HU0⟩ := boxes1 w (.cells #[.slice j.TA n j.tc,.slice j.RA j.res.length j.rc] 25); have HJ := hI (show ∀ X : World,Bl W0 X -> JIn X B j from fun X hX => hj.below ((HU0.o X hX).mono hB)); have HC := hI (refCheck_any j B W0 (HJ.o W0 (Below.refl _ _)) (by omega)); have HO := hI (fun (X : World) (hX : Bl W0 X) (h0 : jobErr j.p = 0) => refSorted_any j B X (HJ.o X hX) (by have := hX.size; omega) (by have := (good_of h0).nt; rw [j.nt] at this; omega) (task_good (good_of h0))); rw [hjv] at HC HO ⊢; obtain ⟨je,hje⟩ : ∃ x,jobErr j.p = x := ⟨_,rfl⟩
 rw [hje] at HC; have Hje := hI hje; have q0 := W7.bc (j := 0) (HX00.o W0 (Below.refl _ _)) rfl; have q1 := W7.bc (j := 1) (HX00.o W0 (Below.refl _ _)) rfl; clear hj hn hjv hje; go_enter Tryz.func36,Tryz.ntmps36; go_upto_region 1 with fail; rw [<- HW0.o]; go_upto_region 2 with (go_at_call 38; refine HC.o.mono ?_; rintro e w1 ⟨rfl,hb1⟩; have hs1 := hb1.size; have Hb1 := hI hb1; clear hb1)
 clear q0 q1; cases h0 : (je == 0)
 ·have h0' : (je != 0) = true := by simp [bne,h0]
  have HR := hI (OrdR.bad (j := j) Hje.o (fun h => by rw [h] at h0; cases h0) (HU0.o _ Hb1.o)); go_wp2; go_ret2; exact HR.o
 have h0' : (je != 0) = false := by simp [bne,h0]
 have HJ0 := hI (show jobErr j.p = 0 by rw [Hje.o]; exact eq_of_beq h0); have HO2 := hI (HO.o w1 Hb1.o HJ0.o); have q0 := W7.bc (j := 0) (HX00.o w1 Hb1.o) rfl; have q1 := W7.bc (j := 1) (HX00.o w1 Hb1.o) rfl; go_wp2_with (go_at_call 96; refine HO2.o.mono ?_; rintro e w2 ⟨v,rfl,ho,hb2⟩; have Ho := hI ho; have Hb2 := hI (Hb1.o.trans (hb2.mono hs1)); clear ho hb2); go_ret2; exact OrdR.good HJ0.o (own_mono Ho.o (by omega)) (HU0.o _ Hb2.o)
theorem reflength_any (j : Job) (st : List Int) (SA : Option Addr) (sc B : Nat) (w : World) (hj : JIn w B j) (hB : B <= w.heap.size) (hG : JGood j.p) (hst : st.length = j.tasks.length) (hT : ∀ i,0 <= st.getD i 0 /\ st.getD i 0 <= 100000) (hS : Sl w B 1 encInt1 SA st) :
  Calls Tryz.prog 103 #[jobV j,.slice SA j.tasks.length sc] w fun e w' => e = .returned (.int .i64 (lenOf j.p st)) /\ Bl w w' := by
 obtain ⟨n,hn⟩ : ∃ n,j.tasks.length = n := ⟨_,rfl⟩
 obtain ⟨TA,hTA⟩ : ∃ x,j.TA = x := ⟨_,rfl⟩
 have hjv : jobV j = .agg #[.slice TA n j.tc,.slice j.RA j.res.length j.rc] := by unfold jobV; rw [hn,hTA]
 rw [hn] at hst; rw [hjv,hn]; obtain ⟨W0,HW0,hs0,HB0,HX00,HU0⟩ := boxes1 w (.cells #[.slice TA n j.tc,.slice j.RA j.res.length j.rc] 25); have h64 : n <= 64 := by have := hG.nt; rw [j.nt] at this; omega
 have hlc := hj.tl; have hc2 := hj.tc; rw [hn] at hlc; have HJ := hI (show ∀ X : World,Bl W0 X -> JIn X B j /\ Sl X B 1 encInt1 SA st from fun X hX => ⟨hj.below ((HU0.o X hX).mono hB),hS.below ((HU0.o X hX).mono hB)⟩); have HG := hI hG; have Hn := hI hn; have HTA := hI hTA; have Hst := hI hst; have HT := hI hT; have HL := hI (show lenOf j.p st = lenTo j.p st n by unfold lenOf; rw [j.nt,hn]); have q0 := W7.bc (j := 0) (HX00.o W0 (Below.refl _ _)) rfl; have hmx := max_run Tryz.prog; clear hj hG hn hTA hjv hst hS hT; go_enter Tryz.func103,Tryz.ntmps103; go_upto_region 1 with fail; rw [<- HW0.o]; go_wp2; clear q0; go_loopw [5,6] (fun v5 v6 wr => ∃ i : Nat,i <= n /\ v6 = .int .i64 i /\ v5 = .int .i64 (lenTo j.p st i) /\ Hid (Bl W0 wr)) (fun _ v6 _ => n - (intOf v6).toNat); case atStart => exact ⟨0,by omega,rfl,rfl,hI (Below.refl _ _)⟩
 case round =>
  obtain ⟨i,hi,rfl,rfl,Hb⟩ := hrel; have hsr := Hb.o.size
  by_cases hlt : i < n
  ·have hil : i < j.tasks.length := by have := Hn.o; omega
   obtain ⟨hjn,hsn⟩ := HJ.o wr Hb.o; obtain ⟨tb,off,hTb,htb⟩ := hjn.ta (by omega); have hTe : TA = some ⟨tb,off,none⟩ := by rw [<- HTA.o]; exact hTb
   subst hTe; obtain ⟨ub,uoff,hue,hub,hcs⟩ := hsn (by have := Hst.o; omega); subst hue
   have s0 : wr.cell? ⟨ub,uoff + i,none⟩ = some (.int .i64 (st.getD i 0)) := by
    have hks : i < st.length := by have := Hst.o; omega
    have h := hcs i hks 0 _ rfl; rw [Nat.mul_one,Nat.add_zero] at h; rw [h,List.getD_eq_getElem?_getD,List.getElem?_eq_getElem hks]
    rfl
   obtain ⟨c0,c1,c2,c3⟩ := hjn.tcells hTb hil; have htk := HG.o.takes _ (j.Tp_mem hil); have hst9 := HT.o i; have hlb := lenTo_le HG.o HT.o i (by rw [j.nt]; omega); have HSn := hI (show lenTo j.p st (i + 1) = max (lenTo j.p st i) (st.getD i 0 + (j.T i).p.takes) by rw [<- j.pT]; rfl); generalize j.T i = t at c0 c1 c2 c3 htk HSn; generalize st.getD i 0 = s at s0 hst9 HSn; generalize lenTo j.p st i = L at hlb HSn; obtain ⟨tk,htk'⟩ : ∃ x,t.p.takes = x := ⟨_,rfl⟩
   rw [htk'] at c1 htk HSn; clear hjn hsn hcs hTb htk'; have q0 := W7.bc (j := 0) (HX00.o wr Hb.o) rfl; go_upto_region 5 with fail
   go_quiet (fail)
   go_wp2; go_roundw; case rel => exact ⟨i + 1,by omega,by go_num,by rw [HSn.o],hI (below_drewN Hb.o _)⟩
   case measure => simp [intOf]; omega
  ·have HE := hI (show lenOf j.p st = lenTo j.p st i by rw [HL.o,show n = i by omega]); go_wp2; go_ret; exact ⟨ret_int HE.o.symm,HU0.o _ Hb.o⟩
theorem refLength_any (j : Job) (st : List Int) (SA : Option Addr) (sn sc B : Nat) (w : World) (hj : JIn w B j) (hB : B <= w.heap.size) (hst : StIn w B SA sn sc st) (hr : ∀ i, -9223372036854775808 <= st.getD i 0 /\ st.getD i 0 <= 9223372036854775807) :
  Calls Tryz.prog 40 #[jobV j,.slice SA sn sc] w fun e w' => e = .returned (.tuple #[.int .i64 (lnV j.p st),.int .i64 (lnErr j.p st)]) /\ Bl w w' := by
 have hjv : jobV j = .agg #[.slice j.TA j.tasks.length j.tc,.slice j.RA j.res.length j.rc] := rfl; obtain ⟨n,hn⟩ : ∃ n,j.tasks.length = n := ⟨_,rfl⟩
 rw [hn] at hjv; obtain ⟨W0,HW0,hs0,HB0,HX00,HU0⟩ := boxes1 w (.cells #[.slice j.TA n j.tc,.slice j.RA j.res.length j.rc] 25); have HJ := hI (show ∀ X : World,Bl W0 X -> JIn X B j /\ StIn X B SA sn sc st from fun X hX => ⟨hj.below ((HU0.o X hX).mono hB),hst.below ((HU0.o X hX).mono hB)⟩); have HC := hI (refKeeps_any j st SA sn sc B W0 (HJ.o W0 (Below.refl _ _)).1 (by omega) (HJ.o W0 (Below.refl _ _)).2 hr); have Hlen := hI hst.len; have Hn := hI hn; have HKV := hI (show kpV j.p st = (decide (kpErr j.p st = 0) && keepsV j.p st) from rfl)
 have HL := hI (fun (X : World) (hX : Bl W0 X) (hk : kpErr j.p st = 0) (hv : keepsV j.p st = true) =>
  have hje : jobErr j.p = 0 := by
   unfold kpErr at hk
   by_cases h : jobErr j.p = 0
   ·exact h
   ·rw [if_pos h] at hk; exact absurd hk h
  have hl : st.length = j.tasks.length := by
   unfold kpErr at hk; rw [if_neg (by simpa using hje)] at hk
   by_cases h : st.length = j.p.tasks.length
   ·rw [h,j.nt]
   ·rw [if_neg h] at hk; cases hk
  (⟨hl,reflength_any j st SA sc B X (HJ.o X hX).1 (by have := hX.size; omega) (good_of hje) hl (keepsV_time (by rw [j.nt]; exact hl) hv) (HJ.o X hX).2.sl⟩ : st.length = j.tasks.length /\ _))
 have HE := hI (show lnErr j.p st = if kpErr j.p st ≠ 0 then kpErr j.p st else if keepsV j.p st then 0 else 8 from rfl); have HV := hI (show lnV j.p st = if lnErr j.p st = 0 then lenOf j.p st else 0 from rfl); rw [hjv] at HC HL ⊢; have q0 := W7.bc (j := 0) (HX00.o W0 (Below.refl _ _)) rfl; have q1 := W7.bc (j := 1) (HX00.o W0 (Below.refl _ _)) rfl; clear hj hst hn hjv hr; go_enter Tryz.func40,Tryz.ntmps40; go_upto_region 1 with fail; rw [<- HW0.o]; go_upto_region 2 with (go_at_call 20; refine HC.o.mono ?_; rintro e w1 ⟨rfl,hb1⟩; have hs1 := hb1.size; have Hb1 := hI hb1; clear hb1)
 clear q0 q1; have q0 := W7.bc (j := 0) (HX00.o w1 Hb1.o) rfl; have q1 := W7.bc (j := 1) (HX00.o w1 Hb1.o) rfl; cases h0 : (kpErr j.p st == 0)
 ·have h0' : (kpErr j.p st != 0) = true := by simp [bne,h0]
  have hne : kpErr j.p st ≠ 0 := fun h => by rw [h] at h0; cases h0
  have H1 := hI (show lnErr j.p st = kpErr j.p st by rw [HE.o,if_pos hne]); have H2 := hI (show lnV j.p st = 0 by rw [HV.o,H1.o,if_neg hne]); clear hne; go_wp2; go_ret2; rw [H1.o,H2.o]; exact ⟨rfl,HU0.o _ Hb1.o⟩
 have h0' : (kpErr j.p st != 0) = false := by simp [bne,h0]
 have hk0 : kpErr j.p st = 0 := eq_of_beq h0; have Hk0 := hI hk0; have HE1 := hI (show lnErr j.p st = if keepsV j.p st then 0 else 8 by rw [HE.o,if_neg (fun h => h hk0)]); have HKV2 := hI (show kpV j.p st = keepsV j.p st by rw [HKV.o,hk0]; simp); rw [HKV2.o]; cases hv : keepsV j.p st
 ·have H1 := hI (show lnErr j.p st = 8 by rw [HE1.o,hv]; rfl); have H2 := hI (show lnV j.p st = 0 by rw [HV.o,H1.o]; rfl); clear hk0; go_wp2; go_ret2; rw [H1.o,H2.o]; exact ⟨rfl,HU0.o _ Hb1.o⟩
 ·have H1 := hI (show lnErr j.p st = 0 by rw [HE1.o,hv]; rfl); have H2 := hI (show lnV j.p st = lenOf j.p st by rw [HV.o,H1.o]; rfl); obtain ⟨hl9,hL9⟩ := HL.o w1 Hb1.o hk0 hv; have hsn : sn = n := by rw [Hlen.o,hl9,Hn.o]
  rw [Hn.o] at hL9; have HL2 := hI hL9; subst hsn; clear hk0 hl9 hL9; go_wp2_with (go_at_call 103; refine HL2.o.mono ?_; rintro e w2 ⟨rfl,hb2⟩; have Hb2 := hI hb2; clear hb2); go_ret2; rw [H1.o,H2.o]; exact ⟨rfl,HU0.o _ (Hb1.o.trans (Hb2.o.mono (by omega)))⟩
end Go.Proofs.YtjpgnfekbojcaaaGreat
