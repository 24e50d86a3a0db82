/- The specification's least chain. -/
import Derived.Test.YtjpgnfekbojcaaaGreatWRFlo1
set_option maxHeartbeats 16000000
set_option maxRecDepth 100000
namespace W8
open W7
theorem chainGo_len {j : JobP} : ∀ (f : Nat) (last left : Int),(chainGo j f last left).length <= f
 | 0,_,_ => Nat.le_refl _
 | f + 1,last,left => by
  simp only [chainGo]; cases h : (List.range j.tasks.length).find? (nextB j last left) with
  | none => simp
  | some n =>
   simp only [List.length_cons]
   split
   ·simp
   ·have := chainGo_len (j := j) f n (left - (j.tasks.getD n default).takes); omega
end W8
namespace Go.Proofs.YtjpgnfekbojcaaaGreat
open Go.RowKit W7 W8
attribute [local go_sem] Oper.semAt_some
theorem one_ints (l : List Int) : ∀ u ∈ l.map (Value.int .i64),u.oneCell' = true := by
 intro u hu; obtain ⟨x,_,rfl⟩ := List.mem_map.1 hu
 rfl
theorem src_of_own {w : World} {base n c : Nat} {A : Option Addr} {xs : List Value} (h : w.ownsRow base 3 1 (.slice A n c) n xs) : Src w 1 A n xs := by
 have hl := h.1; rw [Nat.mul_one] at hl; rcases h.2 with ⟨h1,h2⟩ | ⟨g,cap,cur,he,hb,hg,h1,h2,h3,h4⟩
 ·simp only [Value.slice.injEq] at h1; exact .inl ⟨h1.1,h2,List.length_eq_zero_iff.1 (by omega)⟩
 ·simp only [Value.slice.injEq,true_and] at he; obtain ⟨rfl,rfl⟩ := he; refine .inr ⟨_,rfl,by rw [Nat.mul_one]; exact hl,fun k u hu => ?_⟩; rw [Nat.mul_one] at h4; have hk : k < n := by have := (List.getElem?_eq_some_iff.1 hu).1; omega
  have e : (⟨g,0,none⟩ : Addr).add k = ⟨g,k,none⟩ := by unfold Addr.add; split <;> simp_all
  rw [e]; refine bc hg ?_; rw [<- h4,List.getElem?_take_of_lt hk] at hu
  simpa using hu
theorem refChain_any (j : Job) (B : Nat) (h0 : jobErr j.p = 0) : ∀ (f : Nat) (last left : Int),f <= 1000 -> (last < 0 /\ j.tasks.length + 1 <= f \/ ∃ q : Nat,q < j.tasks.length /\ last = (q : Int) /\ j.tasks.length - rankOf j.p q <= f) -> 0 <= left /\ left <= 200000 -> -1 <= last -> ∀ (w : World),JIn w B j -> B <= w.heap.size →
  Calls Tryz.prog 120 #[jobV j,.int .i64 last,.int .i64 left] w fun e w' => ∃ v,e = .returned v /\ w'.ownsRow w.heap.size 3 1 v (chainGo j.p f last left).length ((chainGo j.p f last left).map (Value.int .i64)) /\ Bl w w' := by
 have hG := good_of h0; have hn64 : j.tasks.length <= 64 := by have := hG.nt; rw [j.nt] at this; exact this
 intro f
 induction f with
 | zero =>
  intro last left _ hlast; rcases hlast with ⟨_,h⟩ | ⟨q,hq,_,h⟩
  ·omega
  ·have := rank_lt h0 (n := q) (by rw [j.nt]; exact hq); rw [j.nt] at this; omega
 | succ f ih =>
 intro last left hf hlast hleft hlm w hj hB; obtain ⟨N,hN⟩ : ∃ N,j.tasks.length = N := ⟨_,rfl⟩
 obtain ⟨TA,hTA⟩ : ∃ x,j.TA = x := ⟨_,rfl⟩
 have htl := hj.tl; have htc := hj.tc; rw [hN] at htl hn64; have hjv : jobV j = .agg #[.slice TA N j.tc,.slice j.RA j.res.length j.rc] := by unfold jobV; rw [hN,hTA]
 have hlast65 : last <= 64 := by rcases hlast with ⟨h,_⟩ | ⟨q,hq,h,_⟩ <;> omega
 obtain ⟨W0,HW0,hs0,HB0,HX00,HU0⟩ := boxes1 w (.cells #[.slice TA N j.tc,.slice j.RA j.res.length j.rc] 25); have HJ := hI (show ∀ X : World,Bl W0 X -> JIn X B j from fun X hX => hj.below ((HU0.o X hX).mono hB))
 have HAb := hI (fun (i : Nat) (hi : i < N) (X : World) (hX : Bl W0 X) => show Calls Tryz.prog 117 #[.agg #[.slice TA N j.tc,.slice j.RA j.res.length j.rc],.int .i64 (i : Int)] X fun e w' => e = .returned (.int .i64 (lonV j.p i)) /\ Bl X w' from by
  have h := refAbove_any j B h0 _ i (by omega) (Nat.le_refl _) X (hj.below ((HU0.o X hX).mono hB)) (by have := hX.size; omega); rw [hjv] at h; exact h)
 have HRc := hI (fun (i : Nat) (hi : i < N) (hnx : nextB j.p last left i = true) (hl2 : ¬ left - (j.T i).p.takes <= 0) (X : World) (hX : Bl W0 X) => show Calls Tryz.prog 120 #[.agg #[.slice TA N j.tc,.slice j.RA j.res.length j.rc],.int .i64 (i : Int),.int .i64 (left - (j.T i).p.takes)] X fun e w' => ∃ v,e = .returned v /\ w'.ownsRow X.heap.size 3 1 v (chainGo j.p f i (left - (j.T i).p.takes)).length ((chainGo j.p f i (left - (j.T i).p.takes)).map (Value.int .i64)) /\ Bl X w' from by
  have hip : i < j.p.tasks.length := by rw [j.nt,hN]; exact hi
  have htk := hG.takes _ (j.Tp_mem (n := i) (by omega))
  have hrk : j.tasks.length - rankOf j.p i <= f := by
   rcases hlast with ⟨h1,h2⟩ | ⟨q,hq,h1,h2⟩
   ·omega
   ·have hc : (q : Int) ∈ (j.p.tasks.getD i default).needs := by
     unfold nextB at hnx; rw [h1,decide_eq_false (show ¬ (q : Int) < 0 by omega),Bool.false_or,Bool.and_eq_true] at hnx; exact List.contains_iff_mem.1 hnx.1
    have h3 := rank_needs h0 hip hc; rw [Int.toNat_natCast] at h3; have h4 := rank_lt h0 hip; rw [j.nt] at h4; omega
  have h := ih i (left - (j.T i).p.takes) (by omega) (.inr ⟨i,by omega,rfl,hrk⟩) (by omega) (by omega) X (hj.below ((HU0.o X hX).mono hB)) (by have := hX.size; omega); rw [hjv] at h; exact h)
 have Hn := hI hN; have HTA := hI hTA; have HG := hI hG; have HLv := hI (fun i hi => lonV_le hG (n := i) hi)
 have HFull := hI (fun (h : ∀ k,k < N -> nextB j.p last left k = false) => show chainGo j.p (f + 1) last left = [] from by
  rw [chainGo,find_range_no (fun k hk => h k (by rw [j.nt,hN] at hk; exact hk))])
 have HHit := hI (fun (i : Nat) (hi : i < N) (h : ∀ k,k < i -> nextB j.p last left k = false) (h2 : nextB j.p last left i = true) => show chainGo j.p (f + 1) last left = (i : Int) :: (if left - (j.T i).p.takes <= 0 then [] else chainGo j.p f i (left - (j.T i).p.takes)) from by
  rw [chainGo,find_range (by rw [j.nt,hN]; exact hi) h2 h]
  show (i : Int) :: (if left - (j.p.tasks.getD i default).takes <= 0 then [] else chainGo j.p f i (left - (j.p.tasks.getD i default).takes)) = _
  rw [j.pT])
 have HCl := hI (fun (i : Nat) (l : Int) => chainGo_len (j := j.p) f i l); obtain ⟨CG,hCG⟩ : ∃ x,chainGo j.p (f + 1) last left = x := ⟨_,rfl⟩
 rw [hCG] at HFull HHit ⊢; rw [hjv]; have q0 := W7.bc (j := 0) (HX00.o W0 (Below.refl _ _)) rfl; have q1 := W7.bc (j := 1) (HX00.o W0 (Below.refl _ _)) rfl; clear hj hN hTA hjv hG h0 ih hlast hCG; go_enter Tryz.func120,Tryz.ntmps120; go_upto_region 1 with fail; rw [<- HW0.o]; go_wp2; clear q0 q1; go_loopw [7] (fun v7 wr => ∃ i : Nat,i <= N /\ v7 = .int .i64 i /\ Hid (∀ k,k < i -> nextB j.p last left k = false) /\ Hid (Bl W0 wr)) (fun v7 _ => N - (intOf v7).toNat); case atStart => exact ⟨0,by omega,rfl,hI (fun k hk => absurd hk (by omega)),hI (Below.refl _ _)⟩
 case round =>
  obtain ⟨i,hi,rfl,Hno,Hb⟩ := hrel; have hsr := Hb.o.size; have q0 := W7.bc (j := 0) (HX00.o wr Hb.o) rfl; have q1 := W7.bc (j := 1) (HX00.o wr Hb.o) rfl
  by_cases hlt : i < N
  rotate_left
  ·have HE := hI (HFull.o (fun k hk => Hno.o k (by omega))); have HUx := hI (HU0.o wr Hb.o); go_wp2; go_ret; refine ⟨_,rfl,?_,HUx.o⟩; rw [HE.o]; exact World.ownsRow_nil _ _ _ _
  have hil : i < j.tasks.length := by have := Hn.o; omega
  have hip : i < j.p.tasks.length := by rw [j.nt]; exact hil
  have hjn := HJ.o wr Hb.o; obtain ⟨tb,off,hTb,htb⟩ := hjn.ta (by omega); have hTe : TA = some ⟨tb,off,none⟩ := by rw [<- HTA.o]; exact hTb
  subst hTe; have htkb := HG.o.takes _ (j.Tp_mem hil); have HTi := hI (show ∀ X : World,Bl W0 X -> X.cell? ⟨tb,off + i * 4 + 1,none⟩ = some (.int .i64 (j.T i).p.takes) /\ X.cell? ⟨tb,off + i * 4 + 2,none⟩ = some (.slice (j.T i).NA (j.T i).p.needs.length (j.T i).nc) /\ Sl X B 1 encInt1 (j.T i).NA (j.T i).p.needs from fun X hX => ⟨((HJ.o X hX).tcells HTA.o hil).2.1,((HJ.o X hX).tcells HTA.o hil).2.2.1,((HJ.o X hX).tks _ (j.T_mem hil)).ns⟩); have hnl := (hjn.tks _ (j.T_mem hil)).nl; have hnc := (hjn.tks _ (j.T_mem hil)).nc; have HNx := hI (show nextB j.p last left i = ((decide (last < 0) || (j.T i).p.needs.any (fun y => y == last)) && decide (left <= lonV j.p i)) by unfold nextB; rw [j.pT,any_contains]); have HRi := hI (HRc.o i hlt); have HHi := hI (HHit.o i hlt Hno.o); have HAi := hI (HAb.o i hlt); have HCi := hI (HCl.o i); have hlwb := HLv.o i hip; obtain ⟨lw,hlw⟩ : ∃ x,lonV j.p i = x := ⟨_,rfl⟩
  rw [hlw] at HNx HAi hlwb; generalize j.T i = t at htkb HTi hnl hnc HNx HRi HHi; obtain ⟨nn,hnn⟩ : ∃ x,t.p.needs.length = x := ⟨_,rfl⟩
  rw [hnn] at HTi hnl; have Hnn := hI hnn; obtain ⟨tk,htk⟩ : ∃ x,t.p.takes = x := ⟨_,rfl⟩
  rw [htk] at htkb HTi HRi HHi; clear hjn hTb hlw hnn htk; obtain ⟨wl,hwl⟩ : ∃ z,z = wr := ⟨_,rfl⟩
  subst hwl; have HNo := Hno; have HbL := Hb; go_wp2; clear q0 q1; go_loopw [8,9] (fun v8 v9 wr => ∃ k : Nat,k <= nn /\ v9 = .int .i64 k /\ v8 = .bool (decide (last < 0) || (t.p.needs.take k).any (fun y => y == last)) /\ Hid (Bl W0 wr)) (fun _ v9 _ => nn - (intOf v9).toNat); case atStart => exact ⟨0,by omega,rfl,by simp,HbL⟩
  case round =>
   obtain ⟨k,hk,rfl,rfl,Hb⟩ := hrel; have hsr2 := Hb.o.size; have q0 := W7.bc (j := 0) (HX00.o wr Hb.o) rfl; have q1 := W7.bc (j := 1) (HX00.o wr Hb.o) rfl; obtain ⟨t1,t2,hsl⟩ := HTi.o wr Hb.o
   by_cases hlt2 : k < nn
   ·have hkl : k < t.p.needs.length := by have := Hnn.o; omega
    obtain ⟨nb,no,hne,hnB,hcs⟩ := hsl (by omega); have n0 : wr.cell? ⟨nb,no + k,none⟩ = some (.int .i64 t.p.needs[k]) := by have h := hcs k hkl 0 _ rfl; rwa [Nat.mul_one,Nat.add_zero] at h
    have HSn := hI (any_take_hit (x := last) hkl); rw [hne] at t2; generalize t.p.needs[k] = qv at n0 HSn; obtain ⟨fb,hfb⟩ : ∃ fb,(decide (last < 0) || (t.p.needs.take k).any (fun y => y == last)) = fb := ⟨_,rfl⟩
    rw [hfb]; have Hfb := hI hfb; clear hcs hne hsl hfb; cases fb
    ·have HV := hI (show (qv == last) = (decide (last < 0) || (t.p.needs.take (k + 1)).any (fun y => y == last)) by rw [HSn.o, <- Bool.or_assoc,Hfb.o,Bool.false_or]); cases hq : (qv == last)
     ·rw [hq] at HV; go_wp2; go_roundw; case rel => exact ⟨k + 1,by omega,by go_num,by rw [<- HV.o],Hb⟩
      case measure => simp [intOf]; omega
     ·rw [hq] at HV; go_wp2; go_roundw; case rel => exact ⟨k + 1,by omega,by go_num,by rw [<- HV.o],Hb⟩
      case measure => simp [intOf]; omega
    ·have HV := hI (show true = (decide (last < 0) || (t.p.needs.take (k + 1)).any (fun y => y == last)) by rw [HSn.o, <- Bool.or_assoc,Hfb.o,Bool.true_or]); go_wp2; go_roundw; case rel => exact ⟨k + 1,by omega,by go_num,by rw [<- HV.o],Hb⟩
     case measure => simp [intOf]; omega
   have HFb := hI (show (decide (last < 0) || (t.p.needs.take k).any (fun y => y == last)) = (decide (last < 0) || t.p.needs.any (fun y => y == last)) by rw [List.take_of_length_le (by have := Hnn.o; omega)]); rw [HFb.o]; clear HFb hsl; generalize (decide (last < 0) || t.p.needs.any (fun y => y == last)) = fb at HNx; cases fb
   ·have HV := hI (show ∀ k,k < i + 1 -> nextB j.p last left k = false from fun k hk => by
     by_cases e : k = i
     ·rw [e,HNx.o,Bool.false_and]
     ·exact HNo.o k (by omega))
    go_wp2; go_roundw; case rel => exact ⟨i + 1,by omega,by go_num,HV,Hb⟩
    case measure => simp [intOf]; omega
   have HAc := hI (HAi.o wr Hb.o); cases hlw : decide (lw < left); rotate_left
   ·have HV := hI (show ∀ k,k < i + 1 -> nextB j.p last left k = false from fun k hk => by
     by_cases e : k = i
     ·rw [e,HNx.o,decide_eq_false (show ¬ left <= lw by have := of_decide_eq_true hlw; omega)]; rfl
     ·exact HNo.o k (by omega))
    go_wp2_with (go_at_call 117; refine HAc.o.mono ?_; rintro e w5 ⟨rfl,hb5⟩; have Hb5 := hI (Hb.o.trans (hb5.mono hsr2)); clear hb5); go_roundw; case rel => exact ⟨i + 1,by omega,by go_num,HV,Hb5⟩
    case measure => simp [intOf]; omega
   have HNy := hI (show nextB j.p last left i = true by rw [HNx.o,decide_eq_true (show left <= lw by have := of_decide_eq_false hlw; omega)]; rfl); have HE0 := hI (HHi.o HNy.o); go_upto_region 10 with (go_at_call 117; refine HAc.o.mono ?_; rintro e w6 ⟨rfl,hb6⟩; have Hb6 := hI (Hb.o.trans (hb6.mono hsr2)); clear hb6)
   clear q0 q1 t1 t2; have hs6 := Hb6.o.size; obtain ⟨WA,hW7⟩ : ∃ WA,WA = w6.alloc (.cells #[.int .i64 (i : Int)] 3) := ⟨_,rfl⟩
   have HO7 := hI (show WA.ownsRow w6.heap.size 3 1 (.slice (some ⟨w6.heap.size,0,none⟩) 1 1) 1 [.int .i64 (i : Int)] by rw [hW7]; exact World.ownsRow_lit (base := w6.heap.size) (e := 3) (size := 1) w6 #[.int .i64 (i : Int)] 1 (Nat.le_refl _) (by unfold maxLen; omega) rfl); have HB67 := hI (show Bl w6 WA by rw [hW7]; exact (Below.refl _ _).alloc (Nat.le_refl _) _); have hs7 := HB67.o.size; have HW7 := hI hW7; clear hW7; have HXe := hI (show ∀ X : World,Bl w6 X -> X.heap[w.heap.size]? = some (.cells #[.slice (some ⟨tb,off,none⟩) N j.tc,.slice j.RA j.res.length j.rc] 25 (0,0)) from fun X hX => HX00.o X (Hb6.o.trans (hX.mono (by omega)))); have HTe := hI (show ∀ X : World,Bl w6 X -> X.cell? ⟨tb,off + i * 4 + 1,none⟩ = some (.int .i64 tk) from fun X hX => (HTi.o X (Hb6.o.trans (hX.mono (by omega)))).1); go_upto_region 11 with fail
   try rw [<- HW7.o]
   have c9 := HTe.o WA HB67.o; have q0 := W7.bc (j := 0) (HXe.o WA HB67.o) rfl; have q1 := W7.bc (j := 1) (HXe.o WA HB67.o) rfl; cases hz : decide (left > tk)
   ·have HE1 := hI (show CG = [(i : Int)] by rw [HE0.o,if_pos (by have := of_decide_eq_false hz; omega)]); have HUx := hI (HU0.o _ (Hb6.o.trans (HB67.o.mono (by omega)))); go_wp2; go_ret; refine ⟨_,rfl,?_,HUx.o⟩; rw [HE1.o]; exact own_mono HO7.o (by omega)
   have hz' := of_decide_eq_true hz; have hnz : ¬ left - tk <= 0 := by omega
   have HE1 := hI (show CG = (i : Int) :: chainGo j.p f i (left - tk) by rw [HE0.o,if_neg hnz]); have HCh := hI (fun (X : World) (hX : Bl w6 X) => HRi.o HNy.o (by omega) X (Hb6.o.trans (hX.mono (by omega)))); have hcl := HCi.o (left - tk); obtain ⟨CL,hCL⟩ : ∃ x,chainGo j.p f i (left - tk) = x := ⟨_,rfl⟩
   rw [hCL] at HE1 HCh hcl; obtain ⟨k,hkl⟩ : ∃ x,CL.length = x := ⟨_,rfl⟩
   rw [hkl] at HCh hcl; have Hkl := hI hkl; clear hCL hkl; go_upto_region 12 with fail; clear q0 q1 c9
   obtain ⟨C,hC⟩ : ∃ C : (Nat -> Bool) -> (Nat -> Value) -> World -> Prop,C = fun L V w' => ∃ (e : Later w6),w' = e.w /\ (L 12 = false -> Hid (e.w.ownsRow w6.heap.size 3 1 (.slice (some ⟨w6.heap.size,0,none⟩) 1 1) 1 [.int .i64 (i : Int)])) /\ (L 12 = true -> L 11 = true) /\ (L 13 = true -> L 12 = true) /\ (L 13 = false -> V 13 = .slice (some ⟨w6.heap.size,0,none⟩) 1 1) /\ (L 12 = true -> L 0 = true) /\ (L 0 = true -> V 0 = .slice (some ⟨w6.heap.size,0,none⟩) 1 1) /\ (L 1 = true -> V 1 = .agg #[.slice (some ⟨tb,off,none⟩) N j.tc,.slice j.RA j.res.length j.rc]) /\ (L 2 = true -> V 2 = .int .i64 (i : Int)) /\ (L 3 = true -> V 3 = .int .i64 left) /\ (L 4 = true -> V 4 = .pointer (some ⟨w.heap.size,0,none⟩)) /\ (L 5 = true -> V 5 = .slice (some ⟨tb,off,none⟩) N j.tc) /\ (L 6 = true -> V 6 = .int .i64 (i : Int)) /\ (L 7 = true -> V 7 = .pointer (some ⟨tb,off + i * 4,none⟩)) /\ (L 8 = true -> V 8 = .pointer (some ⟨tb,off + i * 4 + 1,none⟩)) /\ (L 9 = true -> V 9 = .int .i64 tk) /\ (L 10 = true -> V 10 = .int .i64 (left - tk)) /\ (L 11 = true -> L 12 = false -> Hid (e.w.ownsRow w6.heap.size 3 1 (V 11) k (CL.map (Value.int .i64)))) /\ (L 12 = true -> Hid (e.w.ownsRow w6.heap.size 3 1 (V 12) (1 + k) ([.int .i64 (i : Int)] ++ CL.map (Value.int .i64)))) /\ (L 13 = true -> V 13 = V 12) := ⟨_,rfl⟩
   have HC := hI hC; clear hC; refine wp_region_opsA [64,65,66,67,68,69,70,71,72,73,74,75,76,10] C (by kernel_rfl) (by kernel_rfl) (by decide) (by kernel_rfl) (by kernel_rfl) ?_ ?_ ?_
   ·rw [HC.o]; exact ⟨⟨WA.drew,HB67.o.drew⟩,rfl,fun _ => HO7,nff,nff,fun _ => rfl,nff,nff,nff,nff,nff,nff,nff,nff,nff,nff,nff,nff,nff,nff,nff⟩
   ·rintro L V w' ii o AA hii ho hLi haf hInv hAA hFF; rw [HC.o] at hInv; obtain ⟨e,rfl,p0,p1,p2,p3,p4,h0,h1,h2,h3,h4,h5,h6,h7,h8,h9,h10,h11,h12,h13⟩ := hInv; rcases ii with _ | _ | _ | _ | _ | _ | _ | _ | _ | _ | _ | _ | _ | _ | ii; case succ.succ.succ.succ.succ.succ.succ.succ.succ.succ.succ.succ.succ.succ => (simp at hii; try omega)
    all_goals (simp only [List.getElem?_cons_zero,List.getElem?_cons_succ,Option.some.injEq] at ho; subst ho)
    all_goals clear hii
    ·have hl13 : L 13 = false := (by cases h9 : L 13 with | false => rfl | true => exact absurd (hLi.symm.trans (p4 (p2 h9))) (by decide))
     have f10 : AA.tmps[10]?.getD undef = .slice (some ⟨w6.heap.size,0,none⟩) 1 1 := (hAA.out 13 10 rfl).trans (p3 hl13); go_wp2; rw [HC.o]; exact ⟨_,rfl,e,rfl,p0,p1,p2,p3,fun _ => rfl,fun _ => rfl,h1,h2,h3,h4,h5,h6,h7,h8,h9,h10,h11,h12,h13⟩
    ·have f3 : AA.tmps[3]?.getD undef = .pointer (some ⟨w.heap.size,0,none⟩) := hFF.out 3 (by decide); have q0 := W7.bc (j := 0) (HXe.o e.w e.b) rfl; have q1 := W7.bc (j := 1) (HXe.o e.w e.b) rfl; go_wp2; rw [HC.o]; exact ⟨_,rfl,e,rfl,p0,p1,p2,p3,p4,h0,fun _ => rfl,h2,h3,h4,h5,h6,h7,h8,h9,h10,h11,h12,h13⟩
    ·have f7 : AA.tmps[7]?.getD undef = .int .i64 (i : Int) := hFF.out 7 (by decide); go_wp2; rw [HC.o]; exact ⟨_,rfl,e,rfl,p0,p1,p2,p3,p4,h0,h1,fun _ => rfl,h3,h4,h5,h6,h7,h8,h9,h10,h11,h12,h13⟩
    ·have f2 : AA.tmps[2]?.getD undef = .int .i64 left := hFF.out 2 (by decide); go_wp2; rw [HC.o]; exact ⟨_,rfl,e,rfl,p0,p1,p2,p3,p4,h0,h1,h2,fun _ => rfl,h4,h5,h6,h7,h8,h9,h10,h11,h12,h13⟩
    ·have f3 : AA.tmps[3]?.getD undef = .pointer (some ⟨w.heap.size,0,none⟩) := hFF.out 3 (by decide); go_wp2; rw [HC.o]; exact ⟨_,rfl,e,rfl,p0,p1,p2,p3,p4,h0,h1,h2,h3,fun _ => rfl,h5,h6,h7,h8,h9,h10,h11,h12,h13⟩
    ·have a4 := (hAA.out 4 68 rfl).trans (h4 (haf ⟨4,.data⟩ (by simp) rfl)); have q0 := W7.bc (j := 0) (HXe.o e.w e.b) rfl; have q1 := W7.bc (j := 1) (HXe.o e.w e.b) rfl; go_wp2; rw [HC.o]; exact ⟨_,rfl,e,rfl,p0,p1,p2,p3,p4,h0,h1,h2,h3,h4,fun _ => rfl,h6,h7,h8,h9,h10,h11,h12,h13⟩
    ·have f7 : AA.tmps[7]?.getD undef = .int .i64 (i : Int) := hFF.out 7 (by decide); go_wp2; rw [HC.o]; exact ⟨_,rfl,e,rfl,p0,p1,p2,p3,p4,h0,h1,h2,h3,h4,h5,fun _ => rfl,h7,h8,h9,h10,h11,h12,h13⟩
    ·have a5 := (hAA.out 5 69 rfl).trans (h5 (haf ⟨5,.data⟩ (by simp) rfl)); have a6 := (hAA.out 6 70 rfl).trans (h6 (haf ⟨6,.data⟩ (by simp) rfl)); go_wp2; rw [HC.o]; exact ⟨_,rfl,e,rfl,p0,p1,p2,p3,p4,h0,h1,h2,h3,h4,h5,h6,fun _ => rfl,h8,h9,h10,h11,h12,h13⟩
    ·have a7 := (hAA.out 7 71 rfl).trans (h7 (haf ⟨7,.data⟩ (by simp) rfl)); go_wp2; rw [HC.o]; exact ⟨_,rfl,e,rfl,p0,p1,p2,p3,p4,h0,h1,h2,h3,h4,h5,h6,h7,fun _ => rfl,h9,h10,h11,h12,h13⟩
    ·have a8 := (hAA.out 8 72 rfl).trans (h8 (haf ⟨8,.data⟩ (by simp) rfl)); have c9 := HTe.o e.w e.b; go_wp2; rw [HC.o]; exact ⟨_,rfl,e,rfl,p0,p1,p2,p3,p4,h0,h1,h2,h3,h4,h5,h6,h7,h8,fun _ => rfl,h10,h11,h12,h13⟩
    ·have a3 := (hAA.out 3 67 rfl).trans (h3 (haf ⟨3,.data⟩ (by simp) rfl)); have a9 := (hAA.out 9 73 rfl).trans (h9 (haf ⟨9,.data⟩ (by simp) rfl)); go_wp2; rw [HC.o]; exact ⟨_,rfl,e,rfl,p0,p1,p2,p3,p4,h0,h1,h2,h3,h4,h5,h6,h7,h8,h9,fun _ => rfl,h11,h12,h13⟩
    ·have a1 := (hAA.out 1 65 rfl).trans (h1 (haf ⟨1,.data⟩ (by simp) rfl)); have a2 := (hAA.out 2 66 rfl).trans (h2 (haf ⟨2,.data⟩ (by simp) rfl)); have a10 := (hAA.out 10 74 rfl).trans (h10 (haf ⟨10,.data⟩ (by simp) rfl)); have HC9 := hI (HCh.o e.w e.b); have hse := e.b.size; go_wp2_with (go_at_call 120; refine HC9.o.mono ?_; rintro r w5 ⟨v5,rfl,ho5,hb5⟩; have Ho5 := hI (own_mono ho5 hse); have Hb5 := hI hb5; clear ho5 hb5); rw [HC.o]; exact ⟨_,rfl,⟨w5,e.b.trans (Hb5.o.mono hse)⟩,rfl,fun y => hI (own_below (p0 y).out Hb5.o),fun _ => rfl,p2,p3,p4,h0,h1,h2,h3,h4,h5,h6,h7,h8,h9,h10,fun _ _ => Ho5,fun y => absurd (p1 y) (by rw [hLi]; decide),h13⟩
    ·have a0 := (hAA.out 0 64 rfl).trans (h0 (haf ⟨0,.data⟩ (by simp) rfl)); have a11 := hAA.out 11 75 rfl; have Hp := p0 hLi; have Hr := h11 (haf ⟨11,.data⟩ (by simp) rfl) hLi; obtain ⟨A9,c9,e9,_,_⟩ := own_cap' Hr.o; have Hr2 := hI (show e.w.ownsRow w6.heap.size 3 1 (.slice A9 k c9) k (CL.map (Value.int .i64)) by rw [<- e9]; exact Hr.o); have hse := e.b.size; refine wpList_appendL rfl _ _ 26 rfl w6.heap.size 3 _ 1 8 elemI _ 1 _ (by rw [<- a0]; simp [Act.eval]) Hp.o A9 k c9 _ (by rw [<- e9, <- a11]; simp [Act.eval]) (src_of_own Hr2.o) (one_ints _) (by omega) hse ?_; intro v5 w5 hown5 hb5 hsz5 hg5 hblk5; have Ho5 := hI hown5; have Hb5 := hI hb5; clear hown5 hb5 hsz5 hg5 hblk5; go_wp2; rw [HC.o]
     exact ⟨_,rfl,⟨w5,e.b.trans Hb5.o⟩,rfl,fun y => absurd y (by simp),fun _ => haf ⟨11,.data⟩ (by simp) rfl,fun _ => rfl,p3,fun _ => haf ⟨0,.data⟩ (by simp) rfl,h0,h1,h2,h3,h4,h5,h6,h7,h8,h9,h10,fun _ y => absurd y (by simp),fun _ => Ho5,fun y => (by have h9 := p2 y; rw [h9] at hLi; cases hLi)⟩
    ·have a12 := hAA.out 12 76 rfl; go_wp2; rw [HC.o]; exact ⟨_,rfl,e,rfl,p0,p1,fun _ => haf ⟨12,.data⟩ (by simp) rfl,fun y => absurd y (by simp),p4,h0,h1,h2,h3,h4,h5,h6,h7,h8,h9,h10,h11,h12,fun _ => rfl⟩
   rintro L V w' hL hInv; rw [HC.o] at hInv; obtain ⟨e,rfl,p0,p1,p2,p3,p4,h0,h1,h2,h3,h4,h5,h6,h7,h8,h9,h10,h11,h12,h13⟩ := hInv; have k0 := h0 (hL 0 (by simp)); have k1 := h1 (hL 1 (by simp)); have k2 := h2 (hL 2 (by simp)); have k3 := h3 (hL 3 (by simp)); have k4 := h4 (hL 4 (by simp)); have k5 := h5 (hL 5 (by simp)); have k6 := h6 (hL 6 (by simp)); have k7 := h7 (hL 7 (by simp)); have k8 := h8 (hL 8 (by simp)); have k9 := h9 (hL 9 (by simp)); have k10 := h10 (hL 10 (by simp)); have k11 := h11 (hL 11 (by simp)); have k12 := h12 (hL 12 (by simp)); have k13 := h13 (hL 13 (by simp)); clear h0 h1 h2 h3 h4 h5 h6 h7 h8 h9 h10 h11 h12 h13 hL HC; have HBe := hI (HU0.o _ (Hb6.o.trans (e.b.mono (by omega)))); have Hk := hI (Hid.o k12); clear k0 k1 k2 k3 k4 k5 k6 k7 k8 k9 k10 k11 k12 p0 p1 p2 p3 p4 HCh; generalize e.w = w8 at HBe Hk; simp only [putAll]; rw [k13]; obtain ⟨A9,c9,e9,_,_⟩ := own_cap' Hk.o; rw [e9] at Hk ⊢; clear k13 e9; go_frame; go_wp2; go_ret
   refine ⟨_,rfl,?_,HBe.o⟩; rw [HE1.o,List.length_cons,Hkl.o,List.map_cons,Nat.add_comm k 1]; exact own_mono Hk.o (by omega)
end Go.Proofs.YtjpgnfekbojcaaaGreat
