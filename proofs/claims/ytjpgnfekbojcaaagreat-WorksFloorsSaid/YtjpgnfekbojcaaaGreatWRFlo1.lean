/- The specification's chains and what resources have: above,work,has. -/
import Derived.Test.YtjpgnfekbojcaaaGreatWRJob5
set_option maxHeartbeats 8000000
set_option maxRecDepth 100000
namespace W8
open W7
theorem any_take_hit {l : List Int} {k : Nat} (hk : k < l.length) {x : Int} : (l.take (k + 1)).any (fun y => y == x) = ((l.take k).any (fun y => y == x) || l[k] == x) := by
 rw [List.take_succ_eq_append_getElem hk,List.any_append]; simp
theorem any_contains {l : List Int} {x : Int} : l.any (fun y => y == x) = l.contains x := by
 rw [Bool.eq_iff_iff,List.any_eq_true,List.contains_iff_mem]
 constructor
 ·rintro ⟨y,hy,he⟩; have := eq_of_beq he; subst this; exact hy
 ·exact fun h => ⟨x,h,by simp⟩
theorem offTo_min {m L : Int} : ∀ {l : List JSpan},(∀ s ∈ l,L <= s.lo /\ s.lo <= s.hi) -> (l.Pairwise fun a b => a.hi < b.lo) -> offTo m l <= max (m - L) 0
 | [],_,_ => by simp only [offTo]; omega
 | s :: l,h,hp => by
  have h1 := h s (List.mem_cons_self ..); rw [List.pairwise_cons] at hp; have h2 := offTo_min (m := m) (L := s.hi + 1) (l := l) (fun x hx => ⟨by have := hp.1 x hx; omega,(h x (List.mem_cons_of_mem _ hx)).2⟩) hp.2; simp only [offTo]; omega
theorem offTo_grow {m m' L : Int} (hm : m <= m') : ∀ {l : List JSpan},(∀ s ∈ l,L <= s.lo /\ s.lo <= s.hi) -> (l.Pairwise fun a b => a.hi < b.lo) -> offTo m' l - offTo m l <= max (m' - max m L) 0
 | [],_,_ => by simp only [offTo]; omega
 | s :: l,h,hp => by
  have h1 := h s (List.mem_cons_self ..); rw [List.pairwise_cons] at hp; have h2 := offTo_grow (m := m) (m' := m') (L := s.hi + 1) hm (l := l) (fun x hx => ⟨by have := hp.1 x hx; omega,(h x (List.mem_cons_of_mem _ hx)).2⟩) hp.2; simp only [offTo]; omega
theorem off_good {j : JobP} (hG : JGood j) {r : ResP} (hr : r ∈ j.res) : (∀ s ∈ r.off,0 <= s.lo /\ s.lo <= s.hi) /\ r.off.Pairwise fun a b => a.hi < b.lo :=
 ⟨fun s hs => ⟨(hG.off r hr s hs).1,(hG.off r hr s hs).2.1⟩,hG.offs r hr⟩
end W8
namespace Go.Proofs.YtjpgnfekbojcaaaGreat
open Go.RowKit W7 W8
attribute [local go_sem] Oper.semAt_some
theorem refAbove_any (j : Job) (B : Nat) (h0 : jobErr j.p = 0) : ∀ (d n : Nat),n < j.tasks.length -> j.tasks.length - rankOf j.p n <= d -> ∀ (w : World),JIn w B j -> B <= w.heap.size →
  Calls Tryz.prog 117 #[jobV j,.int .i64 (n : Int)] w fun e w' => e = .returned (.int .i64 (lonV j.p n)) /\ Bl w w' := by
 have hG := good_of h0; intro d
 induction d with
 | zero =>
  intro n hn hd; have := rank_lt h0 (n := n) (by rw [j.nt]; exact hn); rw [j.nt] at this; omega
 | succ d ih =>
 intro n hn hd w hj hB; obtain ⟨N,hN⟩ : ∃ N,j.tasks.length = N := ⟨_,rfl⟩
 have hn64 : N <= 64 := by have := hG.nt; rw [j.nt,hN] at this; exact this
 obtain ⟨tb,off,hTA,htb⟩ := hj.ta (by omega); have htl := hj.tl; have htc := hj.tc; rw [hN] at htl; have hjv : jobV j = .agg #[.slice (some ⟨tb,off,none⟩) N j.tc,.slice j.RA j.res.length j.rc] := by unfold jobV; rw [hN,hTA]
 obtain ⟨W0,HW0,hs0,HB0,HX00,HU0⟩ := boxes1 w (.cells #[.slice (some ⟨tb,off,none⟩) N j.tc,.slice j.RA j.res.length j.rc] 25); have HJ := hI (show ∀ X : World,Bl W0 X -> JIn X B j from fun X hX => hj.below ((HU0.o X hX).mono hB))
 have HIH := hI (fun (i : Nat) (hi : i < N) (hc : (n : Int) ∈ (j.T i).p.needs) (X : World) (hX : Bl W0 X) => show Calls Tryz.prog 117 #[.agg #[.slice (some ⟨tb,off,none⟩) N j.tc,.slice j.RA j.res.length j.rc],.int .i64 (i : Int)] X fun e w' => e = .returned (.int .i64 (lonV j.p i)) /\ Bl X w' from by
  have hil : i < j.p.tasks.length := by rw [j.nt,hN]; exact hi
  have h1 := rank_needs h0 hil (m := (n : Int)) (by rw [j.pT]; exact hc); rw [Int.toNat_natCast] at h1; have h2 := rank_lt h0 hil; rw [j.nt] at h2; have h := ih i (by omega) (by omega) X (hj.below ((HU0.o X hX).mono hB)) (by have := hX.size; omega); rw [hjv] at h; exact h)
 have Hn := hI hN; have HTA := hI hTA; have HG := hI hG; have HL := hI (show lonV j.p n = lonTo j.p n N + (j.T n).p.takes by rw [lonV_eq h0,j.pT,j.nt,hN]; omega); have HLb := hI (fun i hi => lonTo_le hG n (i := i) hi); have HLv := hI (fun i hi => lonV_le hG (n := i) hi); have htn := hG.takes _ (j.Tp_mem hn); obtain ⟨lv,hlv⟩ : ∃ x,lonV j.p n = x := ⟨_,rfl⟩
 rw [hlv] at HL ⊢; rw [hjv]; rw [hN] at hn; have hmx := max_run Tryz.prog; have q0 := W7.bc (j := 0) (HX00.o W0 (Below.refl _ _)) rfl; have q1 := W7.bc (j := 1) (HX00.o W0 (Below.refl _ _)) rfl; clear hj hN hTA hjv hG h0 ih hd hlv; go_enter Tryz.func117,Tryz.ntmps117; go_upto_region 1 with fail; rw [<- HW0.o]; go_wp2; clear q0 q1; go_loopw [5,6] (fun v5 v6 wr => ∃ i : Nat,i <= N /\ v6 = .int .i64 i /\ v5 = .int .i64 (lonTo j.p n i) /\ Hid (Bl W0 wr)) (fun _ v6 _ => N - (intOf v6).toNat); case atStart => exact ⟨0,by omega,rfl,rfl,hI (Below.refl _ _)⟩
 case round =>
  obtain ⟨i,hi,rfl,rfl,Hb⟩ := hrel; have hsr := Hb.o.size; have q0 := W7.bc (j := 0) (HX00.o wr Hb.o) rfl
  by_cases hlt : i < N
  rotate_left
  ·have hnl : n < j.tasks.length := by have := Hn.o; omega
   obtain ⟨_,c1,_,_⟩ := (HJ.o wr Hb.o).tcells HTA.o hnl; have HE := hI (show lv = lonTo j.p n i + (j.T n).p.takes by rw [HL.o,show N = i by omega]); have hlb := HLb.o i (by rw [j.nt,Hn.o]; omega); generalize (j.T n).p.takes = tk at c1 HE htn; generalize lonTo j.p n i = L at hlb HE; have HUx := hI (HU0.o wr Hb.o); go_wp2; go_ret; exact ⟨ret_int HE.o.symm,HUx.o⟩
  have hil : i < j.tasks.length := by have := Hn.o; omega
  have hip : i < j.p.tasks.length := by rw [j.nt]; exact hil
  obtain ⟨M,hM⟩ : ∃ M,lonTo j.p n i = M := ⟨_,rfl⟩
  have hMb := HLb.o i (by omega); rw [hM] at hMb; rw [hM]; obtain ⟨lw,hlw⟩ : ∃ x,lonV j.p i = x := ⟨_,rfl⟩
  have hlwb := HLv.o i hip; rw [hlw] at hlwb; have HSt := hI (show lonTo j.p n (i + 1) = if (j.T i).p.needs.any (fun y => y == (n : Int)) then max M lw else M by rw [lonTo_succ,hM]; unfold lonStep; rw [j.pT,hlw,any_contains]); have HIi := hI (HIH.o i hlt); rw [hlw] at HIi; have HTi := hI (show ∀ X : World,Bl W0 X -> X.cell? ⟨tb,off + i * 4 + 2,none⟩ = some (.slice (j.T i).NA (j.T i).p.needs.length (j.T i).nc) /\ Sl X B 1 encInt1 (j.T i).NA (j.T i).p.needs from fun X hX => ⟨((HJ.o X hX).tcells HTA.o hil).2.2.1,((HJ.o X hX).tks _ (j.T_mem hil)).ns⟩); have hnl := ((HJ.o wr Hb.o).tks _ (j.T_mem hil)).nl; have hnc := ((HJ.o wr Hb.o).tks _ (j.T_mem hil)).nc; generalize j.T i = t at HSt HIi HTi hnl hnc; obtain ⟨nn,hnn⟩ : ∃ x,t.p.needs.length = x := ⟨_,rfl⟩
  rw [hnn] at HTi hnl; have Hnn := hI hnn; clear hM hlw hnn; obtain ⟨wl,hwl⟩ : ∃ z,z = wr := ⟨_,rfl⟩
  subst hwl; go_wp2; clear q0; go_loopw [5,7] (fun v5 v7 wr => ∃ k : Nat,k <= nn /\ v7 = .int .i64 k /\ v5 = .int .i64 (if (t.p.needs.take k).any (fun y => y == (n : Int)) then max M lw else M) /\ Hid (Bl W0 wr)) (fun _ v7 _ => nn - (intOf v7).toNat); case atStart => exact ⟨0,by omega,rfl,by simp,Hb⟩
  case round =>
   obtain ⟨k,hk,rfl,rfl,Hb2⟩ := hrel; have hsr2 := Hb2.o.size; have q0 := W7.bc (j := 0) (HX00.o wr Hb2.o) rfl; have q1 := W7.bc (j := 1) (HX00.o wr Hb2.o) rfl; obtain ⟨t2,hsl⟩ := HTi.o wr Hb2.o
   by_cases hlt2 : k < nn
   rotate_left
   ·have HV := hI (show (if (t.p.needs.take k).any (fun y => y == (n : Int)) then max M lw else M) = lonTo j.p n (i + 1) by rw [HSt.o,List.take_of_length_le (by have := Hnn.o; omega)]); clear hsl; generalize (if (t.p.needs.take k).any (fun y => y == (n : Int)) then max M lw else M) = cv at HV; go_wp2; go_roundw; case rel => exact ⟨i + 1,by omega,by go_num,by rw [HV.o],Hb2⟩
    case measure => simp [intOf]; omega
   have hkl : k < t.p.needs.length := by have := Hnn.o; omega
   obtain ⟨nb,no,hne,hnB,hcs⟩ := hsl (by omega); have n0 : wr.cell? ⟨nb,no + k,none⟩ = some (.int .i64 t.p.needs[k]) := by have h := hcs k hkl 0 _ rfl; rwa [Nat.mul_one,Nat.add_zero] at h
   have HNx := hI (any_take_hit (x := (n : Int)) hkl); have HMm := hI (List.getElem_mem hkl); rw [hne] at t2; generalize t.p.needs[k] = qv at n0 HNx HMm; generalize (t.p.needs.take k).any (fun y => y == (n : Int)) = fb at HNx; obtain ⟨cv,hcv⟩ : ∃ cv,(if fb = true then max M lw else M) = cv := ⟨_,rfl⟩
   rw [hcv]; have hcvb : 0 <= cv /\ cv <= 6500000 := by rw [<- hcv]; split <;> omega
   have Hcv := hI hcv; clear hcs hne hsl hcv; cases hq : (qv == (n : Int))
   ·have HV := hI (show cv = if (t.p.needs.take (k + 1)).any (fun y => y == (n : Int)) then max M lw else M by rw [HNx.o,hq,Bool.or_false]; exact Hcv.o.symm); go_wp2; go_roundw; case rel => exact ⟨k + 1,by omega,by go_num,by rw [HV.o],Hb2⟩
    case measure => simp [intOf]; omega
   ·have HV := hI (show max cv lw = if (t.p.needs.take (k + 1)).any (fun y => y == (n : Int)) then max M lw else M by
     rw [HNx.o,hq,Bool.or_true,if_pos rfl, <- Hcv.o]
     split <;> omega)
    have HCl := hI (HIi.o (by rw [<- eq_of_beq hq]; exact HMm.o) wr Hb2.o); go_wp2_with (go_at_call 117; refine HCl.o.mono ?_; rintro e w5 ⟨rfl,hb5⟩; have Hb5 := hI (Hb2.o.trans (hb5.mono hsr2)); clear hb5); go_roundw; case rel => exact ⟨k + 1,by omega,by go_num,by rw [HV.o],Hb5⟩
    case measure => simp [intOf]; omega
theorem refWork_any (j : Job) (r : Int) (B : Nat) (w : World) (hj : JIn w B j) (hB : B <= w.heap.size) (hG : JGood j.p) :
  Calls Tryz.prog 118 #[jobV j,.int .i64 r] w fun e w' => e = .returned (.int .i64 (workV j.p r)) /\ Bl w w' := by
 obtain ⟨n,hn⟩ : ∃ n,j.tasks.length = n := ⟨_,rfl⟩
 obtain ⟨TA,hTA⟩ : ∃ x,j.TA = x := ⟨_,rfl⟩
 have hjv : jobV j = .agg #[.slice TA n j.tc,.slice j.RA j.res.length j.rc] := by unfold jobV; rw [hn,hTA]
 rw [hjv]; have hn64 : n <= 64 := by have := hG.nt; rw [j.nt,hn] at this; exact this
 have htl := hj.tl; have htc := hj.tc; rw [hn] at htl; obtain ⟨W0,HW0,hs0,HB0,HX00,HU0⟩ := boxes1 w (.cells #[.slice TA n j.tc,.slice j.RA j.res.length j.rc] 25); have HJ := hI (show ∀ X : World,Bl W0 X -> JIn X B j from fun X hX => hj.below ((HU0.o X hX).mono hB)); have Hn := hI hn; have HTA := hI hTA; have HG := hI hG; have HWb := hI (fun i hi => workTo_le hG r i hi); have HV := hI (show workV j.p r = workTo j.p r n by unfold workV; rw [j.nt,hn]); obtain ⟨wv,hwv⟩ : ∃ x,workV j.p r = x := ⟨_,rfl⟩
 rw [hwv] at HV ⊢; have q0 := W7.bc (j := 0) (HX00.o W0 (Below.refl _ _)) rfl; have q1 := W7.bc (j := 1) (HX00.o W0 (Below.refl _ _)) rfl; clear hj hn hTA hjv hG hwv; go_enter Tryz.func118,Tryz.ntmps118; go_upto_region 1 with fail; rw [<- HW0.o]; go_wp2; clear q0 q1; go_loopw [5,6] (fun v5 v6 wr => ∃ i : Nat,i <= n /\ v6 = .int .i64 i /\ v5 = .int .i64 (workTo j.p r i) /\ Hid (Bl W0 wr)) (fun _ v6 _ => n - (intOf v6).toNat); case atStart => exact ⟨0,by omega,rfl,rfl,hI (Below.refl _ _)⟩
 case round =>
  obtain ⟨i,hi,rfl,rfl,Hb⟩ := hrel; have hsr := Hb.o.size; have hq := HX00.o wr Hb.o
  by_cases hlt : i < n
  rotate_left
  ·have HE := hI (show wv = workTo j.p r i by rw [HV.o,show n = i by omega]); have HUx := hI (HU0.o wr Hb.o); have q0 := W7.bc (j := 0) hq rfl; have q1 := W7.bc (j := 1) hq rfl; generalize workTo j.p r i = x at HE; go_wp2; go_ret; exact ⟨ret_int HE.o.symm,HUx.o⟩
  have hil : i < j.tasks.length := by have := Hn.o; omega
  have hip : i + 1 <= j.p.tasks.length := by rw [j.nt]; omega
  have hjn := HJ.o wr Hb.o; obtain ⟨tb,off,hTb,htb⟩ := hjn.ta (by omega); have hTe : TA = some ⟨tb,off,none⟩ := by rw [<- HTA.o]; exact hTb
  subst hTe; obtain ⟨c0,c1,c2,c3⟩ := hjn.tcells hTb hil; have htk := HG.o.takes _ (j.Tp_mem hil); have hb1 := HWb.o i (by omega); have hb2 := HWb.o (i + 1) hip; have hpc := pieces_good HG.o (j.Tp_mem hil) r (j.T i).p.uses.length; rw [List.take_length] at hpc
  have HSu := hI (show workTo j.p r (i + 1) = workTo j.p r i + (j.T i).p.takes * usesV r (j.T i).p.uses by
   show workTo j.p r i + (j.p.tasks.getD i default).takes * pieces r (j.p.tasks.getD i default).uses = _
   rw [j.pT,pieces_uses (HG.o.nuses _ (j.Tp_mem hil))])
  rw [pieces_uses (HG.o.nuses _ (j.Tp_mem hil))] at hpc; rw [HSu.o] at hb2; have HTk := hI (hjn.tks _ (j.T_mem hil)); generalize j.T i = t at c0 c1 c2 c3 htk HSu HTk hb2 hpc; have HUs := hI (fun (e : Later wr) => refUses_any t r B e.w (HTk.o.below (e.b.mono (by omega))) (by have := e.b.size; omega)); generalize usesV r t.p.uses = uv at HSu HUs hb2 hpc; obtain ⟨tk,htk'⟩ : ∃ x,t.p.takes = x := ⟨_,rfl⟩
  rw [htk'] at c1 htk HSu hb2 HUs; generalize workTo j.p r i = S at hb1 hb2 HSu; have hml : 0 <= tk * uv := Int.mul_nonneg htk.1 hpc.1; have hmu : tk * uv <= 100000 * 1000 := Int.mul_le_mul htk.2 hpc.2 hpc.1 (by omega); have y0 := later_cell (bc (j := 0) hq rfl) (by omega); have z0 := later_cell c0 (by omega); have z1 := later_cell c1 (by omega); have z2 := later_cell c2 (by omega); have z3 := later_cell c3 (by omega); have q0 := W7.bc (j := 0) hq rfl; have q1 := W7.bc (j := 1) hq rfl; clear hjn hTb htk' c0 c1 c2 c3; go_upto_region 5 with fail; clear q0 q1 hq; refine wp_region_later (by kernel_rfl) (by kernel_rfl) ?_
  repeat (any_goals (first | go_big_quiet_step ((go_at_call 79; exact later_call _ (HUs.o _))) | quiet_step ((go_at_call 79; exact later_call _ (HUs.o _)))))
  refine wpQuiet_nil ?_; rintro w' ⟨e5,rfl⟩; have Hb5 := hI (Hb.o.trans (e5.b.mono hsr)); go_wp2; go_roundw; case rel => exact ⟨i + 1,by omega,by go_num,by rw [HSu.o],Hb5⟩
  case measure => simp [intOf]; omega
theorem refHas_any (j : JobP) (r : Res) (m : Int) (B : Nat) (w : World) (hr : RsIn w B r) (hB : B <= w.heap.size) (hG : JGood j) (hrm : r.p ∈ j.res) (hm : 0 <= m /\ m <= 1099511627776) :
  Calls Tryz.prog 119 #[.agg #[.string r.p.name,.int .i64 r.p.many,.slice r.OA r.p.off.length r.oc],.int .i64 m] w fun e w' => e = .returned (.int .i64 (roomV r.p m)) /\ Bl w w' := by
 have hg := off_good hG hrm; have hob := hG.off _ hrm; have hmany := hG.many _ hrm; have hn16 := hG.noff _ hrm; obtain ⟨on,hon⟩ : ∃ x,r.p.off.length = x := ⟨_,rfl⟩
 obtain ⟨mn,hmn⟩ : ∃ x,r.p.many = x := ⟨_,rfl⟩
 rw [hmn] at hmany; rw [hon] at hn16; have hol := hr.ol; have hoc := hr.oc; rw [hon] at hol
 have HOb := hI (fun k => show 0 <= offTo m (r.p.off.take k) /\ offTo m (r.p.off.take k) <= m from by
  have h1 := offTo_le (m := m) (l := r.p.off.take k) (fun s hs => hob s (List.mem_of_mem_take hs)); have h2 := offTo_min (m := m) (L := 0) (l := r.p.off.take k) (fun s hs => hg.1 s (List.mem_of_mem_take hs)) (List.Pairwise.sublist (List.take_sublist k _) hg.2); omega)
 have HV := hI (show roomV r.p m = (m - offTo m r.p.off) * mn by
  have h1 := HOb.o on; rw [List.take_of_length_le (by omega)] at h1; unfold roomV; rw [hmn,show max (min m 1099511627776 - offTo m r.p.off) 0 = m - offTo m r.p.off by omega])
 obtain ⟨rv,hrv⟩ : ∃ x,roomV r.p m = x := ⟨_,rfl⟩
 rw [hrv] at HV ⊢; rw [hon,hmn]; obtain ⟨W0,HW0,hs0,HB0,HX00,HU0⟩ := boxes1 w (.cells #[.string r.p.name,.int .i64 mn,.slice r.OA on r.oc] 43); have HR := hI (show ∀ X : World,Bl W0 X -> Sl X B 2 encJSpan r.OA r.p.off from fun X hX => (hr.below ((HU0.o X hX).mono hB)).os); have Hon := hI hon; have Hob := hI hob; have hmx := max_run Tryz.prog; have hmi := min_run Tryz.prog; have hm0 : max m 0 = m := by omega
 have q0 := W7.bc (j := 0) (HX00.o W0 (Below.refl _ _)) rfl; have q1 := W7.bc (j := 1) (HX00.o W0 (Below.refl _ _)) rfl; have q2 := W7.bc (j := 2) (HX00.o W0 (Below.refl _ _)) rfl; clear hr hon hmn hg hob hrv; go_enter Tryz.func119,Tryz.ntmps119; go_upto_region 1 with fail; rw [<- HW0.o]; go_wp2
 try simp only [hm0]
 clear q0 q1 q2 hm0; go_loopw [5,6] (fun v5 v6 wr => ∃ k : Nat,k <= on /\ v6 = .int .i64 k /\ v5 = .int .i64 (m - offTo m (r.p.off.take k)) /\ Hid (Bl W0 wr)) (fun _ v6 _ => on - (intOf v6).toNat); case atStart => exact ⟨0,by omega,rfl,by simp [offTo],hI (Below.refl _ _)⟩
 case round =>
  obtain ⟨k,hk,rfl,rfl,Hb⟩ := hrel; have hsr := Hb.o.size; have q0 := W7.bc (j := 0) (HX00.o wr Hb.o) rfl; have q1 := W7.bc (j := 1) (HX00.o wr Hb.o) rfl; have q2 := W7.bc (j := 2) (HX00.o wr Hb.o) rfl; have hbk := HOb.o k
  by_cases hlt : k < on
  rotate_left
  ·have HE := hI (show rv = (m - offTo m (r.p.off.take k)) * mn by rw [HV.o,List.take_of_length_le (by have := Hon.o; omega)]); have HUx := hI (HU0.o wr Hb.o); obtain ⟨x,hx⟩ : ∃ x,m - offTo m (r.p.off.take k) = x := ⟨_,rfl⟩
   rw [hx] at HE; rw [hx]; have hxb : 0 <= x /\ x <= 1099511627776 := by omega
   have hml : 0 <= x * mn := Int.mul_nonneg hxb.1 hmany.1; have hmu : x * mn <= 1099511627776 * 1000 := Int.mul_le_mul hxb.2 hmany.2 hmany.1 (by omega); clear hx hbk; go_wp2; go_ret; exact ⟨ret_int HE.o.symm,HUx.o⟩
  have hkl : k < r.p.off.length := by have := Hon.o; omega
  obtain ⟨ob,oo,hoe,hoB,hcs⟩ := HR.o wr Hb.o (by omega); have o0 : wr.cell? ⟨ob,oo + k * 2,none⟩ = some (.int .i64 r.p.off[k].lo) := hcs k hkl 0 _ rfl; have o1 : wr.cell? ⟨ob,oo + k * 2 + 1,none⟩ = some (.int .i64 r.p.off[k].hi) := hcs k hkl 1 _ rfl; have HSn := hI (show offTo m (r.p.off.take (k + 1)) = offTo m (r.p.off.take k) + max 0 (min (r.p.off[k].hi + 1) m - r.p.off[k].lo) by rw [List.take_succ_eq_append_getElem hkl,offTo_snoc]); have hsp := Hob.o _ (List.getElem_mem hkl); have hb2 := HOb.o (k + 1); rw [HSn.o] at hb2; generalize r.p.off[k] = sp at o0 o1 HSn hsp hb2; obtain ⟨lo,hi'⟩ := sp; dsimp only at o0 o1 HSn hsp hb2; generalize offTo m (r.p.off.take k) = S at hbk HSn hb2; have HVn := hI (show m - S - max (min (hi' + 1) m - lo) 0 = m - offTo m (r.p.off.take (k + 1)) by rw [HSn.o]; omega); rw [hoe] at q2; clear hcs hoe; go_upto_region 5 with fail
  go_quiet (fail)
  go_wp2; go_roundw; case rel => exact ⟨k + 1,by omega,by go_num,by rw [HVn.o],hI (below_drewN Hb.o _)⟩
  case measure => simp [intOf]; omega
end Go.Proofs.YtjpgnfekbojcaaaGreat
