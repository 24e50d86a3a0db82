/-
  The law package's spans and ints say true of two equal lists; the specification's gauges. Conditions: how the lists lie in memory.
  The specification's Margin: what package watch's Margin says. Conditions: bounds.
-/
import Derived.Test.YtcgnpndfhhcplaaRBits
import Derived.Test.YtcgnpndfhhcplaaClone
import Derived.Test.YtcgnpndfhhcplaaRRead
import Derived.Test.YtcgnpndfhhcplaaMargin
namespace Go.Proofs.Ytcgnpndfhhcplaa
open Go.RowKit W7
attribute [local go_sem] Oper.semAt_some
set_option maxHeartbeats 1000000 in
set_option maxRecDepth 100000 in
theorem spansEq_any (a : List Span) (A A' : Option Addr) (ca cb B n : Nat) (hn : n = a.length) (w : World) (ha : Sl w B 2 encSp A a) (hb : Sl w B 2 encSp A' a) (hB : B ≤ w.heap.size) (hal : n ≤ 1000000) :
    Calls Try.prog 13 #[.slice A n ca, .slice A' n cb] w fun e w' => e = .returned (.bool true) ∧ Below w.heap.size w w' := by
  subst hn
  have HA := Lib.hid ha
  have HB := Lib.hid hb
  have hself : ((a.length : Int) != (a.length : Int)) = false := by simp
  clear ha hb
  go_enter Try.func13, Try.ntmps13
  go_wp2
  go_loopw [5] (fun v wr => ∃ i : Nat, i ≤ a.length ∧ v = .int .i64 i ∧ Hid (Below w.heap.size w wr)) (fun v _ => a.length - (intOf v).toNat)
  case atStart => exact ⟨0, by omega, rfl, Lib.hid (Below.refl _ _)⟩
  case round =>
    obtain ⟨i, hi, rfl, Hb⟩ := hrel
    have hsz := Hb.out.size
    by_cases hlt : i < a.length
    · obtain ⟨b1, o1, rfl, hb1, hc1⟩ := HA.out (by omega)
      obtain ⟨b2, o2, rfl, hb2, hc2⟩ := HB.out (by omega)
      have hbw1 : b1 < w.heap.size := by omega
      have hbw2 : b2 < w.heap.size := by omega
      obtain ⟨s, hs⟩ : ∃ s, s = a[i] := ⟨_, rfl⟩
      have x0 : wr.cell? ⟨b1, o1 + i * 2, none⟩ = some (.int .i64 s.lo) := by rw [hs]; exact (Hb.out.cell (p := ⟨b1, o1 + i * 2 + 0, none⟩) hbw1).trans (hc1 i hlt 0 _ rfl)
      have x1 : wr.cell? ⟨b1, o1 + i * 2 + 1, none⟩ = some (.int .i64 s.hi) := by rw [hs]; exact (Hb.out.cell (p := ⟨b1, o1 + i * 2 + 1, none⟩) hbw1).trans (hc1 i hlt 1 _ rfl)
      have y0 : wr.cell? ⟨b2, o2 + i * 2, none⟩ = some (.int .i64 s.lo) := by rw [hs]; exact (Hb.out.cell (p := ⟨b2, o2 + i * 2 + 0, none⟩) hbw2).trans (hc2 i hlt 0 _ rfl)
      have y1 : wr.cell? ⟨b2, o2 + i * 2 + 1, none⟩ = some (.int .i64 s.hi) := by rw [hs]; exact (Hb.out.cell (p := ⟨b2, o2 + i * 2 + 1, none⟩) hbw2).trans (hc2 i hlt 1 _ rfl)
      clear hs hc1 hc2
      go_wp2
      go_quiet (fail)
      go_wp2
      go_roundw
      case rel => exact ⟨i + 1, by omega, by go_num, Lib.hid (below_drewN Hb.out _)⟩
      case measure => simp [intOf]; omega
    · obtain rfl : i = a.length := by omega
      go_wp2
      go_ret
      exact ⟨rfl, Hb.out⟩
set_option maxHeartbeats 1000000 in
set_option maxRecDepth 100000 in
theorem intsEq_any (a : List Int) (A A' : Option Addr) (ca cb B n : Nat) (hn : n = a.length) (w : World) (ha : Sl w B 1 encInt1 A a) (hb : Sl w B 1 encInt1 A' a) (hB : B ≤ w.heap.size) (hal : n ≤ 1000000) :
    Calls Try.prog 16 #[.slice A n ca, .slice A' n cb] w fun e w' => e = .returned (.bool true) ∧ Below w.heap.size w w' := by
  subst hn
  have HA := Lib.hid ha
  have HB := Lib.hid hb
  have hself : ((a.length : Int) != (a.length : Int)) = false := by simp
  clear ha hb
  go_enter Try.func16, Try.ntmps16
  go_wp2
  go_loopw [5] (fun v wr => ∃ i : Nat, i ≤ a.length ∧ v = .int .i64 i ∧ Hid (Below w.heap.size w wr)) (fun v _ => a.length - (intOf v).toNat)
  case atStart => exact ⟨0, by omega, rfl, Lib.hid (Below.refl _ _)⟩
  case round =>
    obtain ⟨i, hi, rfl, Hb⟩ := hrel
    have hsz := Hb.out.size
    by_cases hlt : i < a.length
    · obtain ⟨b1, o1, rfl, hb1, hc1⟩ := HA.out (by omega)
      obtain ⟨b2, o2, rfl, hb2, hc2⟩ := HB.out (by omega)
      have hbw1 : b1 < w.heap.size := by omega
      have hbw2 : b2 < w.heap.size := by omega
      obtain ⟨s, hs⟩ : ∃ s, s = a[i] := ⟨_, rfl⟩
      have x0 : wr.cell? ⟨b1, o1 + i, none⟩ = some (.int .i64 s) := by
        rw [hs]
        have h := (Hb.out.cell (p := ⟨b1, o1 + i * 1 + 0, none⟩) hbw1).trans (hc1 i hlt 0 _ rfl)
        rwa [Nat.mul_one, Nat.add_zero] at h
      have y0 : wr.cell? ⟨b2, o2 + i, none⟩ = some (.int .i64 s) := by
        rw [hs]
        have h := (Hb.out.cell (p := ⟨b2, o2 + i * 1 + 0, none⟩) hbw2).trans (hc2 i hlt 0 _ rfl)
        rwa [Nat.mul_one, Nat.add_zero] at h
      have hss : (s != s) = false := by simp
      clear hs hc1 hc2
      go_wp2
      go_quiet (fail)
      go_wp2
      go_roundw
      case rel => exact ⟨i + 1, by omega, by go_num, Lib.hid (below_drewN Hb.out _)⟩
      case measure => simp [intOf]; omega
    · obtain rfl : i = a.length := by omega
      go_wp2
      go_ret
      exact ⟨rfl, Hb.out⟩
theorem bitsF_snoc (s k : Nat) : bitsF (k + 1) s = bitsF k s ++ if s.testBit k then [(k : Int)] else [] := by
  unfold bitsF
  rw [nums_snoc, List.filter_append]
  cases h : s.testBit k <;> simp [h]
theorem bitsF_le (s k : Nat) : (bitsF k s).length ≤ k := by rw [bitsF_len]; exact szAt_le s k
def GaugesR (s : Nat) (w : World) (e : Ending) (w' : World) : Prop :=
  ∃ v, e = .returned v ∧ w'.ownsRow w.heap.size 3 1 v (bitsF 8 s).length ((bitsF 8 s).map (.int .i64)) ∧ Below w.heap.size w w'
set_option maxHeartbeats 1000000 in
set_option maxRecDepth 100000 in
theorem refGauges_any (s : Nat) (w : World) (hs : s < 256) : Calls Try.prog 48 #[.int .i64 s] w (GaugesR s w) := by
  go_enter Try.func48, Try.ntmps48
  go_wp2
  go_loopw [3, 4] (fun v3 v4 wr => ∃ k : Nat, k ≤ 8 ∧ v4 = .int .i64 k ∧ Hid (wr.ownsRow w.heap.size 3 1 v3 (bitsF k s).length ((bitsF k s).map (.int .i64))) ∧ Hid (Below w.heap.size w wr)) (fun _ v4 _ => 8 - (intOf v4).toNat)
  case atStart => exact ⟨0, by omega, rfl, Lib.hid (World.ownsRow_nil _ _ _ _), Lib.hid (Below.refl _ _)⟩
  case round =>
    obtain ⟨k, hk, rfl, Ho, Hb⟩ := hrel
    have hsz := Hb.out.size
    by_cases hlt : k < 8
    · have hlI : decide ((k : Int) < 8) = true := by simp; omega
      have HS := Lib.hid (bitsF_snoc s k)
      have hle := bitsF_le s k
      have HOt := Lib.hid (fun (X : World) => refOut_any s k X hs (by omega))
      cases hb : s.testBit k
      · rw [hb] at HOt
        have HE := Lib.hid (show bitsF (k + 1) s = bitsF k s by rw [HS.out, hb]; simp)
        go_wp2_with (go_at_call 59; refine (HOt.out _).mono ?_; rintro r w2 ⟨rfl, hw2⟩; obtain rfl := hw2.symm)
        go_roundw
        case rel => exact ⟨k + 1, by omega, by go_num, Lib.hid (by rw [HE.out]; exact Ho.out), Hb⟩
        case measure => simp [intOf]; omega
      · rw [hb] at HOt
        have HE := Lib.hid (show bitsF (k + 1) s = bitsF k s ++ [(k : Int)] by rw [HS.out, hb]; rfl)
        go_wp2_with (first | (go_at_call 59; refine (HOt.out _).mono ?_; rintro r w2 ⟨rfl, hw2⟩; obtain rfl := hw2.symm) | (at_builtin; refine wpList_append1 rfl _ _ 35 rfl w.heap.size 3 _ 1 8 elemInt _ _ _ rfl Ho.out #[.int .i64 (k : Int)] 1 _ rfl (by simp) rfl (by simp [Value.oneCell']) (by omega) (by omega) ?_; intro v6 w6 hown6 hb6 hsz6 hg6 hblk6; have Ho6 := Lib.hid hown6; have Hb6 := Lib.hid hb6; clear hown6 hb6 hsz6 hg6 hblk6))
        go_roundw
        case rel => exact ⟨k + 1, by omega, by go_num, Lib.hid (by rw [HE.out, List.length_append, List.map_append]; exact Ho6.out), Lib.hid (Hb.out.trans Hb6.out)⟩
        case measure => simp [intOf]; omega
    · obtain rfl : k = 8 := by omega
      go_wp2
      go_ret
      exact ⟨_, rfl, Ho.out, Hb.out⟩
end Go.Proofs.Ytcgnpndfhhcplaa
namespace Go.Proofs.Ytcgnpndfhhcplaa
open Go.RowKit W7
attribute [local go_sem] Oper.semAt_some
set_option maxHeartbeats 1000000 in
set_option maxRecDepth 100000 in
theorem refMargin_any (q : Quantity) (p u : Int) (B : Nat) (w : World) (hq : QIn w B q) (hB : B ≤ w.heap.size) :
    Calls Try.prog 18 #[.agg #[.string q.name, .int .i64 q.lo, .int .i64 q.hi, .int .i64 q.rise, .int .i64 q.fall, .int .i64 q.bad, .slice q.gA q.gs.length q.gc], .int .i64 p, .int .i64 u] w fun e w' =>
      e = .returned (.tuple #[.int .i64 (marV q p u), .int .i64 (marE q p u)]) ∧ Below w.heap.size w w' := by
  obtain ⟨mv, hmv⟩ : ∃ mv, mv = marV q p u := ⟨_, rfl⟩
  obtain ⟨me, hme⟩ : ∃ me, me = marE q p u := ⟨_, rfl⟩
  rw [← hmv, ← hme]
  have HV := Lib.hid hmv
  have HM := Lib.hid hme
  clear hmv hme
  obtain ⟨W0, hW0⟩ : ∃ W0, W0 = w.alloc (.cells #[.string q.name, .int .i64 q.lo, .int .i64 q.hi, .int .i64 q.rise, .int .i64 q.fall, .int .i64 q.bad, .slice q.gA q.gs.length q.gc] 26) := ⟨_, rfl⟩
  have HB0 := Lib.hid (show Below w.heap.size w W0 by rw [hW0]; exact (Below.refl _ _).alloc (Nat.le_refl _) _)
  have hs0 : w.heap.size < W0.heap.size := by rw [hW0]; simp
  have HQ0 := Lib.hid (show ∀ (X : World), Below W0.heap.size W0 X → ∀ j v, (#[.string q.name, .int .i64 q.lo, .int .i64 q.hi, .int .i64 q.rise, .int .i64 q.fall, .int .i64 q.bad, .slice q.gA q.gs.length q.gc] : Array Value)[j]? = some v → X.cell? ⟨w.heap.size, j, none⟩ = some v from fun X hX j v hv =>
    (hX.cell (p := ⟨w.heap.size, j, none⟩) hs0).trans (by rw [hW0]; exact alloc_cell hv))
  have HU := Lib.hid (fun (X : World) (hX : Below W0.heap.size W0 X) => show Below w.heap.size w X from HB0.out.trans (hX.mono (Nat.le_of_lt hs0)))
  have Hq := Lib.hid (fun (X : World) (hX : Below W0.heap.size W0 X) => hq.below ((HU.out X hX).mono hB))
  have HCk := Lib.hid (refCheckQ_any q B W0 (Hq.out _ (Below.refl _ _)) (by omega))
  have hgl := hq.len
  have HW0 := Lib.hid hW0
  clear hW0 hq
  obtain ⟨ce, hce⟩ : ∃ ce, ce = qsErr [q] := ⟨_, rfl⟩
  rw [← hce] at HCk
  have Hce := Lib.hid hce
  clear hce
  have HE : Hid (marE q p u = if qsErr [q] = 0 then (if withinB p 1 100000 && isTm u then (if (q.gs.length : Int) ≤ 2 * q.bad then 9 else 0) else 1) else qsErr [q]) := Lib.hid rfl
  cases hz : (ce == 0)
  · have H1 := Lib.hid (show me = ce ∧ mv = 0 by
      have h1 : marE q p u = ce := by rw [HE.out, if_neg (by rw [← Hce.out]; simpa using hz), Hce.out]
      exact ⟨HM.out.trans h1, by rw [HV.out, marV, h1, if_neg (by simpa using hz)]⟩)
    have hz2 : (ce != 0) = true := by simpa using hz
    go_enter Try.func18, Try.ntmps18
    go_wp2_with (go_at_call 20; go_loud (rw [← HW0.out]); refine HCk.out.mono ?_; rintro r w1 ⟨rfl, hb1⟩)
    refine bodyPost_ret (v := .tuple #[.int .i64 0, .int .i64 ce]) (by simp [results, Try.results18, go_sem]) rfl ?_
    exact ⟨by rw [H1.out.1, H1.out.2], HU.out w1 hb1⟩
  have hz0 : ce = 0 := by simpa using hz
  subst hz0
  cases hp1 : decide (p < 1)
  rotate_left
  · have H1 := Lib.hid (show me = 1 ∧ mv = 0 by
      have h1 : marE q p u = 1 := by rw [HE.out, if_pos Hce.out.symm, if_neg]; simp [withinB] at hp1 ⊢; omega
      exact ⟨HM.out.trans h1, by rw [HV.out, marV, h1]; rfl⟩)
    go_enter Try.func18, Try.ntmps18
    go_wp2_with (first | (go_at_call 20; go_loud (rw [← HW0.out]); refine HCk.out.mono ?_; rintro r w1 ⟨rfl, hb1⟩) | (go_at_call 40; refine (refTimed_any _ _).mono ?_; rintro r w2 ⟨rfl, rfl⟩))
    refine bodyPost_ret (v := .tuple #[.int .i64 0, .int .i64 1]) (by simp [results, Try.results18, go_sem]) rfl ?_
    exact ⟨by rw [H1.out.1, H1.out.2], HU.out w1 hb1⟩
  cases hp2 : decide ((100000 : Int) < p)
  rotate_left
  · have H1 := Lib.hid (show me = 1 ∧ mv = 0 by
      have h1 : marE q p u = 1 := by rw [HE.out, if_pos Hce.out.symm, if_neg]; simp [withinB] at hp2 ⊢; omega
      exact ⟨HM.out.trans h1, by rw [HV.out, marV, h1]; rfl⟩)
    go_enter Try.func18, Try.ntmps18
    go_wp2_with (first | (go_at_call 20; go_loud (rw [← HW0.out]); refine HCk.out.mono ?_; rintro r w1 ⟨rfl, hb1⟩) | (go_at_call 40; refine (refTimed_any _ _).mono ?_; rintro r w2 ⟨rfl, rfl⟩))
    refine bodyPost_ret (v := .tuple #[.int .i64 0, .int .i64 1]) (by simp [results, Try.results18, go_sem]) rfl ?_
    exact ⟨by rw [H1.out.1, H1.out.2], HU.out w1 hb1⟩
  cases htu : isTm u
  · have H1 := Lib.hid (show me = 1 ∧ mv = 0 by
      have h1 : marE q p u = 1 := by rw [HE.out, if_pos Hce.out.symm, if_neg]; simp [htu]
      exact ⟨HM.out.trans h1, by rw [HV.out, marV, h1]; rfl⟩)
    go_enter Try.func18, Try.ntmps18
    go_wp2_with (first | (go_at_call 20; go_loud (rw [← HW0.out]); refine HCk.out.mono ?_; rintro r w1 ⟨rfl, hb1⟩) | (go_at_call 40; refine (refTimed_any _ _).mono ?_; rintro r w2 ⟨rfl, rfl⟩))
    refine bodyPost_ret (v := .tuple #[.int .i64 0, .int .i64 1]) (by simp [results, Try.results18, go_sem]) rfl ?_
    exact ⟨by rw [H1.out.1, H1.out.2], HU.out w1 hb1⟩
  have hpb : 1 ≤ p ∧ p ≤ 100000 := by simp at hp1 hp2; omega
  have htb := isTm_true.1 htu
  have HPu := Lib.hid (show (withinB p 1 100000 && isTm u) = true by rw [htu]; simp [withinB]; omega)
  obtain ⟨_, _, _, hr, hf, hg8, hbd, hgs⟩ := goodQ q (qsErr_zero Hce.out.symm).2
  have Hgs := Lib.hid hgs
  have hw2 : wrap64 (2 * q.bad) = 2 * q.bad := IntWalk.wrap64_in _ (by omega)
  clear hgs
  cases hsc : decide ((q.gs.length : Int) ≤ 2 * q.bad)
  rotate_left
  · have H1 := Lib.hid (show me = 9 ∧ mv = 0 by
      have h1 : marE q p u = 9 := by rw [HE.out, if_pos Hce.out.symm, if_pos HPu.out, if_pos (by simpa using hsc)]
      exact ⟨HM.out.trans h1, by rw [HV.out, marV, h1]; rfl⟩)
    go_enter Try.func18, Try.ntmps18
    go_wp2_with (first | (go_at_call 20; go_loud (rw [← HW0.out]); refine HCk.out.mono ?_; rintro r w1 ⟨rfl, hb1⟩; have Hb1 := Lib.hid hb1; have c5 := HQ0.out w1 hb1 5 _ rfl; have c6 := HQ0.out w1 hb1 6 _ rfl; clear hb1) | (go_at_call 40; refine (refTimed_any _ _).mono ?_; rintro r w2 ⟨rfl, rfl⟩))
    refine bodyPost_ret (v := .tuple #[.int .i64 0, .int .i64 9]) (by simp [results, Try.results18, go_sem]) rfl ?_
    exact ⟨by rw [H1.out.1, H1.out.2], HU.out w1 Hb1.out⟩
  have H1 := Lib.hid (show me = 0 ∧ mv = 2 * worstL q.gs u + (q.rise + q.fall) * p by
    have h1 : marE q p u = 0 := by rw [HE.out, if_pos Hce.out.symm, if_pos HPu.out, if_neg (by simpa using hsc)]
    exact ⟨HM.out.trans h1, by rw [HV.out, marV, h1]; rfl⟩)
  have hmx := max_run Try.prog
  go_enter Try.func18, Try.ntmps18
  go_wp2_with (first | (go_at_call 20; go_loud (rw [← HW0.out]); refine HCk.out.mono ?_; rintro r w1 ⟨rfl, hb1⟩; have Hb1 := Lib.hid hb1; have c5 := HQ0.out w1 hb1 5 _ rfl; have c6 := HQ0.out w1 hb1 6 _ rfl; clear hb1) | (go_at_call 40; refine (refTimed_any _ _).mono ?_; rintro r w2 ⟨rfl, rfl⟩))
  have hs1 := Hb1.out.size
  go_loopw [9, 10] (fun v i wr => ∃ k : Nat, k ≤ q.gs.length ∧ v = .int .i64 (worstAt q.gs u k) ∧ i = .int .i64 k ∧ Hid (Below W0.heap.size W0 wr)) (fun _ i _ => q.gs.length - (intOf i).toNat)
  case atStart => exact ⟨0, by omega, rfl, rfl, Hb1⟩
  case round =>
    obtain ⟨k, hk, rfl, rfl, Hb⟩ := hrel
    have hsz := Hb.out.size
    have hwb := worstAt_bnd htb Hgs.out k hk
    have d6 := HQ0.out wr Hb.out 6 _ rfl
    by_cases hlt : k < q.gs.length
    · obtain ⟨b, off, hgA, hbB, hcells⟩ := (Hq.out wr Hb.out).sl (by omega)
      have hbr : b < wr.heap.size := by omega
      have c0 : wr.cell? ⟨b, off + k * 4, none⟩ = some (.string q.gs[k].name) := hcells k hlt 0 _ rfl
      have c1 := hcells k hlt 1 _ rfl
      have c2 := hcells k hlt 2 _ rfl
      have c3 := hcells k hlt 3 _ rfl
      have hg := Hgs.out q.gs[k] (List.getElem_mem hlt)
      have HW := Lib.hid (worstAt_succ q.gs u k hlt)
      rw [hgA] at d6
      clear hgA hcells
      go_wp2_with (go_at_call 52; refine (refWorst_any q.gs[k] u _ (by omega) (by omega) (by omega) (by omega) (by omega) (by omega) (by omega) (by omega)).mono ?_; rintro e w2 ⟨rfl, hb2⟩)
      go_roundw
      case rel => exact ⟨k + 1, by omega, by rw [HW.out], by go_num, Lib.hid (Hb.out.trans (hb2.mono (by omega)))⟩
      case measure => simp [intOf]; omega
    · obtain rfl : k = q.gs.length := by omega
      rw [worstAt_all] at hwb ⊢
      have hm1 : 0 ≤ (q.rise + q.fall) * p := Int.mul_nonneg (by omega) (by omega)
      have hm2 : (q.rise + q.fall) * p ≤ (q.rise + q.fall) * 100000 := Int.mul_le_mul_of_nonneg_left (by omega) (by omega)
      have d2 := HQ0.out wr Hb.out 3 _ rfl
      have d3 := HQ0.out wr Hb.out 4 _ rfl
      have r1 : IntKind.i64.wrap (2 * worstL q.gs u) = 2 * worstL q.gs u := IntWalk.i64_in _ (by omega)
      have r2 : IntKind.i64.wrap (q.rise + q.fall) = q.rise + q.fall := IntWalk.i64_in _ (by omega)
      have r3 : IntKind.i64.wrap ((q.rise + q.fall) * p) = (q.rise + q.fall) * p := IntWalk.i64_in _ (by omega)
      have r4 : IntKind.i64.wrap (2 * worstL q.gs u + (q.rise + q.fall) * p) = 2 * worstL q.gs u + (q.rise + q.fall) * p := IntWalk.i64_in _ (by omega)
      go_wp2
      refine bodyPost_ret (v := .tuple #[.int .i64 (2 * worstL q.gs u + (q.rise + q.fall) * p), .int .i64 0]) (by simp [results, Try.results18, go_sem]) rfl ?_
      exact ⟨by rw [H1.out.1, H1.out.2], HU.out wr Hb.out⟩
end Go.Proofs.Ytcgnpndfhhcplaa
