/-
  The law WatchSound answers true. Conditions: how its arguments lie in memory.
-/
import Derived.Test.YtcgnpndfhhcplaaShown
import Derived.Test.YtcgnpndfhhcplaaWakes
import Derived.Test.YtcgnpndfhhcplaaMargin
namespace Go.Proofs.Ytcgnpndfhhcplaa
open Go.RowKit W7
attribute [local go_sem] Oper.semAt_some
set_option maxHeartbeats 2000000 in
set_option maxRecDepth 100000 in
theorem LawSound_any (q : Quantity) (bg : Int) (st : List Int) (raw : List Reading) (bt : Int) (AS AR : Option Addr) (cS cR : Nat) (w : World) (hq : QIn w w.heap.size q) (hS : Sl w w.heap.size 1 encInt1 AS st) (hR : Sl w w.heap.size 3 encR AR raw) :
    Calls Try.prog 5 #[.agg #[.string q.name, .int .i64 q.lo, .int .i64 q.hi, .int .i64 q.rise, .int .i64 q.fall, .int .i64 q.bad, .slice q.gA q.gs.length q.gc], .int .i64 bg, .slice AS st.length cS, .slice AR raw.length cR, .int .i64 bt] w fun e w' => e = .returned (.bool true) ∧ Below w.heap.size w w' := by
  obtain ⟨cs, hcs⟩ : ∃ cs : Array Value, cs = #[.string q.name, .int .i64 q.lo, .int .i64 q.hi, .int .i64 q.rise, .int .i64 q.fall, .int .i64 q.bad, .slice q.gA q.gs.length q.gc] := ⟨_, rfl⟩
  obtain ⟨W0, hW0⟩ : ∃ W0, W0 = w.alloc (.cells cs 26) := ⟨_, rfl⟩
  have HB0 := Lib.hid (show Below w.heap.size w W0 by rw [hW0]; exact (Below.refl w.heap.size w).alloc (Nat.le_refl _) _)
  have Hs0 := Lib.hid (show W0.heap.size = w.heap.size + 1 by rw [hW0]; simp)
  have hs0 : w.heap.size < W0.heap.size := by have := Hs0.out; omega
  have Hc0 := Lib.hid (show ∀ j v, cs[j]? = some v → ∀ X, Below W0.heap.size W0 X → X.cell? ⟨w.heap.size, j, none⟩ = some v from fun j v hv X hX => (hX.cell (p := ⟨w.heap.size, j, none⟩) hs0).trans (by rw [hW0]; exact alloc_cell hv))
  have Hq := Lib.hid (fun (X : World) (hX : Below W0.heap.size W0 X) => hq.below (HB0.out.trans (hX.mono (Nat.le_of_lt hs0))))
  have HS := Lib.hid (fun (X : World) (hX : Below W0.heap.size W0 X) => hS.below (HB0.out.trans (hX.mono (Nat.le_of_lt hs0))))
  have HR := Lib.hid (fun (X : World) (hX : Below W0.heap.size W0 X) => hR.below (HB0.out.trans (hX.mono (Nat.le_of_lt hs0))))
  have HU := Lib.hid (fun (X : World) (hX : Below W0.heap.size W0 X) => show Below w.heap.size w X from HB0.out.trans (hX.mono (Nat.le_of_lt hs0)))
  have hql := hq.len
  have HM := Lib.hid (much_any q [] none 0 W0 hq.nm hq.len (by simp))
  rw [hcs] at Hc0 hW0
  have HW0 := Lib.hid hW0
  clear hcs hW0 cs hq hS hR
  have HBx := Lib.hid (fun (X : World) (hX : Below W0.heap.size W0 X) => show X.cell? ⟨w.heap.size, 0, none⟩ = some (.string q.name) ∧ X.cell? ⟨w.heap.size, 1, none⟩ = some (.int .i64 q.lo) ∧ X.cell? ⟨w.heap.size, 2, none⟩ = some (.int .i64 q.hi) ∧ X.cell? ⟨w.heap.size, 3, none⟩ = some (.int .i64 q.rise) ∧ X.cell? ⟨w.heap.size, 4, none⟩ = some (.int .i64 q.fall) ∧ X.cell? ⟨w.heap.size, 5, none⟩ = some (.int .i64 q.bad) ∧ X.cell? ⟨w.heap.size, 6, none⟩ = some (.slice q.gA q.gs.length q.gc) from ⟨Hc0.out 0 _ rfl X hX, Hc0.out 1 _ rfl X hX, Hc0.out 2 _ rfl X hX, Hc0.out 3 _ rfl X hX, Hc0.out 4 _ rfl X hX, Hc0.out 5 _ rfl X hX, Hc0.out 6 _ rfl X hX⟩)
  obtain ⟨c0, c1, c2, c3, c4, c5, c6⟩ := HBx.out W0 (Below.refl _ _)
  go_enter Try.func5, Try.ntmps5
  go_wp2_with (go_at_call 34; fail)
  rw [← HW0.out]
  refine HM.out.mono ?_
  rintro r w1 ⟨rfl, hb1⟩
  have HB1 := Lib.hid hb1
  have hs1 := hb1.size
  clear hb1 HM c0 c1 c2 c3 c4 c5 c6
  obtain ⟨b0, b1, b2, b3, b4, b5, b6⟩ := HBx.out w1 HB1.out
  have HQC := Lib.hid (refCheckQ_any q w.heap.size w1 (Hq.out w1 HB1.out) (by omega))
  obtain ⟨ce, hce⟩ : ∃ ce, ce = qsErr [q] := ⟨_, rfl⟩
  rw [← hce] at HQC
  have Hce := Lib.hid hce
  clear hce
  cases hm : muchB q []
  rotate_left
  · go_wp2_with (go_at_call 10; refine (wakes_any _).mono ?_; rintro r w2 ⟨rfl, hb2⟩)
    go_ret
    exact ⟨rfl, (HU.out w1 HB1.out).trans (hb2.mono (by omega))⟩
  clear hm
  cases h1 : decide (6 < (q.gs.length : Int))
  rotate_left
  · go_wp2_with (go_at_call 10; refine (wakes_any _).mono ?_; rintro r w2 ⟨rfl, hb2⟩)
    go_ret
    exact ⟨rfl, (HU.out w1 HB1.out).trans (hb2.mono (by omega))⟩
  cases h2 : decide (40 < (st.length : Int))
  rotate_left
  · go_wp2_with (go_at_call 10; refine (wakes_any _).mono ?_; rintro r w2 ⟨rfl, hb2⟩)
    go_ret
    exact ⟨rfl, (HU.out w1 HB1.out).trans (hb2.mono (by omega))⟩
  cases h3 : decide (12 < (raw.length : Int))
  rotate_left
  · go_wp2_with (go_at_call 10; refine (wakes_any _).mono ?_; rintro r w2 ⟨rfl, hb2⟩)
    go_ret
    exact ⟨rfl, (HU.out w1 HB1.out).trans (hb2.mono (by omega))⟩
  cases h4 : (ce != 0)
  rotate_left
  · go_wp2_with (first | (go_at_call 20; refine HQC.out.mono ?_; rintro r w2 ⟨rfl, hb2⟩) | (go_at_call 10; refine (wakes_any _).mono ?_; rintro r w3 ⟨rfl, hb3⟩))
    go_ret
    exact ⟨rfl, ((HU.out w1 HB1.out).trans (hb2.mono (by omega))).trans (hb3.mono (by have := hb2.size; omega))⟩
  have hg6 : q.gs.length ≤ 6 := by simp at h1; omega
  have hst : st.length ≤ 40 := by simp at h2; omega
  have hraw : raw.length ≤ 12 := by simp at h3; omega
  have hqe : qsErr [q] = 0 := by rw [← Hce.out]; simpa using h4
  have Hqe := Lib.hid hqe
  have HQ := Lib.hid (goodQ q (qsErr_zero hqe).2)
  obtain ⟨hlo, hhi, hlh, hri, hfa, hg8, ⟨hbad0, hbadn⟩, hgs⟩ := HQ.out
  have Hgs := Lib.hid hgs
  go_wp2_with (go_at_call 34; fail)
  refine HQC.out.mono ?_
  rintro r w2 ⟨rfl, hb2⟩
  have HB2 := Lib.hid (HB1.out.trans (hb2.mono hs1))
  have hs2 := hb2.size
  clear hb2 HQC b0 b1 b2 b3 b4 b5 b6 hqe hgs h1 h2 h3
  obtain ⟨b0, b1, b2, b3, b4, b5, b6⟩ := HBx.out w2 HB2.out
  have HWk := Lib.hid (lawWalk_any q bg st AS cS w.heap.size w2 (HS.out w2 HB2.out) (by omega) (by omega) hlo hhi hlh hri hfa)
  go_wp2_with (go_at_call 34; fail)
  refine HWk.out.mono ?_
  rintro r w3 ⟨vX, X, rfl, hXl, hXw, hXo, hb3⟩
  have HB3 := Lib.hid (HB2.out.trans (hb3.mono (by omega)))
  have hs3 := hb3.size
  rw [map_int1] at hXo
  obtain ⟨AX, cX, rfl, hcX1, hcX2⟩ := own_cap hXo
  have HX := Lib.hid (fun (Y : World) (hY : Below w3.heap.size w3 Y) => sl_own (enc := encInt1) (fun _ => rfl) (own_below hXo hY))
  have Hw := Lib.hid hXw
  have HXl := Lib.hid hXl
  have hX41 : X.length ≤ 41 := by omega
  have hX0 : 0 < X.length := by omega
  clear hb3 HWk b0 b1 b2 b3 b4 b5 b6 hXo hXw hXl
  obtain ⟨b0, b1, b2, b3, b4, b5, b6⟩ := HBx.out w3 HB3.out
  have HBr := Lib.hid (broken_any q bt w3 hg8 hbad0 hbadn)
  go_wp2_with (go_at_call 34; fail)
  refine HBr.out.mono ?_
  rintro r w4 ⟨gb, bs, rfl, hbl, hbc, hbo, hb4⟩
  have HB4 := Lib.hid (HB3.out.trans (hb4.mono (by omega)))
  have hs4 := hb4.size
  have Hb4 := Lib.hid hb4
  rw [map_bool1] at hbo
  have Hbl := Lib.hid hbl
  have Hbc := Lib.hid hbc
  clear hb4 HBr b0 b1 b2 b3 b4 b5 b6 hbl hbc
  obtain ⟨b0, b1, b2, b3, b4, b5, b6⟩ := HBx.out w4 HB4.out
  have HSh := Lib.hid (shown_any q X bs raw AX (some ⟨gb, 0, none⟩) AR cX bs.length cR w4.heap.size w4 ((Hq.out w4 HB4.out).mono (by omega)) ((HX.out w4 Hb4.out).mono (by omega)) ((sl_own (enc := encBool1) (fun _ => rfl) hbo).mono (by omega)) ((HR.out w4 HB4.out).mono (by omega)) (Nat.le_refl _) Hw.out (by omega) Hbl.out (by omega) hg8 hlo hhi hri hfa Hgs.out)
  clear hbo
  go_wp2_with (go_at_call 34; fail)
  refine HSh.out.mono ?_
  rintro r w5 ⟨vL, L, rfl, hLl, hLr, hLo, hb5⟩
  have HB5 := Lib.hid (HB4.out.trans (hb5.mono (by omega)))
  have hs5 := hb5.size
  obtain ⟨AL, cL, rfl, hcL1, hcL2⟩ := own_cap hLo
  have HL := Lib.hid (fun (Y : World) (hY : Below w5.heap.size w5 Y) => sl_own (enc := encR) (fun _ => rfl) (own_below hLo hY))
  have HX5 := Lib.hid (fun (Y : World) (hY : Below w5.heap.size w5 Y) => HX.out Y ((Hb4.out.trans (hb5.mono (by omega))).trans (hY.mono (by omega))))
  have HCh := Lib.hid (shown_checked Hqe.out (by omega) hLr)
  have HG := Lib.hid (good_of HCh.out).1
  have HMb := Lib.hid (fun (t : Int) (ht : 0 ≤ t) => hist_maybe HG.out Hw.out hbad0 Hbl.out Hbc.out hbadn hLr ht)
  have HSu := Lib.hid (susL_sure (q := q) (l := L) hbad0)
  have HSl := Lib.hid (susL_len q L)
  have hL12 : L.length ≤ 12 := by omega
  clear hb5 HSh b0 b1 b2 b3 b4 b5 b6 hLo hLr HX
  go_wp2
  go_loopw [14] (fun v14 wr => ∃ k : Nat, k ≤ 43 ∧ v14 = .int .i64 k ∧ Hid (Below w5.heap.size w5 wr)) (fun v14 _ => 43 - (intOf v14).toNat)
  case atStart => exact ⟨0, by omega, rfl, Lib.hid (Below.refl _ _)⟩
  case round =>
    obtain ⟨k, hk, rfl, Hb⟩ := hrel
    have hsz := Hb.out.size
    have HBr := Lib.hid (HB5.out.trans (Hb.out.mono (by have := HB5.out.size; omega)))
    obtain ⟨b0, b1, b2, b3, b4, b5, b6⟩ := HBx.out wr HBr.out
    by_cases hlt : k < 43
    · have HP := Lib.hid (Possible_any q L k AL cL wr.heap.size wr ((Hq.out wr HBr.out).mono (by omega)) (HL.out wr Hb.out) (Nat.le_refl _) hcL1 hcL2 (fun _ => hL12))
      have HE := Lib.hid (possE_zero.2 ⟨HCh.out, isTm_true.2 (by omega)⟩ : possE q L k = 0)
      go_wp2_with (go_at_call 34; fail)
      refine HP.out.mono ?_
      rintro r w6 ⟨va, sp, rfl, _, hva, hla, hba, howna, hb6⟩
      rw [HE.out]
      have HV := Lib.hid (hva HE.out)
      have HIn := Lib.hid (show withinS sp (hv X k) = true from withinS_iff.2 ((maybe_iff HG.out ⟨by omega, by omega⟩ HV.out _).2 (HMb.out k (by omega))))
      have hs6 := hb6.size
      have HB6 := Lib.hid (Hb.out.trans (hb6.mono (by omega)))
      obtain ⟨Aa, ca, rfl, hca1, hca2⟩ := own_cap howna
      have HA := Lib.hid (histAt_any X k AX cX w6.heap.size w6 (HX5.out w6 HB6.out) (Nat.le_refl _) hX0 (by omega) (by omega) (by omega))
      obtain ⟨xk, hxk⟩ : ∃ xk, xk = hv X k := ⟨_, rfl⟩
      rw [← hxk] at HA HIn
      have HWi := Lib.hid (refWithin_any sp xk Aa ca w6.heap.size w6 (sl_own (enc := encSp) (fun _ => rfl) howna) (Nat.le_refl _) (by omega))
      rw [HIn.out] at HWi
      have Hown := Lib.hid howna
      have Hcn := Lib.hid HV.out.1
      have Hba := Lib.hid hba
      clear hxk hb6 hva hba howna HP b0 b1 b2 b3 b4 b5 b6 HV
      go_wp2_with (first | (go_at_call 25; refine HA.out.mono ?_; rintro r w7 ⟨rfl, hw7⟩; obtain rfl := hw7.symm) | (go_at_call 24; refine HWi.out.mono ?_; rintro r w8 ⟨rfl, hw8⟩; obtain rfl := hw8.symm))
      go_loopw [17] (fun v17 wx => ∃ i : Nat, i ≤ sp.length ∧ v17 = .int .i64 i ∧ Hid (Below w6.heap.size w6 wx)) (fun v17 _ => sp.length - (intOf v17).toNat)
      case atStart => exact ⟨0, by omega, rfl, Lib.hid (Below.refl _ _)⟩
      case round =>
        obtain ⟨i, hi, rfl, Hbx⟩ := hrel
        by_cases hli : i < sp.length
        · obtain ⟨g, cap, e, hg⟩ := own_form Hown.out (by omega)
          cases e
          have hgx : g < w6.heap.size := (Hown.out.lt g rfl).2
          obtain ⟨s, hsd⟩ : ∃ s, s = sp[i] := ⟨_, rfl⟩
          have s0 : wr.cell? ⟨g, i * 2, none⟩ = some (.int .i64 s.lo) := by rw [hsd]; exact (Hbx.out.cell (p := ⟨g, i * 2, none⟩) hgx).trans ((Hown.out.cellAt _ (by omega)).trans (encSps_0 hli))
          have s1 : wr.cell? ⟨g, i * 2 + 1, none⟩ = some (.int .i64 s.hi) := by rw [hsd]; exact (Hbx.out.cell (p := ⟨g, i * 2 + 1, none⟩) hgx).trans ((Hown.out.cellAt _ (by omega)).trans (encSps_1 hli))
          have hle : decide (s.hi < s.lo) = false := by have := Hcn.out.le _ (List.getElem_mem hli); rw [← hsd] at this; simp; omega
          rcases Nat.eq_zero_or_pos i with rfl | hp
          · clear hsd
            have s0' : wr.cell? ⟨g, 0, none⟩ = some (.int .i64 s.lo) := by simpa using s0
            have s1' : wr.cell? ⟨g, 1, none⟩ = some (.int .i64 s.hi) := by simpa using s1
            clear s0 s1
            go_wp2
            go_quiet (fail)
            go_wp2
            go_roundw
            case rel => exact ⟨1, by omega, by go_num, Lib.hid (below_drewN Hbx.out _)⟩
            case measure => simp [intOf]; omega
          · obtain ⟨m, rfl⟩ : ∃ m, i = m + 1 := ⟨i - 1, by omega⟩
            obtain ⟨u, hu⟩ : ∃ u, u = sp[m]'(by omega) := ⟨_, rfl⟩
            have hsp := List.pairwise_iff_getElem.1 (canon_pair Hcn.out) m (m + 1) (by omega) hli (by omega)
            rw [← hsd, ← hu] at hsp
            have u1 : wr.cell? ⟨g, m * 2 + 1, none⟩ = some (.int .i64 u.hi) := by rw [hu]; exact (Hbx.out.cell (p := ⟨g, m * 2 + 1, none⟩) hgx).trans ((Hown.out.cellAt _ (by omega)).trans (encSps_1 (by omega)))
            have hgap : decide (s.lo ≤ u.hi + 1) = false := by simp; omega
            have hub := Hba.out u (by rw [hu]; exact List.getElem_mem _)
            have i1 : (m : Int) < (m : Int) + 1 := by omega
            have hpos : decide ((0 : Int) < (m : Int) + 1) = true := decide_eq_true (by omega)
            have w1' : IntKind.i64.wrap ((m : Int) + 1 - 1) = (m : Int) := by rw [IntWalk.i64_in _ (by omega)]; omega
            have w7' : ((m : Int) + 1 - 1).toNat = m := by omega
            clear hsd hu
            go_wp2

            go_quiet (fail)
            go_wp2
            go_roundw
            case rel => exact ⟨m + 1 + 1, by omega, by go_num, Lib.hid (below_drewN Hbx.out _)⟩
            case measure => simp [intOf]; omega
        · obtain rfl : i = sp.length := by omega
          go_wp2
          go_roundw
          case rel => exact ⟨k + 1, by omega, by go_num, Lib.hid (HB6.out.trans (Hbx.out.mono (by omega)))⟩
          case measure => simp [intOf]; omega
    · obtain rfl : k = 43 := by omega
      have HSus := Lib.hid (Suspects_any q L AL cL wr.heap.size wr ((Hq.out wr HBr.out).mono (by omega)) (HL.out wr Hb.out) (Nat.le_refl _) hcL1 hcL2 (fun _ => hL12))
      go_wp2_with (go_at_call 34; fail)
      refine HSus.out.mono ?_
      rintro r w6 ⟨v1, v2, rfl, ho1, ho2, hb6⟩
      rw [HCh.out]
      have HB6 := Lib.hid (HBr.out.trans (hb6.mono (by have := HBr.out.size; omega)))
      have hs6 := hb6.size
      obtain ⟨s1, hs1e⟩ : ∃ x, x = (susL q L).1 := ⟨_, rfl⟩
      obtain ⟨s2, hs2e⟩ : ∃ x, x = (susL q L).2 := ⟨_, rfl⟩
      rw [← hs1e, map_int1] at ho1
      rw [← hs2e, map_int1] at ho2
      rw [← hs1e] at HSu HSl
      rw [← hs2e] at HSu HSl
      obtain ⟨A1, k1, rfl, hk11, hk12⟩ := own_cap ho1
      obtain ⟨A2, k2, rfl, hk21, hk22⟩ := own_cap ho2
      have Ho1 := Lib.hid ho1
      have Ho2 := Lib.hid ho2
      have hbs : decide (q.bad < (s1.length : Int)) = false := decide_eq_false (by have := HSu.out.1; omega)
      have hl1 := HSl.out.1
      have hl2 := HSl.out.2
      clear hb6 HSus b0 b1 b2 b3 b4 b5 b6 ho1 ho2 hs1e hs2e
      obtain ⟨b0, b1, b2, b3, b4, b5, b6⟩ := HBx.out w6 HB6.out
      go_wp2
      go_loopw [21] (fun v21 wx => ∃ i : Nat, i ≤ s1.length ∧ v21 = .int .i64 i ∧ Hid (Below w6.heap.size w6 wx)) (fun v21 _ => s1.length - (intOf v21).toNat)
      case atStart => exact ⟨0, by omega, rfl, Lib.hid (Below.refl _ _)⟩
      case round =>
        obtain ⟨i, hi, rfl, Hbx⟩ := hrel
        by_cases hli : i < s1.length
        · obtain ⟨g1, c1, e1, hg1⟩ := own_form Ho1.out (by omega)
          cases e1
          have hgx1 : g1 < w6.heap.size := (Ho1.out.lt g1 rfl).2
          obtain ⟨s, hsd⟩ : ∃ s, s = s1[i] := ⟨_, rfl⟩
          have Hs0 := Lib.hid (show w6.cell? ⟨g1, i, none⟩ = some (.int .i64 s) by rw [hsd]; have := (Ho1.out.cellAt (i * 1 + 0) (by omega)).trans (flatMap_get (enc := encInt1) (k := 1) (fun _ => rfl) s1 i 0 hli (by omega)); simpa [encInt1] using this)
          have HT := Lib.hid (show (s2.any fun x => x == s) = true from List.any_eq_true.2 ⟨s, HSu.out.2 s (by rw [hsd]; exact List.getElem_mem hli), by simp⟩)
          clear hsd
          go_wp2
          go_loopw [22, 23] (fun v22 v23 wy => ∃ j : Nat, j ≤ s2.length ∧ v23 = .int .i64 j ∧ v22 = .bool ((s2.take j).any fun x => x == s) ∧ Hid (Below w6.heap.size w6 wy)) (fun _ v23 _ => s2.length - (intOf v23).toNat)
          case atStart => exact ⟨0, by omega, rfl, by simp, Hbx⟩
          case round =>
            obtain ⟨j, hj, rfl, rfl, Hby⟩ := hrel
            by_cases hlj : j < s2.length
            · obtain ⟨g2, c2, e2, hg2⟩ := own_form Ho2.out (by omega)
              cases e2
              have hgx2 : g2 < w6.heap.size := (Ho2.out.lt g2 rfl).2
              obtain ⟨p, hp⟩ : ∃ p, p = s2[j] := ⟨_, rfl⟩
              have x0 : wr.cell? ⟨g1, i, none⟩ = some (.int .i64 s) := (Hby.out.cell (p := ⟨g1, i, none⟩) hgx1).trans Hs0.out
              have x1 : wr.cell? ⟨g2, j, none⟩ = some (.int .i64 p) := (Hby.out.cell (p := ⟨g2, j, none⟩) hgx2).trans (by rw [hp]; have := (Ho2.out.cellAt (j * 1 + 0) (by omega)).trans (flatMap_get (enc := encInt1) (k := 1) (fun _ => rfl) s2 j 0 hlj (by omega)); simpa [encInt1] using this)
              have HTk := Lib.hid (any_takeS (fun x => x == s) s2 j hlj)
              rw [← hp] at HTk
              clear hp
              cases hin : (s2.take j).any fun x => x == s
              · cases hps : (p == s)
                · have HRr := Lib.hid (show ((s2.take (j + 1)).any fun x => x == s) = false by rw [HTk.out, hin, hps]; rfl)
                  go_wp2
                  go_quiet (fail)
                  go_wp2
                  go_roundw
                  case rel => exact ⟨j + 1, by omega, by go_num, by rw [HRr.out], Lib.hid (below_drewN Hby.out _)⟩
                  case measure => simp [intOf]; omega
                · have HRr := Lib.hid (show ((s2.take (j + 1)).any fun x => x == s) = true by rw [HTk.out, hin, hps]; rfl)
                  go_wp2
                  go_quiet (fail)
                  go_wp2
                  go_roundw
                  case rel => exact ⟨j + 1, by omega, by go_num, by rw [HRr.out], Lib.hid (below_drewN Hby.out _)⟩
                  case measure => simp [intOf]; omega
              · have HRr := Lib.hid (show ((s2.take (j + 1)).any fun x => x == s) = true by rw [HTk.out, hin]; rfl)
                go_wp2
                go_quiet (fail)
                go_wp2
                go_roundw
                case rel => exact ⟨j + 1, by omega, by go_num, by rw [HRr.out], Lib.hid (below_drewN Hby.out _)⟩
                case measure => simp [intOf]; omega
            · obtain rfl : j = s2.length := by omega
              rw [List.take_length, HT.out]
              go_wp2
              go_roundw
              case rel => exact ⟨i + 1, by omega, by go_num, Hby⟩
              case measure => simp [intOf]; omega
        · obtain rfl : i = s1.length := by omega
          go_wp2_with (go_at_call 10; refine (wakes_any _).mono ?_; rintro r w7 ⟨rfl, hb7⟩)
          go_ret
          exact ⟨rfl, ((HU.out w6 HB6.out).trans (Hbx.out.mono (by omega))).trans (hb7.mono (by have := Hbx.out.size; omega))⟩
end Go.Proofs.Ytcgnpndfhhcplaa
