/-
  The law WatchQuiet answers true. Conditions: how its arguments lie in memory.
-/
import Derived.Test.YtcgnpndfhhcplaaShown
import Derived.Test.YtcgnpndfhhcplaaWakes
import Derived.Test.YtcgnpndfhhcplaaMargin
namespace Go.Proofs.Ytcgnpndfhhcplaa
open Go.RowKit W7
attribute [local go_sem] Oper.semAt_some
theorem lawWithin_ex (n lo hi : Int) (w : World) (h : lo ≤ hi) (h1 : -1000000000000 ≤ lo) (h2 : hi ≤ 1000000000000) :
    Calls Try.prog 26 #[.int .i64 n, .int .i64 lo, .int .i64 hi] w fun e w' => ∃ x, e = .returned (.int .i64 x) ∧ (lo ≤ x ∧ x ≤ hi) ∧ w' = w :=
  (lawWithin_any n lo hi w h h1 h2).mono fun _ _ ⟨k1, k2⟩ => ⟨_, k1, withinV_bnd h, k2⟩
theorem filt_snoc {l : List Reading} {T : Int} {k : Nat} (h : k < l.length) : (l.take (k + 1)).filter (fun r => decide (r.t ≤ T)) = (l.take k).filter (fun r => decide (r.t ≤ T)) ++ if decide (l[k].t ≤ T) then [l[k]] else [] := by
  rw [List.take_succ_eq_append_getElem h, List.filter_append]
  cases hc : decide (l[k].t ≤ T) <;> simp_all
theorem encR_snoc (a : List Reading) (r : Reading) : (a ++ [r]).flatMap encR = a.flatMap encR ++ [.int .i64 r.g, .int .i64 r.t, .int .i64 r.v] := by simp [encR]
theorem elemRd : Elem Try.prog 27 43 (.agg #[.int .i64 0, .int .i64 0, .int .i64 0]) 3 24 := Elem.mk' Try.underlying27 (by kernel_rfl) rfl (by decide) (by decide)
set_option maxHeartbeats 2000000 in
set_option maxRecDepth 100000 in
theorem LawQuiet_any (q : Quantity) (bg : Int) (st : List Int) (raw : List Reading) (bt per0 t0 : Int) (AS AR : Option Addr) (cS cR : Nat) (w : World) (hq : QIn w w.heap.size q) (hS : Sl w w.heap.size 1 encInt1 AS st) (hR : Sl w w.heap.size 3 encR AR raw) :
    Calls Try.prog 6 #[.agg #[.string q.name, .int .i64 q.lo, .int .i64 q.hi, .int .i64 q.rise, .int .i64 q.fall, .int .i64 q.bad, .slice q.gA q.gs.length q.gc], .int .i64 bg, .slice AS st.length cS, .slice AR raw.length cR, .int .i64 bt, .int .i64 per0, .int .i64 t0] w fun e w' => e = .returned (.bool true) ∧ Below w.heap.size w w' := by
  obtain ⟨cs, hcs⟩ : ∃ cs : Array Value, cs = #[.string q.name, .int .i64 q.lo, .int .i64 q.hi, .int .i64 q.rise, .int .i64 q.fall, .int .i64 q.bad, .slice q.gA q.gs.length q.gc] := ⟨_, rfl⟩
  obtain ⟨W0, hW0⟩ : ∃ W0, W0 = w.alloc (.cells cs 26) := ⟨_, rfl⟩
  have HB0 := Lib.hid (show Below w.heap.size w W0 by rw [hW0]; exact (Below.refl w.heap.size w).alloc (Nat.le_refl _) _)
  have Hs0 := Lib.hid (show W0.heap.size = w.heap.size + 1 by rw [hW0]; simp)
  have hs0 : w.heap.size < W0.heap.size := by have := Hs0.out; omega
  have Hc0 := Lib.hid (show ∀ j v, cs[j]? = some v → ∀ X, Below W0.heap.size W0 X → X.cell? ⟨w.heap.size, j, none⟩ = some v from fun j v hv X hX => (hX.cell (p := ⟨w.heap.size, j, none⟩) hs0).trans (by rw [hW0]; exact alloc_cell hv))
  have Hq := Lib.hid (fun (X : World) (hX : Below W0.heap.size W0 X) => hq.below (HB0.out.trans (hX.mono (Nat.le_of_lt hs0))))
  have HS := Lib.hid (fun (X : World) (hX : Below W0.heap.size W0 X) => hS.below (HB0.out.trans (hX.mono (Nat.le_of_lt hs0))))
  have HR := Lib.hid (fun (X : World) (hX : Below W0.heap.size W0 X) => hR.below (HB0.out.trans (hX.mono (Nat.le_of_lt hs0))))
  have HU := Lib.hid (fun (X : World) (hX : Below W0.heap.size W0 X) => show Below w.heap.size w X from HB0.out.trans (hX.mono (Nat.le_of_lt hs0)))
  have hql := hq.len
  have HM := Lib.hid (much_any q [] none 0 W0 hq.nm hq.len (by simp))
  rw [hcs] at Hc0 hW0
  have HW0 := Lib.hid hW0
  clear hcs hW0 cs hq hS hR
  have HBx := Lib.hid (fun (X : World) (hX : Below W0.heap.size W0 X) => show X.cell? ⟨w.heap.size, 0, none⟩ = some (.string q.name) ∧ X.cell? ⟨w.heap.size, 1, none⟩ = some (.int .i64 q.lo) ∧ X.cell? ⟨w.heap.size, 2, none⟩ = some (.int .i64 q.hi) ∧ X.cell? ⟨w.heap.size, 3, none⟩ = some (.int .i64 q.rise) ∧ X.cell? ⟨w.heap.size, 4, none⟩ = some (.int .i64 q.fall) ∧ X.cell? ⟨w.heap.size, 5, none⟩ = some (.int .i64 q.bad) ∧ X.cell? ⟨w.heap.size, 6, none⟩ = some (.slice q.gA q.gs.length q.gc) from ⟨Hc0.out 0 _ rfl X hX, Hc0.out 1 _ rfl X hX, Hc0.out 2 _ rfl X hX, Hc0.out 3 _ rfl X hX, Hc0.out 4 _ rfl X hX, Hc0.out 5 _ rfl X hX, Hc0.out 6 _ rfl X hX⟩)
  obtain ⟨c0, c1, c2, c3, c4, c5, c6⟩ := HBx.out W0 (Below.refl _ _)
  have hmx := max_run Try.prog
  go_enter Try.func6, Try.ntmps6
  go_wp2_with (go_at_call 34; fail)
  rw [← HW0.out]
  refine HM.out.mono ?_
  rintro r w1 ⟨rfl, hb1⟩
  have HB1 := Lib.hid hb1
  have hs1 := hb1.size
  clear hb1 HM c0 c1 c2 c3 c4 c5 c6
  obtain ⟨b0, b1, b2, b3, b4, b5, b6⟩ := HBx.out w1 HB1.out
  have HQC := Lib.hid (refCheckQ_any q w.heap.size w1 (Hq.out w1 HB1.out) (by omega))
  obtain ⟨ce, hce⟩ : ∃ ce, ce = qsErr [q] := ⟨_, rfl⟩
  rw [← hce] at HQC
  have Hce := Lib.hid hce
  clear hce
  cases hm : muchB q []
  rotate_left
  · go_wp2_with (go_at_call 10; refine (wakes_any _).mono ?_; rintro r w2 ⟨rfl, hb2⟩)
    go_ret
    exact ⟨rfl, (HU.out w1 HB1.out).trans (hb2.mono (by omega))⟩
  clear hm
  cases h1 : decide (6 < (q.gs.length : Int))
  rotate_left
  · go_wp2_with (go_at_call 10; refine (wakes_any _).mono ?_; rintro r w2 ⟨rfl, hb2⟩)
    go_ret
    exact ⟨rfl, (HU.out w1 HB1.out).trans (hb2.mono (by omega))⟩
  cases h2 : decide (40 < (st.length : Int))
  rotate_left
  · go_wp2_with (go_at_call 10; refine (wakes_any _).mono ?_; rintro r w2 ⟨rfl, hb2⟩)
    go_ret
    exact ⟨rfl, (HU.out w1 HB1.out).trans (hb2.mono (by omega))⟩
  cases h3 : decide (12 < (raw.length : Int))
  rotate_left
  · go_wp2_with (go_at_call 10; refine (wakes_any _).mono ?_; rintro r w2 ⟨rfl, hb2⟩)
    go_ret
    exact ⟨rfl, (HU.out w1 HB1.out).trans (hb2.mono (by omega))⟩
  cases h4 : (ce != 0)
  rotate_left
  · go_wp2_with (first | (go_at_call 20; refine HQC.out.mono ?_; rintro r w2 ⟨rfl, hb2⟩) | (go_at_call 10; refine (wakes_any _).mono ?_; rintro r w3 ⟨rfl, hb3⟩))
    go_ret
    exact ⟨rfl, ((HU.out w1 HB1.out).trans (hb2.mono (by omega))).trans (hb3.mono (by have := hb2.size; omega))⟩
  have hg6 : q.gs.length ≤ 6 := by simp at h1; omega
  have hst : st.length ≤ 40 := by simp at h2; omega
  have hraw : raw.length ≤ 12 := by simp at h3; omega
  have hqe : qsErr [q] = 0 := by rw [← Hce.out]; simpa using h4
  have Hqe := Lib.hid hqe
  have HQ := Lib.hid (goodQ q (qsErr_zero hqe).2)
  obtain ⟨hlo, hhi, hlh, hri, hfa, hg8, ⟨hbad0, hbadn⟩, hgs⟩ := HQ.out
  have Hgs := Lib.hid hgs
  go_wp2_with (go_at_call 34; fail)
  refine HQC.out.mono ?_
  rintro r w2 ⟨rfl, hb2⟩
  have HB2 := Lib.hid (HB1.out.trans (hb2.mono hs1))
  have hs2 := hb2.size
  clear hb2 HQC b0 b1 b2 b3 b4 b5 b6 hqe hgs h1 h2 h3
  obtain ⟨b0, b1, b2, b3, b4, b5, b6⟩ := HBx.out w2 HB2.out
  go_wp2_with (go_at_call 34; fail)
  refine (lawWithin_ex per0 1 10 w2 (by decide) (by decide) (by decide)).mono ?_
  rintro r w20 ⟨p, rfl, hpb, hw20⟩
  obtain rfl := hw20.symm
  go_wp2_with (go_at_call 34; fail)
  refine (lawWithin_ex t0 0 40 w2 (by decide) (by decide) (by decide)).mono ?_
  rintro r w21 ⟨T, rfl, hTb, hw21⟩
  obtain rfl := hw21.symm
  have HMa := Lib.hid (Margin_any q p T w.heap.size w2 (Hq.out w2 HB2.out) (by omega))
  have hme : marE q p T = if (q.gs.length : Int) ≤ 2 * q.bad then 9 else 0 := by
    unfold marE
    rw [if_pos Hqe.out, if_pos (by rw [Bool.and_eq_true, withinB_true, isTm_true]; omega)]
  go_wp2_with (go_at_call 34; fail)
  refine HMa.out.mono ?_
  rintro r w22 ⟨rfl, hb22⟩
  have HB22 := Lib.hid (HB2.out.trans (hb22.mono (by omega)))
  have hs22 := hb22.size
  clear hb22 HMa b0 b1 b2 b3 b4 b5 b6
  obtain ⟨b0, b1, b2, b3, b4, b5, b6⟩ := HBx.out w22 HB22.out
  obtain ⟨mv, hmv⟩ : ∃ mv, mv = marV q p T := ⟨_, rfl⟩
  rw [← hmv]
  cases hsc : decide ((q.gs.length : Int) ≤ 2 * q.bad)
  rotate_left
  · rw [hme, if_pos (of_decide_eq_true hsc)]
    clear hme hmv
    go_wp2_with (go_at_call 10; refine (wakes_any _).mono ?_; rintro r w3 ⟨rfl, hb3⟩)
    go_ret
    exact ⟨rfl, (HU.out w22 HB22.out).trans (hb3.mono (by omega))⟩
  have hn2 : 2 * q.bad < (q.gs.length : Int) := by have := of_decide_eq_false hsc; omega
  rw [if_neg (by omega)] at hme
  have HMv := Lib.hid (show mv = 2 * worstL q.gs T + (q.rise + q.fall) * p by rw [hmv]; unfold marV; rw [if_pos hme])
  rw [hme]
  have hwl : 0 ≤ worstL q.gs T ∧ worstL q.gs T ≤ 102000000000 := by
    have := worstAt_bnd (u := T) ⟨hTb.1, by omega⟩ Hgs.out q.gs.length (Nat.le_refl _)
    rwa [worstAt_all] at this
  have hmvb : 0 ≤ mv ∧ mv ≤ 300000000000 := by
    have h1 : 0 ≤ (q.rise + q.fall) * p := Int.mul_nonneg (by omega) (by omega)
    have h2 : (q.rise + q.fall) * p ≤ 20000 * p := Int.mul_le_mul_of_nonneg_right (by omega) (by omega)
    have := HMv.out
    omega
  clear hme hmv hsc hwl
  have HWk := Lib.hid (lawWalk_any q bg st AS cS w.heap.size w22 (HS.out w22 HB22.out) (by omega) (by omega) hlo hhi hlh hri hfa)
  go_wp2_with (go_at_call 34; fail)
  refine HWk.out.mono ?_
  rintro r w3 ⟨vX, X, rfl, hXl, hXw, hXo, hb3⟩
  have HB3 := Lib.hid (HB22.out.trans (hb3.mono (by omega)))
  have hs3 := hb3.size
  rw [map_int1] at hXo
  obtain ⟨AX, cX, rfl, hcX1, hcX2⟩ := own_cap hXo
  have HX := Lib.hid (fun (Y : World) (hY : Below w3.heap.size w3 Y) => sl_own (enc := encInt1) (fun _ => rfl) (own_below hXo hY))
  have Hw := Lib.hid hXw
  have HXl := Lib.hid hXl
  have hX41 : X.length ≤ 41 := by omega
  have hX0 : 0 < X.length := by omega
  clear hb3 HWk b0 b1 b2 b3 b4 b5 b6 hXo hXw hXl
  obtain ⟨b0, b1, b2, b3, b4, b5, b6⟩ := HBx.out w3 HB3.out
  have HBr := Lib.hid (broken_any q bt w3 hg8 hbad0 hbadn)
  go_wp2_with (go_at_call 34; fail)
  refine HBr.out.mono ?_
  rintro r w4 ⟨gb, bs, rfl, hbl, hbc, hbo, hb4⟩
  have HB4 := Lib.hid (HB3.out.trans (hb4.mono (by omega)))
  have hs4 := hb4.size
  have Hb4 := Lib.hid hb4
  rw [map_bool1] at hbo
  have Hbl := Lib.hid hbl
  have Hbc := Lib.hid hbc
  have Hbo := Lib.hid hbo
  clear hb4 HBr b0 b1 b2 b3 b4 b5 b6 hbl hbc
  obtain ⟨b0, b1, b2, b3, b4, b5, b6⟩ := HBx.out w4 HB4.out
  have HSh := Lib.hid (shown_any q X bs raw AX (some ⟨gb, 0, none⟩) AR cX bs.length cR w4.heap.size w4 ((Hq.out w4 HB4.out).mono (by omega)) ((HX.out w4 Hb4.out).mono (by omega)) ((sl_own (enc := encBool1) (fun _ => rfl) hbo).mono (by omega)) ((HR.out w4 HB4.out).mono (by omega)) (Nat.le_refl _) Hw.out (by omega) Hbl.out (by omega) hg8 hlo hhi hri hfa Hgs.out)
  clear hbo
  go_wp2_with (go_at_call 34; fail)
  refine HSh.out.mono ?_
  rintro r w5 ⟨vL, L, rfl, hLl, hLr, hLo, hb5⟩
  have HB5 := Lib.hid (HB4.out.trans (hb5.mono (by omega)))
  have hs5 := hb5.size
  obtain ⟨AL, cL, rfl, hcL1, hcL2⟩ := own_cap hLo
  have HLo := Lib.hid hLo
  have HX5 := Lib.hid (fun (Y : World) (hY : Below w5.heap.size w5 Y) => HX.out Y ((Hb4.out.trans (hb5.mono (by omega))).trans (hY.mono (by omega))))
  have HBo5 := Lib.hid (own_below Hbo.out hb5)
  have HLr := Lib.hid hLr
  have hL12 : L.length ≤ 12 := by omega
  have Hhv := Lib.hid (fun (t : Int) (ht : 0 ≤ t ∧ t ≤ 100000) => hv_bnd Hw.out hri hfa hlo hhi t ht)
  clear hb5 HSh b0 b1 b2 b3 b4 b5 b6 hLo hLr HX Hbo
  go_wp2
  go_loopw [19, 21] (fun v19 v21 wr => ∃ k : Nat, k ≤ L.length ∧ v21 = .int .i64 k ∧ Hid (wr.ownsRow w5.heap.size 43 3 v19 ((L.take k).filter (fun r => decide (r.t ≤ T))).length (((L.take k).filter (fun r => decide (r.t ≤ T))).flatMap encR)) ∧ Hid (Below w5.heap.size w5 wr)) (fun _ v21 _ => L.length - (intOf v21).toNat)
  case atStart => exact ⟨0, by omega, rfl, Lib.hid (World.ownsRow_nil _ _ _ _), Lib.hid (Below.refl _ _)⟩
  case round =>
    obtain ⟨k, hk, rfl, Ho, Hb⟩ := hrel
    have hsz := Hb.out.size
    by_cases hlt : k < L.length
    · obtain ⟨g, cap, e, hg⟩ := own_form HLo.out (by omega)
      cases e
      have hgx : g < w5.heap.size := (HLo.out.lt g rfl).2
      have Hfs := Lib.hid (filt_snoc (T := T) hlt)
      have hfl : ((L.take k).filter (fun r => decide (r.t ≤ T))).length ≤ k := by
        have h1 := List.length_filter_le (fun r : Reading => decide (r.t ≤ T)) (L.take k)
        rw [List.length_take] at h1; omega
      obtain ⟨fl, hfle⟩ : ∃ fl, fl = (L.take k).filter (fun r => decide (r.t ≤ T)) := ⟨_, rfl⟩
      rw [← hfle] at Hfs Ho hfl
      obtain ⟨rd, hrd⟩ : ∃ rd, rd = L[k] := ⟨_, rfl⟩
      rw [← hrd] at Hfs
      have hcell : ∀ j v, (encR rd)[j]? = some v → wr.cell? ⟨g, k * 3 + j, none⟩ = some v := fun j v hv => (Hb.out.cell (p := ⟨g, k * 3 + j, none⟩) hgx).trans (by
        have hj : j < 3 := by
          rcases Nat.lt_or_ge j 3 with h | h
          · exact h
          · rw [List.getElem?_eq_none (by simpa [encR] using h)] at hv; cases hv
        rw [hrd] at hv
        exact (HLo.out.cellAt (k * 3 + j) (by omega)).trans ((flatMap_get (enc := encR) (k := 3) (fun _ => rfl) L k j hlt hj).trans hv))
      have r0 : wr.cell? ⟨g, k * 3, none⟩ = some (.int .i64 rd.g) := hcell 0 _ rfl
      have r1 := hcell 1 _ rfl
      have r2 := hcell 2 _ rfl
      clear hcell hrd hfle
      cases ht : decide (rd.t ≤ T)
      · rw [ht] at Hfs
        go_wp2
        go_roundw
        case rel => exact ⟨k + 1, by omega, by go_num, Lib.hid (by rw [Hfs.out, if_neg (by decide), List.append_nil]; exact Ho.out), Hb⟩
        case measure => simp [intOf]; omega
      · rw [ht] at Hfs
        go_wp2_with (at_builtin; refine wpList_append1 rfl _ _ 27 rfl w5.heap.size 43 _ 3 24 elemRd _ _ _ rfl Ho.out #[.int .i64 rd.g, .int .i64 rd.t, .int .i64 rd.v] 1 _ rfl (by simp) rfl (by simp [Value.oneCell']) (by omega) (by omega) ?_; intro v6 w6 hown6 hb6 hsz6 hg6 hblk6; have Ho6 := Lib.hid hown6; have Hb6 := Lib.hid hb6; clear hown6 hb6 hsz6 hg6 hblk6)
        go_roundw
        case rel => exact ⟨k + 1, by omega, by go_num, Lib.hid (by rw [Hfs.out, if_pos rfl, encR_snoc, List.length_append]; exact Ho6.out), Lib.hid (Hb.out.trans Hb6.out)⟩
        case measure => simp [intOf]; omega
    · obtain rfl : k = L.length := by omega
      rw [List.take_length] at Ho
      obtain ⟨fl, hfle⟩ : ∃ fl, fl = L.filter (fun r => decide (r.t ≤ T)) := ⟨_, rfl⟩
      rw [← hfle] at Ho
      have Hfl := Lib.hid (show fl.length ≤ 12 ∧ ∀ r ∈ fl, RdOk q X bs r from ⟨by rw [hfle]; have := List.length_filter_le (fun r : Reading => decide (r.t ≤ T)) L; omega, fun r hr => by rw [hfle] at hr; exact HLr.out r (List.mem_filter.1 hr).1⟩)
      clear hfle
      go_wp2
      go_loopw [19, 22] (fun v19 v22 wx => ∃ (k : Nat) (M : List Reading), k ≤ q.gs.length ∧ v22 = .int .i64 k ∧ M.length ≤ 12 + k ∧ Hid (∀ r ∈ M, RdOk q X bs r) ∧ Hid (∀ i : Nat, i < k → bs.getD i false = false → ∃ r ∈ M, r.g = (i : Int) ∧ 0 ≤ r.t ∧ r.v = hv X r.t ∧ r.t ≤ T ∧ T ≤ r.t + p) ∧ Hid (wx.ownsRow w5.heap.size 43 3 v19 M.length (M.flatMap encR)) ∧ Hid (Below w5.heap.size w5 wx)) (fun _ v22 _ => q.gs.length - (intOf v22).toNat)
      case atStart => exact ⟨0, fl, by omega, rfl, by have := Hfl.out.1; omega, Lib.hid Hfl.out.2, Lib.hid (fun i hi => absurd hi (by omega)), Ho, Hb⟩
      case round =>
        obtain ⟨k, M, hk, rfl, hMl, HMr, HMc, HMo, Hbx⟩ := hrel
        have hszx := Hbx.out.size
        have HBx2 := Lib.hid (HB5.out.trans (Hbx.out.mono (by have := HB5.out.size; omega)))
        obtain ⟨b0, b1, b2, b3, b4, b5, b6⟩ := HBx.out wr HBx2.out
        by_cases hlk : k < q.gs.length
        · have hkb : (k : Int) < (bs.length : Int) := by have := Hbl.out; omega
          have hgbx : gb < w5.heap.size := (HBo5.out.lt gb rfl).2
          obtain ⟨bb, hbb⟩ : ∃ bb, bb = bs[k]'(by omega) := ⟨_, rfl⟩
          have Hbb := Lib.hid (show bs.getD k false = bb by rw [hbb, List.getD_eq_getElem?_getD, List.getElem?_eq_getElem (by omega)]; rfl)
          have zb : wr.cell? ⟨gb, k, none⟩ = some (.bool bb) := (Hbx.out.cell (p := ⟨gb, k, none⟩) hgbx).trans (by
            rw [hbb]
            have := (HBo5.out.cellAt (k * 1 + 0) (by omega)).trans (flatMap_get (enc := encBool1) (k := 1) (fun _ => rfl) bs k 0 (by omega) (by omega))
            simpa [encBool1] using this)
          clear hbb
          cases bb
          rotate_left
          · go_wp2
            go_roundw
            case rel => exact ⟨k + 1, M, by omega, by go_num, by omega, HMr, Lib.hid (fun i hi hf => by
              rcases Nat.lt_or_ge i k with h | h
              · exact HMc.out i h hf
              · obtain rfl : i = k := by omega
                rw [Hbb.out] at hf; cases hf), HMo, Hbx⟩
            case measure => simp [intOf]; omega
          · go_wp2_with (go_at_call 34; fail)
            refine (lawWithin_ex _ 0 p wr (by omega) (by decide) (by omega)).mono ?_
            rintro r w61 ⟨V, rfl, hVb, hw61⟩
            obtain rfl := hw61.symm
            go_wp2_with (go_at_call 34; fail)
            obtain ⟨S, hS⟩ : ∃ S, max (T - V) 0 = S := ⟨_, rfl⟩
            rw [hS]
            have hSb : 0 ≤ S ∧ S ≤ T ∧ T ≤ S + p := by omega
            clear hS
            have HA := Lib.hid (histAt_any X S AX cX wr.heap.size wr ((HX5.out wr Hbx.out).mono (by omega)) (Nat.le_refl _) hX0 (by omega) (by omega) (by omega))
            have hxb := Hhv.out S (by omega)
            obtain ⟨xs, hxs⟩ : ∃ xs, xs = hv X S := ⟨_, rfl⟩
            rw [← hxs] at HA hxb
            have Hxs := Lib.hid hxs
            clear hxs
            refine HA.out.mono ?_
            rintro r w62 ⟨rfl, hw62⟩
            obtain rfl := hw62.symm
            cases h1 : decide (xs < -1000000000)
            rotate_left
            · go_wp2_with (go_at_call 10; refine (wakes_any _).mono ?_; rintro r w7 ⟨rfl, hb7⟩)
              go_ret
              exact ⟨rfl, (HU.out wr HBx2.out).trans (hb7.mono (by omega))⟩
            cases h2 : decide (1000000000 < xs)
            rotate_left
            · go_wp2_with (go_at_call 10; refine (wakes_any _).mono ?_; rintro r w7 ⟨rfl, hb7⟩)
              go_ret
              exact ⟨rfl, (HU.out wr HBx2.out).trans (hb7.mono (by omega))⟩
            have hx1 := of_decide_eq_false h1
            have hx2 := of_decide_eq_false h2
            have HNew := Lib.hid (show RdOk q X bs ⟨k, S, xs⟩ from ⟨by simp, by simpa using hlk, hSb.1, by simp only; omega, by simp only; omega, by simp only; omega, fun _ => by
              have e2 : q.gs.getD (k : Int).toNat default = q.gs[k]'hlk := by rw [Int.toNat_natCast, getD_mem _ _ hlk]
              have := devi_bnd (t := S) (Hgs.out (q.gs[k]'hlk) (List.getElem_mem hlk)) (by omega)
              simp only
              rw [e2, ← Hxs.out]
              omega⟩)
            go_wp2_with (at_builtin; refine wpList_append1 rfl _ _ 27 rfl w5.heap.size 43 _ 3 24 elemRd _ _ _ rfl HMo.out #[.int .i64 (k : Int), .int .i64 S, .int .i64 xs] 1 _ rfl (by simp) rfl (by simp [Value.oneCell']) (by omega) (by omega) ?_; intro v6 w6 hown6 hb6 hsz6 hg6 hblk6; have Ho6 := Lib.hid hown6; have Hb6 := Lib.hid hb6; clear hown6 hb6 hsz6 hg6 hblk6)
            go_roundw
            case rel => exact ⟨k + 1, M ++ [⟨k, S, xs⟩], by omega, by go_num, by simp; omega, Lib.hid (fun r hr => by
              rcases List.mem_append.1 hr with h | h
              · exact HMr.out r h
              · rw [List.mem_singleton] at h; subst h; exact HNew.out), Lib.hid (fun i hi hf => by
              rcases Nat.lt_or_ge i k with h | h
              · obtain ⟨r, h1, h2⟩ := HMc.out i h hf
                exact ⟨r, List.mem_append.2 (.inl h1), h2⟩
              · obtain rfl : i = k := by omega
                exact ⟨⟨i, S, xs⟩, by simp, rfl, hSb.1, Hxs.out, hSb.2.1, hSb.2.2⟩), Lib.hid (by rw [encR_snoc, List.length_append]; exact Ho6.out), Lib.hid (Hbx.out.trans Hb6.out)⟩
            case measure => simp [intOf]; omega
        · obtain rfl : k = q.gs.length := by omega
          obtain ⟨AM, cM, rfl, hcM1, hcM2⟩ := own_cap HMo.out
          have hM18 : M.length ≤ 18 := by omega
          have HP := Lib.hid (Possible18_any q M T AM cM wr.heap.size wr ((Hq.out wr HBx2.out).mono (by omega)) (sl_own (enc := encR) (fun _ => rfl) HMo.out) (Nat.le_refl _) hcM1 hcM2 (fun _ => hM18))
          have HCh := Lib.hid (shown_checked Hqe.out (by omega) HMr.out)
          have HG := Lib.hid (good_of HCh.out).1
          have HE := Lib.hid (possE_zero.2 ⟨HCh.out, isTm_true.2 (by omega)⟩ : possE q M T = 0)
          go_wp2_with (go_at_call 34; fail)
          refine HP.out.mono ?_
          rintro r w7 ⟨va, sp, rfl, _, hva, hla, hba, howna, hb7⟩
          rw [HE.out]
          have HV := Lib.hid (hva HE.out)
          have HIs := Lib.hid (fun (x : Int) => maybe_iff (x := x) HG.out (t := T) ⟨by omega, by omega⟩ HV.out)
          have hne : 0 < sp.length := by
            obtain ⟨s, hs, _⟩ := (HIs.out _).2 (hist_maybe HG.out Hw.out hbad0 Hbl.out Hbc.out hbadn HMr.out hTb.1)
            exact List.length_pos_of_mem hs
          have hnear : ∀ s ∈ sp, (s.hi ≤ hv X T + mv) ∧ hv X T - mv ≤ s.lo := fun s hs => by
            have hle := HV.out.1.le s hs
            have k1 := hist_near HG.out Hw.out hbad0 Hbl.out Hbc.out hn2 hTb.1 HMc.out ((HIs.out s.hi).1 ⟨s, hs, hle, Int.le_refl _⟩)
            have k2 := hist_near HG.out Hw.out hbad0 Hbl.out Hbc.out hn2 hTb.1 HMc.out ((HIs.out s.lo).1 ⟨s, hs, Int.le_refl _, hle⟩)
            rw [HMv.out]
            exact ⟨k1.1, k2.2⟩
          obtain ⟨n, hn⟩ : ∃ n, n = sp.length - 1 := ⟨_, rfl⟩
          obtain ⟨s1, hs1⟩ : ∃ s, s = sp[n]'(by omega) := ⟨_, rfl⟩
          obtain ⟨s0, hs0e⟩ : ∃ s, s = sp[0]'hne := ⟨_, rfl⟩
          have hxb := Hhv.out T (by omega)
          have Hn1 := hnear s1 (by rw [hs1]; exact List.getElem_mem _)
          have Hn0 := hnear s0 (by rw [hs0e]; exact List.getElem_mem _)
          have hb1 := hba s1 (by rw [hs1]; exact List.getElem_mem _)
          have hb0 := hba s0 (by rw [hs0e]; exact List.getElem_mem _)
          have HB7 := Lib.hid (Hbx.out.trans (hb7.mono (by omega)))
          have hs7 := hb7.size
          obtain ⟨g, cap, rfl, hg⟩ := own_form howna hne
          have hgx : g < w7.heap.size := (howna.lt g rfl).2
          have m1 := later_cell (show w7.cell? ⟨g, n * 2 + 1, none⟩ = some (.int .i64 s1.hi) by rw [hs1]; exact (howna.cellAt _ (by omega)).trans (encSps_1 (by omega))) hgx
          have m0 := later_cell (show w7.cell? ⟨g, 0, none⟩ = some (.int .i64 s0.lo) by rw [hs0e]; have := (howna.cellAt (0 * 2) (by omega)).trans (encSps_0 hne); simpa using this) hgx
          have HAt := Lib.hid (fun (Y : World) (hY : Below w7.heap.size w7 Y) => histAt_any X T AX cX Y.heap.size Y ((HX5.out Y (HB7.out.trans (hY.mono (by omega)))).mono (by have := hY.size; omega)) (Nat.le_refl _) hX0 (by omega) (by omega) (by omega))
          obtain ⟨xT, hxT⟩ : ∃ x, x = hv X T := ⟨_, rfl⟩
          rw [← hxT] at HAt Hn1 Hn0 hxb
          have hz : ((sp.length : Int) == 0) = false := by rw [beq_eq_false_iff_ne]; omega
          have t1 : decide (s1.hi ≤ xT + mv) = true := decide_eq_true Hn1.1
          have t2 : decide (xT - mv ≤ s0.lo) = true := decide_eq_true Hn0.2
          have j1 : ((sp.length : Int) - 1).toNat = n := by omega
          have j2 : (sp.length : Int) - 1 < (sp.length : Int) := by omega
          have j3 : (0 : Int) ≤ (sp.length : Int) - 1 := by omega
          have j4 : (0 : Int) < (sp.length : Int) := by omega
          clear hn hs1 hs0e hnear hva hba howna hb7 HP b0 b1 b2 b3 b4 b5 b6 HV HIs hxT Hn1 Hn0 HMc
          go_wp2
          refine wp_region_later (by kernel_rfl) (by kernel_rfl) ?_
          repeat (any_goals (first | go_big_quiet_step ((first | (go_at_call 25; exact later_call_same _ ((HAt.out _ (Later.b _)).mono fun _ _ ⟨h1, h2⟩ => ⟨h1, h2.symm⟩)) | (go_at_call 10; exact later_call _ (wakes_any _)))) | quiet_step ((first | (go_at_call 25; exact later_call_same _ ((HAt.out _ (Later.b _)).mono fun _ _ ⟨h1, h2⟩ => ⟨h1, h2.symm⟩)) | (go_at_call 10; exact later_call _ (wakes_any _))))))
          refine wpQuiet_nil ?_
          rintro w' ⟨e, rfl⟩
          go_wp2
          go_ret
          exact ⟨rfl, (HU.out w7 (HB5.out.trans (HB7.out.mono (by have := HB5.out.size; omega)))).trans (e.b.mono (by omega))⟩
end Go.Proofs.Ytcgnpndfhhcplaa
