/-
  WorksSafe's law returns true for every input that can be read. Conditions: how the table and the list lie in memory; the names' sizes are ints.
-/
import Derived.Test.YtjpgnfekbojcaaaGreatWSafe0
import Derived.Test.YtjpgnfekbojcaaaGreatWDig3
set_option maxHeartbeats 8000000
set_option maxRecDepth 100000
namespace Go.Proofs.YtjpgnfekbojcaaaGreat
open Go.RowKit W7 W8
attribute [local go_sem] Oper.semAt_some
theorem LawSafe_any (t : Table) (l : List Dive) (who : ByteArray) (p m ready : Int) (A : Option Addr) (n c B : Nat) (w : World) (ht : TIn w B t) (hn : n = l.length) (hA : Sl w B 5 encDive A l) (hz : A = none -> n = 0 /\ c = 0) (hB : B <= w.heap.size) (hnc : n <= c) (hc : c <= 9223372036854775807) (hw : ∀ d ∈ l, d.who.size <= maxLen) (hwho : who.size <= maxLen) :
  Calls Tryz.prog 11 #[tabV t, .slice A n c, .string who, .int .i64 p, .int .i64 m, .int .i64 ready] w fun e w' => e = .returned (.bool true) /\ Below w.heap.size w w' := by
 obtain ⟨rn, hrn⟩ : ∃ x, t.rows.length = x := ⟨_, rfl⟩
 obtain ⟨W0, HW0, hs0, HB0, HX00, HU0⟩ := boxes1 w (.cells #[.slice t.A rn t.c, .int .i64 t.rest, .int .i64 t.day] 74)
 have HT := hI (show ∀ X : World, Below W0.heap.size W0 X -> TIn X B t /\ Sl X B 5 encDive A l from fun X hX => ⟨ht.below ((HB0.out.mono hB).trans (hX.mono (by omega))), hA.below ((HB0.out.mono hB).trans (hX.mono (by omega)))⟩)
 have HM := hI (many_any t l A n c B W0 hn (HT.out W0 (Below.refl _ _)).2 (by omega) hnc hc)
 have Hn := hI hn
 have Hz := hI hz
 have Hw := hI hw
 have HDg := hI digs_any
 have Hrn := hI hrn
 have q0 := W7.bc (j := 0) (HX00.out W0 (Below.refl _ _)) rfl
 have q1 := W7.bc (j := 1) (HX00.out W0 (Below.refl _ _)) rfl
 have q2 := W7.bc (j := 2) (HX00.out W0 (Below.refl _ _)) rfl
 clear ht hn hA hz hw
 unfold tabV at HM
 unfold tabV
 rw [hrn] at HM
 rw [hrn]
 clear hrn
 go_enter Tryz.func11, Tryz.ntmps11
 go_upto_region 1 with fail
 rw [<- HW0.out]
 go_wp2_with (go_at_call 41; fail)
 refine HM.out.mono ?_
 rintro e w1 ⟨b, rfl, hbb, hb1⟩
 have hs1 := hb1.size
 have Hb1 := hI hb1
 clear hb1 q0 q1 q2 HM
 cases b
 rotate_left
 ·clear hbb
  go_wp2_with (go_at_call 16; refine (HDg.out _).mono ?_; rintro e w2 ⟨rfl, hb2⟩; have Hb2 := hI (Hb1.out.trans (hb2.mono hs1)); clear hb2)
  go_ret
  exact ⟨rfl, HU0.out _ Hb2.out⟩
 obtain ⟨htl, hnl⟩ := hbb rfl
 cases h100 : decide ((who.size : Int) > 100)
 rotate_left
 ·go_wp2_with (go_at_call 16; refine (HDg.out _).mono ?_; rintro e w2 ⟨rfl, hb2⟩; have Hb2 := hI (Hb1.out.trans (hb2.mono hs1)); clear hb2)
  go_ret
  exact ⟨rfl, HU0.out _ Hb2.out⟩
 cases h128 : decide ((n : Int) >= 128)
 rotate_left
 ·go_wp2_with (go_at_call 16; refine (HDg.out _).mono ?_; rintro e w2 ⟨rfl, hb2⟩; have Hb2 := hI (Hb1.out.trans (hb2.mono hs1)); clear hb2)
  go_ret
  exact ⟨rfl, HU0.out _ Hb2.out⟩
 have hl128 : n < 128 := by have := of_decide_eq_false h128; omega
 go_upto_region 5 with fail
 clear h100 h128
 go_loopw [13, 14] (fun v13 v14 wr => ∃ (i : Nat) (fb : Bool), 1 <= i /\ i <= rn + 1 /\ v13 = .bool fb /\ v14 = .int .i64 i /\ Hid (fb = false -> ∀ k, 0 < k -> k < i -> k < rn -> (t.rows.getD (k - 1) default).out <= (t.rows.getD k default).out) /\ Hid (Below W0.heap.size W0 wr)) (fun _ v14 _ => rn + 1 - (intOf v14).toNat)
 case atStart => exact ⟨1, false, by omega, by omega, rfl, rfl, hI (fun _ k h1 h2 => by omega), Hb1⟩
 case round =>
  obtain ⟨i, fb, hi1, hi2, rfl, rfl, Hfb, Hb⟩ := hrel
  have hsr := Hb.out.size
  have q0 := W7.bc (j := 0) (HX00.out wr Hb.out) rfl
  have q1 := W7.bc (j := 1) (HX00.out wr Hb.out) rfl
  have q2 := W7.bc (j := 2) (HX00.out wr Hb.out) rfl
  by_cases hlt : i < rn
  ·have hil : i < t.rows.length := by rw [Hrn.out]; exact hlt
   obtain ⟨b, off, hbe, hbB, hcells⟩ := (HT.out wr Hb.out).1.sl (by omega)
   have c2 : wr.cell? ⟨b, off + i * 3 + 2, none⟩ = some (.int .i64 (t.rows.getD i default).out) := by rw [getD_lt hil]; exact hcells i hil 2 _ rfl
   have c3 : wr.cell? ⟨b, off + (i - 1) * 3 + 2, none⟩ = some (.int .i64 (t.rows.getD (i - 1) default).out) := by rw [getD_lt (show i - 1 < t.rows.length by omega)]; exact hcells (i - 1) (by omega) 2 _ rfl
   rw [hbe] at q0
   have Hup := hI (show fb = false -> (t.rows.getD (i - 1) default).out <= (t.rows.getD i default).out -> ∀ k, 0 < k -> k < i + 1 -> k < rn -> (t.rows.getD (k - 1) default).out <= (t.rows.getD k default).out from fun h1 h2 k hk1 hk2 hk3 => by
    by_cases e : k = i
    ·rw [e]; exact h2
    ·exact Hfb.out h1 k hk1 (by omega) hk3)
   generalize (t.rows.getD i default).out = oi at c2 Hup
   generalize (t.rows.getD (i - 1) default).out = oj at c3 Hup
   clear hcells hbe hil
   cases fb
   ·cases hfo : decide (oi < oj)
    ·have HU := hI (Hup.out rfl (by have := of_decide_eq_false hfo; omega))
     go_wp2
     go_quiet (fail)
     have HB3 := hI (below_drewN (B := W0.heap.size) Hb.out nq)
     go_wp2
     go_roundw
     case rel => exact ⟨i + 1, false, by omega, by omega, rfl, by go_num, hI (fun _ => HU.out), HB3⟩
     case measure => simp [intOf]; omega
    ·go_wp2
     go_quiet (fail)
     have HB3 := hI (below_drewN (B := W0.heap.size) Hb.out nq)
     go_wp2
     go_roundw
     case rel => exact ⟨i + 1, true, by omega, by omega, rfl, by go_num, hI (fun h => absurd h (by decide)), HB3⟩
     case measure => simp [intOf]; omega
   ·go_wp2
    go_quiet (fail)
    have HB3 := hI (below_drewN (B := W0.heap.size) Hb.out nq)
    go_wp2
    go_roundw
    case rel => exact ⟨i + 1, true, by omega, by omega, rfl, by go_num, hI (fun h => absurd h (by decide)), HB3⟩
    case measure => simp [intOf]; omega
  ·have HF := hI (show fb = false -> ∀ k, 0 < k -> k < t.rows.length -> (t.rows.getD (k - 1) default).out <= (t.rows.getD k default).out from fun h k h1 h2 => Hfb.out h k h1 (by have := Hrn.out; omega) (by have := Hrn.out; omega))
   clear Hfb
   have HV1 := hI (WayOut_any t p m B wr (HT.out wr Hb.out).1 (by omega) (by have := Hrn.out; omega))
   unfold tabV at HV1
   rw [Hrn.out] at HV1
   obtain ⟨wv, hwv⟩ : ∃ x, wayV t p m = x := ⟨_, rfl⟩
   obtain ⟨wz, hwz⟩ : ∃ x, wayErr t p m = x := ⟨_, rfl⟩
   rw [hwv, hwz] at HV1
   have Hwv := hI hwv
   have Hwz := hI hwz
   clear hwv hwz
   go_upto_region 9 with (go_at_call 42; refine HV1.out.mono ?_; rintro e w2 ⟨rfl, hb2⟩; have hs2 := hb2.size; have Hb2 := hI (Hb.out.trans (hb2.mono hsr)); clear hb2)
   clear q0 q1 q2 HV1
   have q0 := W7.bc (j := 0) (HX00.out w2 Hb2.out) rfl
   have q1 := W7.bc (j := 1) (HX00.out w2 Hb2.out) rfl
   have q2 := W7.bc (j := 2) (HX00.out w2 Hb2.out) rfl
   have HV2 := hI (fun m1 : Int => WayOut_any t p m1 B w2 (HT.out w2 Hb2.out).1 (by omega) (by have := Hrn.out; omega))
   unfold tabV at HV2
   rw [Hrn.out] at HV2
   go_wp2_with (go_at_call 42; fail)
   obtain ⟨m1, hm1⟩ : ∃ x, wrap64 (m - 1) = x := ⟨_, rfl⟩
   rw [hm1]
   have HV3 := hI (HV2.out m1)
   obtain ⟨wv', hwv'⟩ : ∃ x, wayV t p m1 = x := ⟨_, rfl⟩
   obtain ⟨wy, hwy⟩ : ∃ x, wayErr t p m1 = x := ⟨_, rfl⟩
   rw [hwv', hwy] at HV3
   have HC10 := hI (show wz = 0 -> wy = 0 -> fb = false -> wv' <= wv from fun h1 h2 h3 => by
    have hz : wayErr t p m = 0 := by rw [Hwz.out]; exact h1
    have hm : isTm m = true := by
     unfold wayErr at hz
     by_cases h4 : tblErr t ≠ 0
     ·rw [if_pos h4] at hz; exact absurd hz h4
     rw [if_neg h4] at hz
     cases h5 : isTm m
     ·rw [h5, Bool.and_false, if_neg (by decide)] at hz; exact absurd hz (by decide)
     ·rfl
    have hmb := isTm_true.1 hm
    have e : m1 = m - 1 := by rw [<- hm1]; unfold wrap64; omega
    rw [<- hwv', <- Hwv.out, e]
    exact way_less2 (HF.out h3) hz (by rw [<- e, hwy]; exact h2))
   clear hm1 hwv' hwy q0 q1 q2 HV2 HF Hwv Hwz
   refine HV3.out.mono ?_
   rintro e w4 ⟨rfl, hb4⟩
   have hs4 := hb4.size
   have Hb4 := hI (Hb2.out.trans (hb4.mono (by omega)))
   clear hb4 HV3
   go_upto_region 10 with fail
   go_cut [90] (fun v90 wx => v90 = .bool false /\ wx = w4)
   case first =>
    cases e1 : (wz == 0)
    ·go_wp2
     go_meet
     exact ⟨rfl, rfl⟩
    ·cases e2 : (wy == 0)
     ·go_wp2
      go_meet
      exact ⟨rfl, rfl⟩
     ·cases fb
      ·cases e3 : decide (wv' > wv)
       ·go_wp2
        go_meet
        exact ⟨rfl, rfl⟩
       ·exfalso
        have h1 := HC10.out (eq_of_beq e1) (eq_of_beq e2) rfl
        have h2 := of_decide_eq_true e3
        omega
      ·go_wp2
       go_meet
       exact ⟨rfl, rfl⟩
   case rest =>
    obtain ⟨rfl, hwc⟩ := hcut
    have hwc' := hwc.symm
    subst hwc'
    clear HC10
    have HN1 := hI (Next_any t l who p m ready A n c B w4 (HT.out w4 Hb4.out).1 (by have := Hrn.out; omega) Hn.out (HT.out w4 Hb4.out).2 Hz.out (by omega) hnc hc Hw.out hwho)
    unfold tabV at HN1
    rw [Hrn.out] at HN1
    have q0 := W7.bc (j := 0) (HX00.out w4 Hb4.out) rfl
    have q1 := W7.bc (j := 1) (HX00.out w4 Hb4.out) rfl
    have q2 := W7.bc (j := 2) (HX00.out w4 Hb4.out) rfl
    by_cases h0 : (nextR t l who p m ready).1 = 0
    rotate_left
    ·rw [nextR_bad h0] at HN1
     obtain ⟨ev, hev⟩ : ∃ x, (nextR t l who p m ready).1 = x := ⟨_, rfl⟩
     rw [hev] at HN1
     have hne : (ev != 0) = true := by rw [<- hev]; exact bne_iff_ne.2 h0
     unfold diveV noDive at HN1
     clear hev h0
     go_upto_region 13 with (go_at_call 49; refine HN1.out.mono ?_; rintro e w8 ⟨rfl, hb8⟩; have hs8 := hb8.size; have Hb8 := hI (Hb4.out.trans (hb8.mono (by omega))); clear hb8)
     clear q0 q1 q2 HN1
     obtain ⟨W8, hW8⟩ : ∃ W8, W8 = w8.alloc (.cells #[.string ⟨#[]⟩, .int .i64 0, .int .i64 0, .int .i64 0, .int .i64 0] 84) := ⟨_, rfl⟩
     have hg1 : W8.heap[w8.heap.size]? = some (.cells #[.string ⟨#[]⟩, .int .i64 0, .int .i64 0, .int .i64 0, .int .i64 0] 84 (0, 0)) := by rw [hW8]; exact heap_alloc_new _ _
     have Hb9 := hI (show Below W0.heap.size W0 W8 by rw [hW8]; exact Hb8.out.alloc (by omega) _)
     rw [<- hW8]
     clear hW8
     have k0 := W7.bc (j := 0) hg1 rfl
     have k1 := W7.bc (j := 1) hg1 rfl
     have k2 := W7.bc (j := 2) hg1 rfl
     have k3 := W7.bc (j := 3) hg1 rfl
     have k4 := W7.bc (j := 4) hg1 rfl
     have hsB := Hb9.out.size
     clear hg1
     go_wp2_with (go_at_call 16; refine (HDg.out _).mono ?_; rintro e wC ⟨rfl, hbC⟩; have HbC := hI (Hb9.out.trans (hbC.mono hsB)); clear hbC)
     go_ret
     exact ⟨rfl, HU0.out _ HbC.out⟩
    have hS := next_safe (by rw [<- Hn.out]; exact hl128) h0
    rw [h0] at HN1
    obtain ⟨xi, hxi⟩ : ∃ x, (nextR t l who p m ready).2.tin = x := ⟨_, rfl⟩
    obtain ⟨xl, hxl⟩ : ∃ x, (nextR t l who p m ready).2.leave = x := ⟨_, rfl⟩
    obtain ⟨xo, hxo⟩ : ∃ x, (nextR t l who p m ready).2.out = x := ⟨_, rfl⟩
    have hx : (nextR t l who p m ready).2 = ⟨who, p, xi, xl, xo⟩ := by
     have h1 := hS.nm
     have h2 := hS.pr
     generalize (nextR t l who p m ready).2 = z at h1 h2 hxi hxl hxo ⊢
     obtain ⟨z1, z2, z3, z4, z5⟩ := z
     dsimp only at h1 h2 hxi hxl hxo
     rw [h1, h2, hxi, hxl, hxo]
    rw [hx] at HN1 hS
    have HS := hI hS
    unfold diveV at HN1
    dsimp only at HN1
    clear hxi hxl hxo hx hS h0
    go_upto_region 13 with (go_at_call 49; refine HN1.out.mono ?_; rintro e w8 ⟨rfl, hb8⟩; have hs8 := hb8.size; have Hb8 := hI (Hb4.out.trans (hb8.mono (by omega))); clear hb8)
    clear q0 q1 q2 HN1
    obtain ⟨W8, hW8⟩ : ∃ W8, W8 = w8.alloc (.cells #[.string who, .int .i64 p, .int .i64 xi, .int .i64 xl, .int .i64 xo] 84) := ⟨_, rfl⟩
    have hs9 : w8.heap.size + 1 <= W8.heap.size := by rw [hW8]; simp
    have hgd : W8.heap[w8.heap.size]? = some (.cells #[.string who, .int .i64 p, .int .i64 xi, .int .i64 xl, .int .i64 xo] 84 (0, 0)) := by rw [hW8]; exact heap_alloc_new _ _
    have Hb9 := hI (show Below W0.heap.size W0 W8 by rw [hW8]; exact Hb8.out.alloc (by omega) _)
    have Hgd := hI hgd
    rw [<- hW8]
    clear hW8
    have y0 := later_cell (bc (j := 0) hgd rfl) (by omega)
    have y1 := later_cell (bc (j := 1) hgd rfl) (by omega)
    have y2 := later_cell (bc (j := 2) hgd rfl) (by omega)
    have y3 := later_cell (bc (j := 3) hgd rfl) (by omega)
    have y4 := later_cell (bc (j := 4) hgd rfl) (by omega)
    clear hgd
    have HSrc := hI (show ∀ X : World, Below W8.heap.size W8 X -> Src X 5 A n (l.flatMap encDive) from fun X hX => by
     cases A with
     | none =>
      have h1 := (Hz.out rfl).1
      have h2 : l = [] := List.length_eq_zero_iff.1 (by rw [<- Hn.out]; exact h1)
      exact .inl ⟨rfl, h1, by rw [h2]; rfl⟩
     | some ad => exact src_of_sl ((HT.out X (Hb9.out.trans (hX.mono (by have := Hb9.out.size; omega)))).2) Hn.out)
    have Hone := hI (show ∀ u ∈ l.flatMap encDive, u.oneCell' = true from fun u hu => by
     obtain ⟨x, _, hx⟩ := List.mem_flatMap.1 hu
     simp only [encDive, List.mem_cons, List.not_mem_nil, or_false] at hx
     rcases hx with rfl | rfl | rfl | rfl | rfl <;> rfl)
    go_upto_region 15 with fail
    obtain ⟨C, hC⟩ : ∃ C : (Nat -> Bool) -> (Nat -> Value) -> World -> Prop, C = fun L V w' => ∃ e : Later W8, w' = e.w /\ (L 5 = true -> L 2 = true /\ L 4 = true) /\ (L 0 = true -> L 2 = false -> Hid (∃ g, V 0 = .slice (some ⟨g, 0, none⟩) 0 0 /\ e.w.ownsRow W8.heap.size 84 5 (V 0) 0 [])) /\ (L 1 = true -> V 1 = .slice A n c) /\ (L 2 = true -> L 5 = false -> Hid (e.w.ownsRow W8.heap.size 84 5 (V 2) n (l.flatMap encDive))) /\ (L 3 = true -> V 3 = .agg #[.string who, .int .i64 p, .int .i64 xi, .int .i64 xl, .int .i64 xo]) /\ (L 4 = true -> L 5 = false -> Hid (∃ gb, V 4 = .slice (some ⟨gb, 0, none⟩) 1 1 /\ e.w.heap[gb]? = some (.cells #[.string who, .int .i64 p, .int .i64 xi, .int .i64 xl, .int .i64 xo] 84 (0, 0)))) /\ (L 5 = true -> Hid (e.w.ownsRow W8.heap.size 84 5 (V 5) (n + 1) (l.flatMap encDive ++ (#[.string who, .int .i64 p, .int .i64 xi, .int .i64 xl, .int .i64 xo] : Array Value).toList))) /\ (L 6 = true -> L 5 = true /\ V 6 = V 5) := ⟨_, rfl⟩
    have HC := hI hC
    clear hC
    refine wp_region_opsA [109, 110, 111, 112, 113, 114, 20] C (by kernel_rfl) (by kernel_rfl) (by decide) (by kernel_rfl) (by kernel_rfl) ?_ ?_ ?_
    ·rw [HC.out]
     exact ⟨⟨_, (Below.refl W8.heap.size W8).drew⟩, rfl, nff, nff, nff, nff, nff, nff, nff, nff⟩
    ·rintro L V w' ii o AA hii ho hLi haf hInv hAA hFF
     rw [HC.out] at hInv
     obtain ⟨e, rfl, p1, h0, h1, h2, h3, h4, h5, h6⟩ := hInv
     have hse : W8.heap.size <= e.w.heap.size := e.b.size
     rcases ii with _ | _ | _ | _ | _ | _ | _ | ii
     case succ.succ.succ.succ.succ.succ.succ => (simp at hii; try omega)
     all_goals (simp only [List.getElem?_cons_zero, List.getElem?_cons_succ, Option.some.injEq] at ho; subst ho)
     all_goals clear hii
     ·go_wp2
      rw [HC.out]
      exact ⟨_, rfl, ⟨_, e.b.alloc hse (.cells #[] 84)⟩, rfl, p1, fun _ _ => hI ⟨_, rfl, World.ownsRow_lit (base := W8.heap.size) (e := 84) (size := 5) e.w #[] 0 hse (by unfold maxLen; omega) rfl⟩, h1, fun y y2 => hI ((h2 y y2).out.alloc _), h3, fun y y2 => (by obtain ⟨gb, p1, p2⟩ := (h4 y y2).out; exact hI ⟨gb, p1, (Below.heap_alloc _ _ _ (blk_lt p2)).trans p2⟩), fun y => hI ((h5 y).out.alloc _), h6⟩
     ·have f1 : AA.tmps[1]?.getD undef = .slice A n c := hFF.out 1 (by decide)
      go_wp2
      rw [HC.out]
      exact ⟨_, rfl, e, rfl, p1, h0, fun _ => rfl, h2, h3, h4, h5, h6⟩
     ·obtain ⟨g, hv0, ho0⟩ := (h0 (haf ⟨0, .data⟩ (by simp) rfl) hLi).out
      have a0 := hAA.out 0 109 rfl
      have a1 := (hAA.out 1 110 rfl).trans (h1 (haf ⟨1, .data⟩ (by simp) rfl))
      have HS := hI (HSrc.out e.w e.b)
      have Hp1 := hI (show L 5 = true -> False from fun y => by rw [(p1 y).1] at hLi; cases hLi)
      have HK4 := hI (fun (X : World) (hX : e.w.grownBy X (V 0).ownBlock) (y : L 4 = true) (y2 : L 5 = false) => show Hid (∃ gb, V 4 = .slice (some ⟨gb, 0, none⟩) 1 1 /\ X.heap[gb]? = some (.cells #[.string who, .int .i64 p, .int .i64 xi, .int .i64 xl, .int .i64 xo] 84 (0, 0))) from by
       obtain ⟨gb, p1, p2⟩ := (h4 y y2).out
       rw [hv0] at ho0 hX
       exact hI ⟨gb, p1, (hX.block gb (blk_lt p2) (own_cap0 ho0 p2 (by simp))).trans p2⟩)
      clear hv0
      refine wpList_appendL rfl _ _ 75 rfl W8.heap.size 84 _ 5 48 elemDi _ _ _ (by rw [<- a0]; simp [Act.eval]) ho0 _ n _ _ (by rw [<- a1]; simp [Act.eval]) HS.out Hone.out (by omega) hse ?_
      intro v6 w6 hown6 hb6 hsz6 hg6 hblk6
      have HF6 := hI (And.intro (show w6.ownsRow W8.heap.size 84 5 v6 n (l.flatMap encDive) by simpa using hown6) (And.intro hb6 hg6))
      clear hown6 hb6 hsz6 hg6 hblk6 ho0
      go_wp2
      rw [HC.out]
      exact ⟨_, rfl, ⟨_, e.b.trans HF6.out.2.1⟩, rfl, fun z => ⟨rfl, (p1 z).2⟩, fun _ y => absurd y (by simp), h1, fun _ _ => hI HF6.out.1, h3, fun y y2 => HK4.out _ HF6.out.2.2 y y2, fun y => (Hp1.out y).elim, h6⟩
     ·have f20 : AA.tmps[19]?.getD undef = .pointer (some ⟨w8.heap.size, 0, none⟩) := hFF.out 19 (by decide)
      go_wp2
      rw [HC.out]
      exact ⟨_, rfl, e, rfl, p1, h0, h1, h2, fun _ => rfl, h4, h5, h6⟩
     ·have a3 := (hAA.out 3 112 rfl).trans (h3 (haf ⟨3, .data⟩ (by simp) rfl))
      go_wp2
      rw [HC.out]
      exact ⟨_, rfl, ⟨_, e.b.alloc hse (.cells (#[.string who, .int .i64 p, .int .i64 xi, .int .i64 xl, .int .i64 xo] : Array Value) 84)⟩, rfl, fun z => ⟨(p1 z).1, rfl⟩, fun y y2 => (by obtain ⟨g, p1, p2⟩ := (h0 y y2).out; exact hI ⟨g, p1, p2.alloc _⟩), h1, fun y y2 => hI ((h2 y y2).out.alloc _), h3, fun _ _ => hI ⟨_, rfl, heap_alloc_new _ _⟩, fun y => hI ((h5 y).out.alloc _), h6⟩
     ·have hL2 := haf ⟨2, .data⟩ (by simp) rfl
      have hL4 := haf ⟨4, .data⟩ (by simp) rfl
      have ho2 := (h2 hL2 hLi).out
      obtain ⟨gb, hgb, hnb⟩ := (h4 hL4 hLi).out
      have a2 := hAA.out 2 111 rfl
      have a4 := (hAA.out 4 113 rfl).trans hgb
      have HS := hI (blk_src hnb rfl)
      have Hx := hI (show L 2 = false -> False from fun y => by rw [y] at hL2; cases hL2)
      clear hgb
      refine wpList_appendL rfl _ _ 75 rfl W8.heap.size 84 _ 5 48 elemDi _ _ _ (by rw [<- a2]; simp [Act.eval]) ho2 _ 1 _ _ (by rw [<- a4]; simp [Act.eval]) HS.out (by simp [Value.oneCell']) (by omega) hse ?_
      intro v6 w6 hown6 hb6 hsz6 hg6 hblk6
      have HF6 := hI (And.intro hown6 hb6)
      have HLL := hI (And.intro hL2 hL4)
      have HL6 := hI (show L 6 = true -> False from fun z => by rw [(h6 z).1] at hLi; cases hLi)
      clear hown6 hb6 hsz6 hg6 hblk6 ho2 hL2 hL4
      go_wp2
      rw [HC.out]
      exact ⟨_, rfl, ⟨_, e.b.trans HF6.out.2⟩, rfl, fun _ => HLL.out, fun y y2 => (Hx.out y2).elim, h1, fun _ y => absurd y (by simp), h3, fun _ y => absurd y (by simp), fun _ => hI HF6.out.1, fun z => (HL6.out z).elim⟩
     ·have a5 := hAA.out 5 114 rfl
      have HL5 := hI (haf ⟨5, .data⟩ (by simp) rfl)
      go_wp2
      rw [HC.out]
      exact ⟨_, rfl, e, rfl, p1, h0, h1, h2, h3, h4, h5, fun _ => ⟨HL5.out, rfl⟩⟩
    ·rintro L V w' hL hInv
     rw [HC.out] at hInv
     obtain ⟨e, rfl, p1, h0, h1, h2, h3, h4, h5, h6⟩ := hInv
     have ho4 := (h5 (hL 5 (by simp))).out
     have h65 := (h6 (hL 6 (by simp))).2
     obtain ⟨A2, c2, hv4, hc21, hc22⟩ := own_cap' ho4
     simp only [putAll]
     rw [h65, hv4]
     rw [hv4] at ho4
     go_frame
     clear p1 h0 h1 h2 h3 h4 h5 h6 h65 hv4 y0 y1 y2 y3 y4 hL
     have he8 := e.b
     have HE8 := hI he8
     have HBe := hI (Hb9.out.trans (he8.mono (by have := Hb9.out.size; omega)))
     have hse2 := he8.size
     have hsW := Hb9.out.size
     have hlen : (l ++ [(⟨who, p, xi, xl, xo⟩ : Dive)]).length = n + 1 := by rw [List.length_append, <- Hn.out]; rfl
     have Hlen := hI hlen
     have Ho4 := hI ho4
     have HSl2 := hI (show Sl e.w e.w.heap.size 5 encDive A2 (l ++ [(⟨who, p, xi, xl, xo⟩ : Dive)]) from sl_own2 lenDi (base := W8.heap.size) (e := 84) (c := c2) (by rw [hlen, List.flatMap_append, List.flatMap_cons, List.flatMap_nil, List.append_nil]; exact ho4))
     have HFr := hI (refFaults_any t (l ++ [(⟨who, p, xi, xl, xo⟩ : Dive)]) A2 (n + 1) c2 e.w.heap.size e.w ((HT.out e.w HBe.out).1.mono (by omega)) (by have := Hrn.out; omega) hlen.symm HSl2.out (Nat.le_refl _) (fun d hd => by
      rcases List.mem_append.1 hd with h9 | h9
      ·exact Hw.out d h9
      ·rw [List.mem_singleton.1 h9]; exact hwho))
     unfold tabV at HFr
     rw [Hrn.out, HS.out.er] at HFr
     clear ho4 he8 hlen HSl2
     generalize e.w = we at HE8 HBe hse2 Ho4 HFr
     have q0 := W7.bc (j := 0) (HX00.out we HBe.out) rfl
     have q1 := W7.bc (j := 1) (HX00.out we HBe.out) rfl
     have q2 := W7.bc (j := 2) (HX00.out we HBe.out) rfl
     go_upto_region 17 with (go_at_call 47; refine HFr.out.mono ?_; rintro e w9 ⟨fv, rfl, hof, hb9⟩; have hs9b := hb9.size; have Hof := hI hof; have H9 := hI hb9; clear hb9 hof)
     clear q0 q1 q2 HFr
     have HB9 := hI (HBe.out.trans (H9.out.mono (by omega)))
     have HG9 := hI (show w9.heap[w8.heap.size]? = some (.cells #[.string who, .int .i64 p, .int .i64 xi, .int .i64 xl, .int .i64 xo] 84 (0, 0)) from ((HE8.out.trans (H9.out.mono (by omega))).block _ (blk_lt Hgd.out)).trans Hgd.out)
     have Ho9 := hI (own_below Ho4.out H9.out)
     clear Ho4 Hgd
     obtain ⟨z1, z2, z3, z4, z5, z6⟩ : 0 <= xi /\ xi <= 100000 /\ 0 <= xl /\ xl <= 100000 /\ 0 <= xo /\ xo <= 100000 := HS.out.tm
     have hss : (who.toList != who.toList) = false := by simp
     have hpp : (p != p) = false := by simp
     have hmi : (xl - xi != m) = false := by rw [show xl - xi = m from HS.out.mi]; simp
     have hrd : decide (xi < ready) = false := decide_eq_false (by have h : ready <= xi := HS.out.rd; omega)
     have k0 := W7.bc (j := 0) HG9.out rfl
     have k1 := W7.bc (j := 1) HG9.out rfl
     have k2 := W7.bc (j := 2) HG9.out rfl
     have k3 := W7.bc (j := 3) HG9.out rfl
     have k4 := W7.bc (j := 4) HG9.out rfl
     go_upto_region 20 with fail
     clear hss hpp hmi hrd
     obtain ⟨fl, hfl⟩ : ∃ x, faultsV t (l ++ [(⟨who, p, xi, xl, xo⟩ : Dive)]) = x := ⟨_, rfl⟩
     rw [hfl] at Hof
     have Hfa := hI (show fl.all noFault = true by rw [<- hfl]; exact HS.out.ok)
     have Hfn := hI (show fl.length = n + 1 by rw [<- hfl, HS.out.ln, <- Hn.out])
     clear hfl
     obtain ⟨FA, fc, rfl, hfc1, hfc2⟩ := own_cap' Hof.out
     have HSf := hI (show Sl w9 w9.heap.size 1 encU8 FA fl from sl_own2 (k := 1) (fun _ => rfl) (base := we.heap.size) (e := 90) (c := fc) (by rw [flat_u8]; exact Hof.out))
     rw [Hfn.out]
     rw [Hfn.out] at hfc1
     clear Hof
     go_loopw [22] (fun v22 wr => ∃ i : Nat, i <= n + 1 /\ v22 = .int .i64 i /\ wr = w9) (fun v22 _ => n + 1 - (intOf v22).toNat)
     case atStart => exact ⟨0, by omega, rfl, rfl⟩
     case round =>
      obtain ⟨i2, hi3, rfl, hwr⟩ := hrel
      have hwr2 := hwr.symm
      subst hwr2
      by_cases hlt2 : i2 < n + 1
      ·have hil : i2 < fl.length := by have := Hfn.out; omega
       obtain ⟨b, off, hbe, hbB, hcells⟩ := HSf.out (by omega)
       subst hbe
       have c0 : w9.cell? ⟨b, off + i2, none⟩ = some (.int .u8 fl[i2]) := by have h := hcells i2 hil 0 _ rfl; rwa [Nat.mul_one, Nat.add_zero] at h
       have hx : (fl[i2] == 0) = true := List.all_eq_true.1 Hfa.out _ (List.getElem_mem hil)
       generalize fl[i2] = x at c0 hx
       have hx' : (x != 0) = false := by simp [bne, hx]
       clear hcells
       go_wp2
       go_roundw
       case rel => exact ⟨i2 + 1, by omega, by go_num, by first | rfl | trivial⟩
       case measure => simp [intOf]; omega
      ·go_upto_region 24 with fail
       clear HSf Hfa Hfn
       go_cut [181] (fun v181 wx => ∃ b24, v181 = .bool b24 /\ Hid (b24 = true -> ready < xi /\ (0 < n -> (l.getD (n - 1) default).tin < xi)) /\ Hid (Below w9.heap.size w9 wx))
       case first =>
        have y2 := later_cell (bc (j := 2) HG9.out rfl) (blk_lt HG9.out)
        clear k0 k1 k2 k3 k4
        cases e1 : decide (xi > ready)
        ·skip
         refine wp_region_later (by kernel_rfl) (by kernel_rfl) ?_
         repeat (any_goals (first | go_big_quiet_step ((fail)) | quiet_step ((fail))))
         refine wpQuiet_nil ?_
         rintro w' ⟨e24, rfl⟩
         go_wp2
         go_meet
         exact ⟨false, rfl, hI (fun h => absurd h (by decide)), hI e24.b⟩
        ·have hgt := of_decide_eq_true e1
         by_cases hn0 : 0 < n
         ·have hnz : ((n : Int) == 0) = false := beq_false_of_ne (by omega)
          obtain ⟨b, off, hbe, hbB, hcells⟩ := (HT.out w9 HB9.out).2 (by have := Hn.out; omega)
          subst hbe
          have c2 : w9.cell? ⟨b, off + (n - 1) * 5 + 2, none⟩ = some (.int .i64 (l.getD (n - 1) default).tin) := by
           rw [getD_lt (by have := Hn.out; omega)]
           exact hcells (n - 1) (by have := Hn.out; omega) 2 _ rfl
          obtain ⟨lx, hlx⟩ : ∃ x, (l.getD (n - 1) default).tin = x := ⟨_, rfl⟩
          rw [hlx] at c2
          have Hlx := hI hlx
          clear hlx
          have y9 := later_cell c2 (by have := HB9.out.size; omega)
          clear hcells
          cases e2 : decide (xi > lx)
          ·skip
           refine wp_region_later (by kernel_rfl) (by kernel_rfl) ?_
           repeat (any_goals (first | go_big_quiet_step ((fail)) | quiet_step ((fail))))
           refine wpQuiet_nil ?_
           rintro w' ⟨e24, rfl⟩
           go_wp2
           go_meet
           exact ⟨false, rfl, hI (fun h => absurd h (by decide)), hI e24.b⟩
          ·have hg2 := of_decide_eq_true e2
           have Hk := hI (show ready < xi /\ (0 < n -> (l.getD (n - 1) default).tin < xi) from ⟨hgt, fun _ => by rw [Hlx.out]; exact hg2⟩)
           refine wp_region_later (by kernel_rfl) (by kernel_rfl) ?_
           repeat (any_goals (first | go_big_quiet_step ((fail)) | quiet_step ((fail))))
           refine wpQuiet_nil ?_
           rintro w' ⟨e24, rfl⟩
           go_wp2
           go_meet
           exact ⟨true, rfl, hI (fun _ => Hk.out), hI e24.b⟩
         ·have hnz : ((n : Int) == 0) = true := by rw [show n = 0 by omega]; rfl
          have Hk := hI (show ready < xi /\ (0 < n -> (l.getD (n - 1) default).tin < xi) from ⟨hgt, fun h => absurd h hn0⟩)
          refine wp_region_later (by kernel_rfl) (by kernel_rfl) ?_
          repeat (any_goals (first | go_big_quiet_step ((fail)) | quiet_step ((fail))))
          refine wpQuiet_nil ?_
          rintro w' ⟨e24, rfl⟩
          go_wp2
          go_meet
          exact ⟨true, rfl, hI (fun _ => Hk.out), hI e24.b⟩
       case rest =>
        obtain ⟨b24, rfl, Hk, HBx⟩ := hcut
        have hsx := HBx.out.size
        have HB10 := hI (HB9.out.trans (HBx.out.mono (by omega)))
        cases b24
        ·have hs10 := HB10.out.size
         go_wp2_with (go_at_call 16; refine (HDg.out _).mono ?_; rintro e wC ⟨rfl, hbC⟩; have HbC := hI (HB10.out.trans (hbC.mono hs10)); clear hbC)
         go_ret
         exact ⟨rfl, HU0.out _ HbC.out⟩
        ·obtain ⟨bE, bL, bN⟩ := HS.out.bad (Hk.out rfl).1 (fun h => by rw [<- Hn.out] at h ⊢; exact (Hk.out rfl).2 h)
         have HbE := hI (show faultsErr t (l ++ [(⟨who, p, xi - 1, xl - 1, xo - 1⟩ : Dive)]) = 0 from bE)
         have HbL := hI (show (faultsV t (l ++ [(⟨who, p, xi - 1, xl - 1, xo - 1⟩ : Dive)])).length = l.length + 1 from bL)
         have HbN := hI (show noFault ((faultsV t (l ++ [(⟨who, p, xi - 1, xl - 1, xo - 1⟩ : Dive)])).getD l.length 0) = false from bN)
         have Hox := hI (own_below Ho9.out HBx.out)
         have HGx := hI ((HBx.out.block _ (blk_lt HG9.out)).trans HG9.out)
         clear bE bL bN Hk
         obtain ⟨g, rfl, hgb, hgx, u0, u1, u2, u3, u4, f0, f1, f2, f3, f4, HP⟩ := row_last (⟨who, p, xi, xl, xo⟩ : Dive) Hn.out Hox.out
         have k0 := W7.bc (j := 0) HGx.out rfl
         have k1 := W7.bc (j := 1) HGx.out rfl
         have k2 := W7.bc (j := 2) HGx.out rfl
         have k3 := W7.bc (j := 3) HGx.out rfl
         have k4 := W7.bc (j := 4) HGx.out rfl
         go_upto_region 26 with fail
         obtain ⟨WP, hWP⟩ : ∃ W, put5 wc g (n * 5) (⟨who, p, xi - 1, xl - 1, xo - 1⟩ : Dive) = W := ⟨_, rfl⟩
         have HBP := hI (show Below W0.heap.size W0 WP by rw [<- hWP]; exact HB10.out.trans (put5_below (by omega)))
         have HSP := hI (show Sl WP WP.heap.size 5 encDive (some ⟨g, 0, none⟩) (l ++ [(⟨who, p, xi - 1, xl - 1, xo - 1⟩ : Dive)]) by rw [<- hWP]; exact HP.out _)
         unfold put5 at hWP
         dsimp only at hWP
         rw [hWP]
         clear hWP k0 k1 k2 k3 k4 u0 u1 u2 u3 u4 f0 f1 f2 f3 f4 HP
         have hsP := HBP.out.size
         have HFa := hI (Faults_any t (l ++ [(⟨who, p, xi - 1, xl - 1, xo - 1⟩ : Dive)]) (some ⟨g, 0, none⟩) (n + 1) c2 WP.heap.size WP ((HT.out WP HBP.out).1.mono (by omega)) (by have := Hrn.out; omega) (by rw [List.length_append, <- Hn.out]; rfl) HSP.out (Nat.le_refl _) hc21 hc22 (fun d hd => by
          rcases List.mem_append.1 hd with h9 | h9
          ·exact Hw.out d h9
          ·rw [List.mem_singleton.1 h9]; exact hwho))
         unfold tabV at HFa
         rw [Hrn.out, HbE.out] at HFa
         have q0 := W7.bc (j := 0) (HX00.out WP HBP.out) rfl
         have q1 := W7.bc (j := 1) (HX00.out WP HBP.out) rfl
         have q2 := W7.bc (j := 2) (HX00.out WP HBP.out) rfl
         go_upto_region 27 with (go_at_call 46; refine HFa.out.mono ?_; rintro e wF ⟨gv, rfl, hog, hbF⟩; have hsF := hbF.size; have Hog := hI hog; have HBF := hI (HBP.out.trans (hbF.mono (by omega))); clear hbF hog)
         clear q0 q1 q2 HFa
         obtain ⟨gl, hgl⟩ : ∃ x, faultsV t (l ++ [(⟨who, p, xi - 1, xl - 1, xo - 1⟩ : Dive)]) = x := ⟨_, rfl⟩
         rw [hgl] at Hog HbL HbN
         have Hgn := hI (show gl.length = n + 1 by rw [HbL.out, <- Hn.out])
         obtain ⟨GA, gc, rfl, hgc1, hgc2⟩ := own_cap' Hog.out
         have HSg := hI (show Sl wF wF.heap.size 1 encU8 GA gl from sl_own2 (k := 1) (fun _ => rfl) (base := WP.heap.size) (e := 90) (c := gc) (by rw [flat_u8]; exact Hog.out))
         have hil : n < gl.length := by have := Hgn.out; omega
         obtain ⟨b, off, hbe, hbB, hcells⟩ := HSg.out (by omega)
         subst hbe
         have c0 : wF.cell? ⟨b, off + n, none⟩ = some (.int .u8 gl[n]) := by have h := hcells n hil 0 _ rfl; rwa [Nat.mul_one, Nat.add_zero] at h
         have hx : (gl[n] == 0) = false := by
          have h1 := HbN.out
          rw [<- Hn.out, List.getD_eq_getElem?_getD, List.getElem?_eq_getElem hil] at h1
          exact h1
         generalize gl[n] = x at c0 hx
         rw [Hgn.out]
         rw [Hgn.out] at hgc1
         have hle9 : decide (((n + 1 : Nat) : Int) <= (n : Int)) = false := decide_eq_false (by omega)
         clear hcells hil hgl
         have hsF2 := HBF.out.size
         go_wp2_with (go_at_call 16; refine (HDg.out _).mono ?_; rintro e wC ⟨rfl, hbC⟩; have HbC := hI (HBF.out.trans (hbC.mono hsF2)); clear hbC)
         go_ret
         exact ⟨rfl, HU0.out _ HbC.out⟩
end Go.Proofs.YtjpgnfekbojcaaaGreat
