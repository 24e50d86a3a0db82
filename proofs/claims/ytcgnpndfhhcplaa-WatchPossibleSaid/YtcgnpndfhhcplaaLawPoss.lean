/-
  The law WatchPossible answers true. Conditions: how its arguments lie in memory.
-/
import Derived.Test.YtcgnpndfhhcplaaRSusEq
import Derived.Test.YtcgnpndfhhcplaaRSmall
import Derived.Test.YtcgnpndfhhcplaaWakes
import Derived.Test.YtcgnpndfhhcplaaMargin
namespace Go.Proofs.Ytcgnpndfhhcplaa
open Go.RowKit W7
attribute [local go_sem] Oper.semAt_some
theorem much_80 {q : Quantity} {l : List Reading} (h : muchB q l = false) : l.length ≤ 1000 := by
  simp only [muchB, Bool.or_eq_false_iff, Bool.and_eq_false_iff, decide_eq_false_iff_not] at h
  omega
theorem susGo_len (q : Quantity) (l : List Reading) : ∀ k m, (susGo q l k m).1.length ≤ q.gs.length ∧ (susGo q l k m).2.length ≤ q.gs.length := by
  intro k
  induction k with
  | zero => intro m; simp [susGo]
  | succ k ih =>
    intro m
    unfold susGo
    split
    · exact ih _
    · exact ⟨selN_len _ _, selN_len _ _⟩
theorem susL_len (q : Quantity) (l : List Reading) : (susL q l).1.length ≤ 1000000 ∧ (susL q l).2.length ≤ 1000000 := by
  unfold susL
  split
  · rename_i h
    have hg := (good_of h).1.gl
    have := susGo_len q l (q.bad.toNat + 1) 0
    omega
  · simp
theorem map_int1 (l : List Int) : l.map (Value.int .i64) = l.flatMap encInt1 := by
  induction l with
  | nil => rfl
  | cons x l ih => simp [encInt1, ih]
set_option maxHeartbeats 1000000 in
set_option maxRecDepth 100000 in
theorem LawPossible_any (q : Quantity) (l : List Reading) (t period : Int) (A : Option Addr) (c : Nat) (w : World) (hq : QIn w w.heap.size q) (hA : Sl w w.heap.size 3 encR A l) (hlc : l.length ≤ c) (hc : c ≤ 9223372036854775807) :
    Calls Try.prog 3 #[.agg #[.string q.name, .int .i64 q.lo, .int .i64 q.hi, .int .i64 q.rise, .int .i64 q.fall, .int .i64 q.bad, .slice q.gA q.gs.length q.gc], .slice A l.length c, .int .i64 t, .int .i64 period] w fun e w' => e = .returned (.bool true) ∧ Below w.heap.size w w' := by
  obtain ⟨cs, hcs⟩ : ∃ cs : Array Value, cs = #[.string q.name, .int .i64 q.lo, .int .i64 q.hi, .int .i64 q.rise, .int .i64 q.fall, .int .i64 q.bad, .slice q.gA q.gs.length q.gc] := ⟨_, rfl⟩
  obtain ⟨W0, hW0⟩ : ∃ W0, W0 = w.alloc (.cells cs 26) := ⟨_, rfl⟩
  have HB0 := Lib.hid (show Below w.heap.size w W0 by rw [hW0]; exact (Below.refl w.heap.size w).alloc (Nat.le_refl _) _)
  have Hs0 := Lib.hid (show W0.heap.size = w.heap.size + 1 by rw [hW0]; simp)
  have hs0 : w.heap.size < W0.heap.size := by have := Hs0.out; omega
  have Hc0 := Lib.hid (show ∀ j v, cs[j]? = some v → ∀ X, Below W0.heap.size W0 X → X.cell? ⟨w.heap.size, j, none⟩ = some v from fun j v hv X hX => (hX.cell (p := ⟨w.heap.size, j, none⟩) hs0).trans (by rw [hW0]; exact alloc_cell hv))
  have Hq := Lib.hid (fun (X : World) (hX : Below W0.heap.size W0 X) => hq.below (HB0.out.trans (hX.mono (Nat.le_of_lt hs0))))
  have HA := Lib.hid (fun (X : World) (hX : Below W0.heap.size W0 X) => hA.below (HB0.out.trans (hX.mono (Nat.le_of_lt hs0))))
  have HU := Lib.hid (fun (X : World) (hX : Below W0.heap.size W0 X) => show Below w.heap.size w X from HB0.out.trans (hX.mono (Nat.le_of_lt hs0)))
  have hql := hq.len
  have HM := Lib.hid (much_any q l A c W0 hq.nm hq.len (by omega))
  rw [hcs] at Hc0 hW0
  have HW0 := Lib.hid hW0
  clear hcs hW0 cs hq hA
  have HBx := Lib.hid (fun (X : World) (hX : Below W0.heap.size W0 X) => show X.cell? ⟨w.heap.size, 0, none⟩ = some (.string q.name) ∧ X.cell? ⟨w.heap.size, 1, none⟩ = some (.int .i64 q.lo) ∧ X.cell? ⟨w.heap.size, 2, none⟩ = some (.int .i64 q.hi) ∧ X.cell? ⟨w.heap.size, 3, none⟩ = some (.int .i64 q.rise) ∧ X.cell? ⟨w.heap.size, 4, none⟩ = some (.int .i64 q.fall) ∧ X.cell? ⟨w.heap.size, 5, none⟩ = some (.int .i64 q.bad) ∧ X.cell? ⟨w.heap.size, 6, none⟩ = some (.slice q.gA q.gs.length q.gc) from ⟨Hc0.out 0 _ rfl X hX, Hc0.out 1 _ rfl X hX, Hc0.out 2 _ rfl X hX, Hc0.out 3 _ rfl X hX, Hc0.out 4 _ rfl X hX, Hc0.out 5 _ rfl X hX, Hc0.out 6 _ rfl X hX⟩)
  obtain ⟨c0, c1, c2, c3, c4, c5, c6⟩ := HBx.out W0 (Below.refl _ _)
  go_enter Try.func3, Try.ntmps3
  go_wp2_with (go_at_call 34; fail)
  rw [← HW0.out]
  refine HM.out.mono ?_
  rintro r w1 ⟨rfl, hb1⟩
  have HB1 := Lib.hid hb1
  have hs1 := hb1.size
  clear hb1 HM c0 c1 c2 c3 c4 c5 c6
  obtain ⟨b0, b1, b2, b3, b4, b5, b6⟩ := HBx.out w1 HB1.out
  cases hm : muchB q l
  rotate_left
  · go_wp2_with (go_at_call 10; refine (wakes_any _).mono ?_; rintro r w2 ⟨rfl, hb2⟩)
    go_ret
    exact ⟨rfl, (HU.out w1 HB1.out).trans (hb2.mono (by omega))⟩
  have Hm := Lib.hid (much_false hm)
  have Hl := Lib.hid (much_80 hm)
  have HsL := Lib.hid (susL_len q l)
  clear hm
  have HP1 := Lib.hid (Possible_any q l t A c w.heap.size w1 (Hq.out w1 HB1.out) (HA.out w1 HB1.out) (by omega) hlc hc Hm.out)
  go_wp2_with (go_at_call 34; fail)
  refine HP1.out.mono ?_
  rintro r w2 ⟨va, spa, rfl, hera, hva, hla, hba, howna, hb2⟩
  have hspa := possR_eq hera hva
  have HB2 := Lib.hid (HB1.out.trans (hb2.mono hs1))
  have hs2 := hb2.size
  obtain ⟨Aa, ca, rfl, hca1, hca2⟩ := own_cap howna
  have Howna := Lib.hid howna
  have Hspa := Lib.hid hspa
  clear hb2 HP1 hera hva hba b0 b1 b2 b3 b4 b5 b6 howna hspa
  obtain ⟨b0, b1, b2, b3, b4, b5, b6⟩ := HBx.out w2 HB2.out
  have HP2 := Lib.hid (refPossible_any q l t A c w.heap.size w2 (Hq.out w2 HB2.out) (HA.out w2 HB2.out) (by omega) Hl.out Hm.out)
  go_wp2_with (go_at_call 34; fail)
  refine HP2.out.mono ?_
  rintro r w3 ⟨vb, rfl, hownb, hb3⟩
  rw [← Hspa.out] at hownb
  have HB3 := Lib.hid (HB2.out.trans (hb3.mono (by omega)))
  have hs3 := hb3.size
  obtain ⟨Ab, cb, rfl, hcb1, hcb2⟩ := own_cap hownb
  have HE1 := Lib.hid (spansEq_any spa Aa Ab ca cb w3.heap.size spa.length rfl w3 (sl_own (enc := encSp) (fun _ => rfl) (own_below Howna.out hb3)) (sl_own (enc := encSp) (fun _ => rfl) hownb) (Nat.le_refl _) (by omega))
  clear hb3 HP2 b0 b1 b2 b3 b4 b5 b6 hownb Howna Hspa
  obtain ⟨b0, b1, b2, b3, b4, b5, b6⟩ := HBx.out w3 HB3.out
  generalize possE q l t = pe
  have hpe : (pe != pe) = false := by simp
  go_wp2_with (go_at_call 34; fail)
  refine HE1.out.mono ?_
  rintro r w4 ⟨rfl, hb4⟩
  have HB4 := Lib.hid (HB3.out.trans (hb4.mono (by omega)))
  have hs4 := hb4.size
  clear hb4 HE1 b0 b1 b2 b3 b4 b5 b6
  obtain ⟨b0, b1, b2, b3, b4, b5, b6⟩ := HBx.out w4 HB4.out
  have HP3 := Lib.hid (Suspects_any q l A c w.heap.size w4 (Hq.out w4 HB4.out) (HA.out w4 HB4.out) (by omega) hlc hc Hm.out)
  go_wp2_with (go_at_call 34; fail)
  refine HP3.out.mono ?_
  rintro r w5 ⟨v1, v2, rfl, ho1, ho2, hb5⟩
  have HB5 := Lib.hid (HB4.out.trans (hb5.mono (by omega)))
  have hs5 := hb5.size
  rw [map_int1] at ho1 ho2
  obtain ⟨A1, k1, rfl, hk11, hk12⟩ := own_cap ho1
  obtain ⟨A2, k2, rfl, hk21, hk22⟩ := own_cap ho2
  have Ho1 := Lib.hid ho1
  have Ho2 := Lib.hid ho2
  clear hb5 HP3 b0 b1 b2 b3 b4 b5 b6 ho1 ho2
  obtain ⟨b0, b1, b2, b3, b4, b5, b6⟩ := HBx.out w5 HB5.out
  have HP4 := Lib.hid (refSuspects_any q l A c w.heap.size w5 (Hq.out w5 HB5.out) (HA.out w5 HB5.out) (by omega) Hl.out Hm.out)
  go_wp2_with (go_at_call 34; fail)
  refine HP4.out.mono ?_
  rintro r w6 ⟨v3, v4, rfl, ho3, ho4, hb6⟩
  have HB6 := Lib.hid (HB5.out.trans (hb6.mono (by omega)))
  have hs6 := hb6.size
  rw [rsus_eq, map_int1] at ho3 ho4
  obtain ⟨A3, k3, rfl, hk31, hk32⟩ := own_cap ho3
  obtain ⟨A4, k4, rfl, hk41, hk42⟩ := own_cap ho4
  have HE2 := Lib.hid (intsEq_any (susL q l).1 A1 A3 k1 k3 w6.heap.size (susL q l).1.length rfl w6 (sl_own (enc := encInt1) (fun _ => rfl) (own_below Ho1.out hb6)) (sl_own (enc := encInt1) (fun _ => rfl) ho3) (Nat.le_refl _) HsL.out.1)
  have HE3 := Lib.hid (fun (X : World) (hX : Below w6.heap.size w6 X) => intsEq_any (susL q l).2 A2 A4 k2 k4 X.heap.size (susL q l).2.length rfl X (sl_own (enc := encInt1) (fun _ => rfl) (own_below (own_below Ho2.out hb6) hX)) (sl_own (enc := encInt1) (fun _ => rfl) (own_below ho4 hX)) (Nat.le_refl _) HsL.out.2)
  clear hb6 HP4 b0 b1 b2 b3 b4 b5 b6 ho3 ho4 Ho1 Ho2 hpe
  generalize checkedE q l = ce
  have hce : (ce != ce) = false := by simp
  generalize (susL q l).1.length = n1 at *
  generalize (susL q l).2.length = n2 at *
  go_wp2_with (go_at_call 34; fail)
  refine HE2.out.mono ?_
  rintro r w7 ⟨rfl, hb7⟩
  have HB7 := Lib.hid (HB6.out.trans (hb7.mono (by omega)))
  have hs7 := hb7.size
  have Hb7 := Lib.hid hb7
  clear HE2 hb7
  go_wp2_with (go_at_call 34; fail)
  refine (HE3.out w7 Hb7.out).mono ?_
  rintro r w8 ⟨rfl, hb8⟩
  have HB8 := Lib.hid (HB7.out.trans (hb8.mono (by omega)))
  have hs8 := hb8.size
  clear HE3 hb8
  obtain ⟨b0, b1, b2, b3, b4, b5, b6⟩ := HBx.out w8 HB8.out
  have HP5 := Lib.hid (Margin_any q period t w.heap.size w8 (Hq.out w8 HB8.out) (by omega))
  go_wp2_with (go_at_call 34; fail)
  refine HP5.out.mono ?_
  rintro r w9 ⟨rfl, hb9⟩
  have HB9 := Lib.hid (HB8.out.trans (hb9.mono (by omega)))
  have hs9 := hb9.size
  clear HP5 hb9 b0 b1 b2 b3 b4 b5 b6
  obtain ⟨b0, b1, b2, b3, b4, b5, b6⟩ := HBx.out w9 HB9.out
  have HP6 := Lib.hid (refMargin_any q period t w.heap.size w9 (Hq.out w9 HB9.out) (by omega))
  go_wp2_with (go_at_call 34; fail)
  refine HP6.out.mono ?_
  rintro r w10 ⟨rfl, hb10⟩
  have HB10 := Lib.hid (HB9.out.trans (hb10.mono (by omega)))
  have hs10 := hb10.size
  clear HP6 hb10
  generalize marV q period t = mv
  generalize marE q period t = me
  have hmv : (mv == mv) = true := by simp
  have hme : (me == me) = true := by simp
  go_wp2_with (go_at_call 10; refine (wakes_any _).mono ?_; rintro r w11 ⟨rfl, hb11⟩)
  go_ret
  exact ⟨rfl, (HU.out w10 HB10.out).trans (hb11.mono (by omega))⟩
end Go.Proofs.Ytcgnpndfhhcplaa
