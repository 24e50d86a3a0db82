/-
  The specification's fault of a stay of a list. Conditions: how the table and the list lie in memory; the table is valid, the stays' times are times. And its layer.
-/
import Derived.Test.YtjpgnfekbojcaaaGreatWName
set_option maxHeartbeats 8000000
set_option maxRecDepth 100000
namespace Go.Proofs.YtjpgnfekbojcaaaGreat
open Go.RowKit W7 W8
attribute [local go_sem] Oper.semAt_some
theorem strEq_self (a : ByteArray) : strEq a a = true := by unfold strEq; exact beq_self_eq_true _
theorem rest_last {t : Table} {l : List Dive} {d x : Dive} (h : l.getLast? = some x) : restB t l d = decide (t.rest <= d.tin - x.out) := by
 unfold restB
 have hne : l ≠ [] := fun e => by rw [e] at h; cases h
 have hl : l.length ≠ 0 := fun e => hne (List.length_eq_zero_iff.1 e)
 have hi : l.length - 1 < l.length := by omega
 rw [decide_eq_false hl, Bool.false_or, getD_lt hi]
 rw [List.getLast?_eq_getElem?, List.getElem?_eq_getElem hi] at h
 rw [Option.some.inj h]
def LastA (l : List Dive) (who : ByteArray) (i : Nat) (a : Int) : Prop := (a = -1 /\ aheadOf l i who = []) \/ ∃ (j : Nat) (hj : j < l.length), a = (j : Int) /\ (aheadOf l i who).getLast? = some l[j]
theorem refFault_any (t : Table) (l : List Dive) (A : Option Addr) (n c k B : Nat) (w : World) (ht : TIn w B t) (htl : t.rows.length <= 1000000000) (hte : tblErr t = 0) (hn : n = l.length) (hA : Sl w B 5 encDive A l) (hB : B <= w.heap.size) (hnl : n <= 1000000) (hok : ∀ d ∈ l, OkDive d) (hk : k < n) :
  Calls Tryz.prog 109 #[tabV t, .slice A n c, .int .i64 (k : Int)] w fun e w' => e = .returned (.int .u8 (faultAt t l k)) /\ Below w.heap.size w w' := by
 have hkl : k < l.length := by omega
 obtain ⟨d, hd⟩ : ∃ d, d = l[k] := ⟨_, rfl⟩
 obtain ⟨W0, hW0⟩ : ∃ W0, W0 = w.alloc (.cells #[.slice t.A t.rows.length t.c, .int .i64 t.rest, .int .i64 t.day] 74) := ⟨_, rfl⟩
 obtain ⟨W1, hW1⟩ : ∃ W1, W1 = W0.alloc (.cells #[.string d.who, .int .i64 d.pr, .int .i64 d.tin, .int .i64 d.leave, .int .i64 d.out] 84) := ⟨_, rfl⟩
 have hs0 : W0.heap.size = w.heap.size + 1 := by rw [hW0]; simp
 have hs1 : W1.heap.size = w.heap.size + 2 := by rw [hW1]; simp; exact hs0
 have HB0 := hI (show Below w.heap.size w W0 by rw [hW0]; exact (Below.refl _ _).alloc (Nat.le_refl _) _)
 have HB1 := hI (show Below w.heap.size w W1 by rw [hW1]; exact HB0.out.alloc (by omega) _)
 have h0 : W1.heap[w.heap.size]? = some (.cells #[.slice t.A t.rows.length t.c, .int .i64 t.rest, .int .i64 t.day] 74 (0, 0)) := by
  rw [hW1, Below.heap_alloc _ _ _ (by omega), hW0]; exact heap_alloc_new _ _
 have h1 : W1.heap[w.heap.size + 1]? = some (.cells #[.string d.who, .int .i64 d.pr, .int .i64 d.tin, .int .i64 d.leave, .int .i64 d.out] 84 (0, 0)) := by
  rw [hW1, <- hs0]; exact heap_alloc_new _ _
 have HQ := hI (show ∀ X : World, Below W1.heap.size W1 X -> X.heap[w.heap.size]? = some (.cells #[.slice t.A t.rows.length t.c, .int .i64 t.rest, .int .i64 t.day] 74 (0, 0)) /\ X.heap[w.heap.size + 1]? = some (.cells #[.string d.who, .int .i64 d.pr, .int .i64 d.tin, .int .i64 d.leave, .int .i64 d.out] 84 (0, 0)) from fun X hX =>
  ⟨(hX.block _ (by omega)).trans h0, (hX.block _ (by omega)).trans h1⟩)
 have HT := hI (fun (X : World) (hX : Below W1.heap.size W1 X) => show TIn X B t /\ Sl X B 5 encDive A l from ⟨ht.below ((HB1.out.mono hB).trans (hX.mono (by omega))), hA.below ((HB1.out.mono hB).trans (hX.mono (by omega)))⟩)
 have HU := hI (fun (X : World) (hX : Below W1.heap.size W1 X) => show Below w.heap.size w X from HB1.out.trans (hX.mono (by omega)))
 obtain ⟨b, off, hbe, hbB, hcells⟩ := (hA.below (HB0.out.mono hB)) (by omega)
 have HA9 := hI (show ∀ X : World, Below W1.heap.size W1 X -> ∀ i (hi : i < l.length), X.cell? ⟨b, off + i * 5, none⟩ = some (.string l[i].who) /\ X.cell? ⟨b, off + i * 5 + 2, none⟩ = some (.int .i64 l[i].tin) /\ X.cell? ⟨b, off + i * 5 + 3, none⟩ = some (.int .i64 l[i].leave) /\ X.cell? ⟨b, off + i * 5 + 4, none⟩ = some (.int .i64 l[i].out) from fun X hX i hi => by
  obtain ⟨b', off', e, _, h⟩ := (HT.out X hX).2 (by omega)
  rw [hbe] at e
  cases e
  exact ⟨h i hi 0 _ rfl, h i hi 2 _ rfl, h i hi 3 _ rfl, h i hi 4 _ rfl⟩)
 have z0 : W0.cell? ⟨b, off + k * 5, none⟩ = some (.string d.who) := by rw [hd]; exact hcells k hkl 0 _ rfl
 have z1 : W0.cell? ⟨b, off + k * 5 + 1, none⟩ = some (.int .i64 d.pr) := by rw [hd]; exact hcells k hkl 1 _ rfl
 have z2 : W0.cell? ⟨b, off + k * 5 + 2, none⟩ = some (.int .i64 d.tin) := by rw [hd]; exact hcells k hkl 2 _ rfl
 have z3 : W0.cell? ⟨b, off + k * 5 + 3, none⟩ = some (.int .i64 d.leave) := by rw [hd]; exact hcells k hkl 3 _ rfl
 have z4 : W0.cell? ⟨b, off + k * 5 + 4, none⟩ = some (.int .i64 d.out) := by rw [hd]; exact hcells k hkl 4 _ rfl
 subst hbe
 have HF := hI (show faultAt t l k = (if !ordB d then 1 else if !cntB t d then 2 else if !outB t d then 3 else if !restB t (aheadOf l k d.who) d then 4 else if !dayB t (aheadOf l k d.who) d then 5 else 0) by
  unfold faultAt
  rw [getD_lt hkl, <- hd]
  rfl)
 have Hord := hI (show ordB d = (decide (d.tin < d.leave) && decide (d.leave <= d.out)) from rfl)
 have HD := hI (hok d (by rw [hd]; exact List.getElem_mem _))
 have Hdk := hI hd.symm
 have Hok := hI hok
 have Hn := hI hn
 have HW0 := hI hW0
 have HW1 := hI hW1
 have hd1 := HD.out.tin
 have hd2 := HD.out.leave
 have hd3 := HD.out.out
 have HOt := hI (refOut_any t d.pr (d.leave - d.tin) B W1 (HT.out _ (Below.refl _ _)).1 (by omega) htl)
 have HPo := hI (fun r hr => out_pos (t := t) (p := d.pr) (m := d.leave - d.tin) (r := r) hte hr)
 have HOO := hI (show outOf t d.pr (d.leave - d.tin) = (match cntRow t d.pr (d.leave - d.tin) with | some r => r.out | none => -1) from rfl)
 have HCn := hI (show cntB t d = (cntRow t d.pr (d.leave - d.tin)).isSome from rfl)
 have HOu := hI (show outB t d = decide (((cntRow t d.pr (d.leave - d.tin)).getD ⟨0, 0, 0⟩).out <= d.out - d.leave) from rfl)
 clear hW0 hW1 h0 h1 hcells hA ht hte hn hok hd
 unfold tabV at HOt
 unfold tabV
 go_enter Tryz.func109, Tryz.ntmps109
 go_upto_region 1 with fail
 rw [<- HW0.out]
 go_upto_region 2 with fail
 rw [<- HW1.out]
 clear z0 z1 z2 z3 z4
 obtain ⟨t0, t1⟩ := HQ.out W1 (Below.refl _ _)
 have p0 : W1.cell? ⟨w.heap.size, 0, none⟩ = some (.slice t.A t.rows.length t.c) := by simp only [World.cell?, t0]; rfl
 have p1 : W1.cell? ⟨w.heap.size, 1, none⟩ = some (.int .i64 t.rest) := by simp only [World.cell?, t0]; rfl
 have p2 : W1.cell? ⟨w.heap.size, 2, none⟩ = some (.int .i64 t.day) := by simp only [World.cell?, t0]; rfl
 have r1 : W1.cell? ⟨w.heap.size + 1, 1, none⟩ = some (.int .i64 d.pr) := by simp only [World.cell?, t1]; rfl
 have r2 : W1.cell? ⟨w.heap.size + 1, 2, none⟩ = some (.int .i64 d.tin) := by simp only [World.cell?, t1]; rfl
 have r3 : W1.cell? ⟨w.heap.size + 1, 3, none⟩ = some (.int .i64 d.leave) := by simp only [World.cell?, t1]; rfl
 have r4 : W1.cell? ⟨w.heap.size + 1, 4, none⟩ = some (.int .i64 d.out) := by simp only [World.cell?, t1]; rfl
 clear t0 t1
 cases h1 : decide (d.leave <= d.tin)
 rotate_left
 ·have HE := hI (show faultAt t l k = 1 by rw [HF.out, Hord.out, decide_eq_false (by have := of_decide_eq_true h1; omega)]; rfl)
  go_wp2
  go_ret
  exact ⟨by rw [HE.out]; rfl, HB1.out⟩
 cases h2 : decide (d.out < d.leave)
 rotate_left
 ·have HE := hI (show faultAt t l k = 1 by rw [HF.out, Hord.out, decide_eq_false (show ¬ d.leave <= d.out by have := of_decide_eq_true h2; omega), Bool.and_false]; rfl)
  go_wp2
  go_ret
  exact ⟨by rw [HE.out]; rfl, HB1.out⟩
 have HF2 := hI (show faultAt t l k = (if !cntB t d then 2 else if !outB t d then 3 else if !restB t (aheadOf l k d.who) d then 4 else if !dayB t (aheadOf l k d.who) d then 5 else 0) by
  rw [HF.out, Hord.out, decide_eq_true (show d.tin < d.leave by have := of_decide_eq_false h1; omega), decide_eq_true (show d.leave <= d.out by have := of_decide_eq_false h2; omega)]; rfl)
 go_wp2_with (go_at_call 105; fail)
 refine HOt.out.mono ?_
 rintro e w2 ⟨rfl, hb2⟩
 have hs2 := hb2.size
 have Hb2 := hI hb2
 clear hb2 p0 p1 p2 r1 r2 r3 r4 HOt
 obtain ⟨t0, t1⟩ := HQ.out w2 Hb2.out
 have r3 : w2.cell? ⟨w.heap.size + 1, 3, none⟩ = some (.int .i64 d.leave) := by simp only [World.cell?, t1]; rfl
 have r4 : w2.cell? ⟨w.heap.size + 1, 4, none⟩ = some (.int .i64 d.out) := by simp only [World.cell?, t1]; rfl
 clear t0 t1
 generalize outOf t d.pr (d.leave - d.tin) = oo at HOO
 generalize cntRow t d.pr (d.leave - d.tin) = cr at HOO HCn HOu HPo
 cases cr with
 | none =>
  have HE := hI (show faultAt t l k = 2 by rw [HF2.out, HCn.out]; rfl)
  have hneg : oo < 0 := by rw [HOO.out]; decide
  go_wp2
  go_ret
  exact ⟨by rw [HE.out]; rfl, HU.out _ Hb2.out⟩
 | some r =>
  have hpos : ¬ oo < 0 := by rw [show oo = r.out from HOO.out]; have := (HPo.out r rfl).1; omega
  have hoo2 : oo <= 100000 := by rw [show oo = r.out from HOO.out]; exact (HPo.out r rfl).2
  have HO3 := hI (show outB t d = decide (oo <= d.out - d.leave) by rw [HOu.out, show oo = r.out from HOO.out]; rfl)
  have HF3 := hI (show faultAt t l k = (if !outB t d then 3 else if !restB t (aheadOf l k d.who) d then 4 else if !dayB t (aheadOf l k d.who) d then 5 else 0) by rw [HF2.out, HCn.out]; rfl)
  cases h3 : decide (d.out - d.leave < oo)
  rotate_left
  ·have HE := hI (show faultAt t l k = 3 by rw [HF3.out, HO3.out, decide_eq_false (by have := of_decide_eq_true h3; omega)]; rfl)
   go_wp2
   go_ret
   exact ⟨by rw [HE.out]; rfl, HU.out _ Hb2.out⟩
  have HF4 := hI (show faultAt t l k = (if !restB t (aheadOf l k d.who) d then 4 else if !dayB t (aheadOf l k d.who) d then 5 else 0) by rw [HF3.out, HO3.out, decide_eq_true (by have := of_decide_eq_false h3; omega)]; rfl)
  have hmx := max_run Tryz.prog
  have hmn := min_run Tryz.prog
  go_wp2
  go_loopw [9, 10, 11] (fun v9 v10 v11 wr => ∃ (i : Nat) (a S : Int), i <= k + 1 /\ v9 = .int .i64 a /\ v10 = .int .i64 S /\ v11 = .int .i64 i /\ (-1 <= a /\ a <= 1000000) /\ Hid (LastA l d.who (min i k) a) /\ Hid (S = sumOf d (aheadOf l i d.who)) /\ Hid (Below W1.heap.size W1 wr)) (fun _ _ v11 _ => k + 1 - (intOf v11).toNat)
  case atStart => exact ⟨0, -1, 0, by omega, rfl, rfl, rfl, by omega, hI (.inl ⟨rfl, by unfold aheadOf; simp⟩), hI (by unfold aheadOf; simp [sumOf]), Hb2⟩
  case round =>
   obtain ⟨i, a, S, hi, rfl, rfl, rfl, ha, HL, HS, Hb⟩ := hrel
   have hsr := Hb.out.size
   have hSb := sum_le HD.out (aheadOf l i d.who) (fun x hx => Hok.out x (by unfold aheadOf at hx; exact List.mem_of_mem_take (List.mem_filter.1 hx).1))
   rw [<- HS.out] at hSb
   have hSb1 := hSb.1
   have hal := ahead_len l i d.who
   have hSb2 : S <= 200000000000 := by omega
   clear hSb hal
   obtain ⟨t0, t1⟩ := HQ.out wr Hb.out
   have p1 : wr.cell? ⟨w.heap.size, 1, none⟩ = some (.int .i64 t.rest) := by simp only [World.cell?, t0]; rfl
   have p2 : wr.cell? ⟨w.heap.size, 2, none⟩ = some (.int .i64 t.day) := by simp only [World.cell?, t0]; rfl
   have r0 : wr.cell? ⟨w.heap.size + 1, 0, none⟩ = some (.string d.who) := by simp only [World.cell?, t1]; rfl
   have r2 : wr.cell? ⟨w.heap.size + 1, 2, none⟩ = some (.int .i64 d.tin) := by simp only [World.cell?, t1]; rfl
   have r3 : wr.cell? ⟨w.heap.size + 1, 3, none⟩ = some (.int .i64 d.leave) := by simp only [World.cell?, t1]; rfl
   clear t0 t1
   by_cases hlt : i <= k
   ·have hil : i < l.length := by omega
    obtain ⟨c0, c2, c3, c4⟩ := HA9.out wr Hb.out i hil
    have Hsu := hI (ahead_succ hil d.who)
    have Hx := hI (Hok.out _ (List.getElem_mem hil))
    have Hlx := hI (show l[i]? = some l[i] from List.getElem?_eq_getElem hil)
    cases hP : strEq l[i].who d.who
    ·have hik : i < k := by
      rcases Nat.lt_or_ge i k with h | h
      ·exact h
      ·have e : i = k := by omega
       subst e
       rw [Hdk.out, strEq_self] at hP
       cases hP
     have HS2 := hI (show aheadOf l (i + 1) d.who = aheadOf l i d.who by rw [Hsu.out, if_neg (by rw [hP]; decide), List.append_nil])
     have HL2 := hI (show LastA l d.who (min (i + 1) k) a by
      have h := HL.out
      rw [show min i k = i by omega] at h
      rw [show min (i + 1) k = i + 1 by omega]
      unfold LastA at h ⊢
      rw [HS2.out]
      exact h)
     unfold strEq at hP
     have hP2 : (l[i].who.toList != d.who.toList) = true := by simp [bne, hP]
     generalize l[i].who = xw at c0 hP hP2
     clear c2 c3 c4
     go_wp2
     go_quiet (fail)
     have HB3 := hI (below_drewN (B := W1.heap.size) Hb.out nq)
     go_wp2
     go_roundw
     case rel => exact ⟨i + 1, a, S, by omega, rfl, rfl, by go_num, by omega, HL2, hI (by rw [HS2.out]; exact HS.out), HB3⟩
     case measure => simp [intOf]; omega
    ·have HS2 := hI (show aheadOf l (i + 1) d.who = aheadOf l i d.who ++ [l[i]] by rw [Hsu.out, if_pos hP])
     have Hsum := hI (show sumOf d (aheadOf l (i + 1) d.who) = S + minsOf d l[i] by rw [HS2.out, sum_snoc, HS.out])
     have HLn := hI (show i < k -> LastA l d.who (min (i + 1) k) (i : Int) from fun h => by
      rw [show min (i + 1) k = i + 1 by omega]
      refine .inr ⟨i, hil, rfl, ?_⟩
      rw [HS2.out, List.getLast?_concat])
     have HLo := hI (show ¬ i < k -> LastA l d.who (min (i + 1) k) a from fun h => by
      have h9 := HL.out
      rw [show min i k = k by omega] at h9
      rw [show min (i + 1) k = k by omega]
      exact h9)
     unfold strEq at hP
     have hP2 : (l[i].who.toList != d.who.toList) = false := by simp [bne, hP]
     have hx1 := Hx.out.tin
     have hx2 := Hx.out.leave
     have Hmi := hI (show minsOf d l[i] = max 0 (min l[i].leave d.leave - max l[i].tin (d.leave - 1440)) from rfl)
     have hmi := mins_le HD.out Hx.out
     rw [Hmi.out] at hmi
     rw [Hmi.out] at Hsum
     have HA3 := hI (show ∀ X : World, Below W1.heap.size W1 X -> X.cell? ⟨b, off + i * 5 + 2, none⟩ = some (.int .i64 l[i].tin) /\ X.cell? ⟨b, off + i * 5 + 3, none⟩ = some (.int .i64 l[i].leave) from fun X hX => ⟨(HA9.out X hX i hil).2.1, (HA9.out X hX i hil).2.2.1⟩)
     generalize l[i].who = xw at c0 hP hP2
     generalize l[i].tin = xt at c2 hx1 hmi Hsum HA3
     generalize l[i].leave = xl at c3 hx2 hmi Hsum HA3
     clear c2 c3 c4 Hmi Hx
     have b1 : -1000000 <= min xl d.leave := by omega
     have b2 : min xl d.leave <= 1000000 := by omega
     have b3 : -1000000 <= max xt (d.leave - 1440) := by omega
     have b4 : max xt (d.leave - 1440) <= 1000000 := by omega
     have hcm : max (min xl d.leave - max xt (d.leave - 1440)) 0 = max 0 (min xl d.leave - max xt (d.leave - 1440)) := by omega
     have Hcm := hI hcm
     clear hcm
     go_wp2
     go_quiet (fail)
     have HB3 := hI (below_drewN (B := W1.heap.size) Hb.out nq)
     revert HB3
     generalize wr.drewN nq = w3
     intro HB3
     obtain ⟨c2, c3⟩ := HA3.out w3 HB3.out
     clear p1 p2 r0 r2 r3 c0
     obtain ⟨t0, t1⟩ := HQ.out w3 HB3.out
     have p1 : w3.cell? ⟨w.heap.size, 1, none⟩ = some (.int .i64 t.rest) := by simp only [World.cell?, t0]; rfl
     have p2 : w3.cell? ⟨w.heap.size, 2, none⟩ = some (.int .i64 t.day) := by simp only [World.cell?, t0]; rfl
     have r0 : w3.cell? ⟨w.heap.size + 1, 0, none⟩ = some (.string d.who) := by simp only [World.cell?, t1]; rfl
     have r2 : w3.cell? ⟨w.heap.size + 1, 2, none⟩ = some (.int .i64 d.tin) := by simp only [World.cell?, t1]; rfl
     have r3 : w3.cell? ⟨w.heap.size + 1, 3, none⟩ = some (.int .i64 d.leave) := by simp only [World.cell?, t1]; rfl
     clear t0 t1
     by_cases hik : i < k
     ·have HL2 := hI (HLn.out hik)
      go_wp2
      go_quiet (fail)
      have HB4 := hI (below_drewN (B := W1.heap.size) HB3.out nq)
      go_wp2
      go_roundw
      case rel => exact ⟨i + 1, (i : Int), _, by omega, rfl, rfl, by go_num, by omega, HL2, hI (by rw [Hsum.out, Hcm.out]), HB4⟩
      case measure => simp [intOf]; omega
     ·have HL2 := hI (HLo.out hik)
      go_wp2
      go_quiet (fail)
      have HB4 := hI (below_drewN (B := W1.heap.size) HB3.out nq)
      go_wp2
      go_roundw
      case rel => exact ⟨i + 1, a, _, by omega, rfl, rfl, by go_num, by omega, HL2, hI (by rw [Hsum.out, Hcm.out]), HB4⟩
      case measure => simp [intOf]; omega
   ·have hik : i = k + 1 := by omega
    have HSk := hI (show S = sumOf d (aheadOf l k d.who ++ [d]) by
     rw [HS.out, hik, ahead_succ hkl d.who, Hdk.out, strEq_self, if_pos rfl])
    have HDay := hI (show dayB t (aheadOf l k d.who) d = decide (S <= t.day) by rw [HSk.out]; rfl)
    have HLk := hI (show LastA l d.who k a by
     have h := HL.out
     rwa [show min i k = k by omega] at h)
    clear hik
    rcases HLk.out with ⟨ha1, hnil⟩ | ⟨j, hj, ha1, hlast⟩
    ·subst ha1
     have HF5 := hI (show faultAt t l k = (if !dayB t (aheadOf l k d.who) d then 5 else 0) by rw [HF4.out, hnil]; rfl)
     clear hnil
     go_wp2
     go_quiet (fail)
     have HB3 := hI (below_drewN (B := W1.heap.size) Hb.out nq)
     revert HB3
     generalize wr.drewN nq = w3
     intro HB3
     clear p1 p2 r0 r2 r3
     obtain ⟨t0, t1⟩ := HQ.out w3 HB3.out
     have p2 : w3.cell? ⟨w.heap.size, 2, none⟩ = some (.int .i64 t.day) := by simp only [World.cell?, t0]; rfl
     clear t0 t1
     cases hdy : decide (t.day < S)
     ·have HE := hI (show faultAt t l k = 0 by rw [HF5.out, HDay.out, decide_eq_true (show S <= t.day by have := of_decide_eq_false hdy; omega)]; rfl)
      go_wp2
      go_ret
      exact ⟨by rw [HE.out]; rfl, HU.out _ HB3.out⟩
     ·have HE := hI (show faultAt t l k = 5 by rw [HF5.out, HDay.out, decide_eq_false (show ¬ S <= t.day by have := of_decide_eq_true hdy; omega)]; rfl)
      go_wp2
      go_ret
      exact ⟨by rw [HE.out]; rfl, HU.out _ HB3.out⟩
    ·subst ha1
     have Hrs := hI (rest_last (t := t) (d := d) hlast)
     obtain ⟨_, _, _, c4⟩ := HA9.out wr Hb.out j hj
     have hjn : j < n := by have := Hn.out; omega
     have hox := (Hok.out _ (List.getElem_mem hj)).out
     generalize l[j].out = xo at c4 Hrs hox
     clear hlast
     cases hrs : decide (d.tin - xo < t.rest)
     ·have HF5 := hI (show faultAt t l k = (if !dayB t (aheadOf l k d.who) d then 5 else 0) by rw [HF4.out, Hrs.out, decide_eq_true (show t.rest <= d.tin - xo by have := of_decide_eq_false hrs; omega)]; rfl)
      go_wp2
      go_quiet (fail)
      have HB3 := hI (below_drewN (B := W1.heap.size) Hb.out nq)
      revert HB3
      generalize wr.drewN nq = w3
      intro HB3
      clear p1 p2 r0 r2 r3
      obtain ⟨t0, t1⟩ := HQ.out w3 HB3.out
      have p2 : w3.cell? ⟨w.heap.size, 2, none⟩ = some (.int .i64 t.day) := by simp only [World.cell?, t0]; rfl
      clear t0 t1
      cases hdy : decide (t.day < S)
      ·have HE := hI (show faultAt t l k = 0 by rw [HF5.out, HDay.out, decide_eq_true (show S <= t.day by have := of_decide_eq_false hdy; omega)]; rfl)
       go_wp2
       go_ret
       exact ⟨by rw [HE.out]; rfl, HU.out _ HB3.out⟩
      ·have HE := hI (show faultAt t l k = 5 by rw [HF5.out, HDay.out, decide_eq_false (show ¬ S <= t.day by have := of_decide_eq_true hdy; omega)]; rfl)
       go_wp2
       go_ret
       exact ⟨by rw [HE.out]; rfl, HU.out _ HB3.out⟩
     ·have HE := hI (show faultAt t l k = 4 by rw [HF4.out, Hrs.out, decide_eq_false (show ¬ t.rest <= d.tin - xo by have := of_decide_eq_true hrs; omega)]; rfl)
      go_wp2
      go_quiet (fail)
      have HB3 := hI (below_drewN (B := W1.heap.size) Hb.out nq)
      go_wp2
      go_ret
      exact ⟨by rw [HE.out]; rfl, HU.out _ HB3.out⟩
theorem firstErr_ne {f : Nat -> Int} {i : Nat} (h : firstErr f i ≠ 0) : ∀ n, i <= n -> firstErr f n = firstErr f i
 | 0, hn => by
  have e : i = 0 := by omega
  rw [e]
 | n + 1, hn => by
  rcases Nat.lt_or_ge i (n + 1) with h1 | h1
  ·have h2 := firstErr_ne h n (by omega)
   have h3 : firstErr f n ≠ 0 := by rw [h2]; exact h
   rw [<- h2]
   simp [firstErr, h3]
  ·have e : i = n + 1 := by omega
   rw [e]
theorem refFaults_any (t : Table) (l : List Dive) (A : Option Addr) (n c B : Nat) (w : World) (ht : TIn w B t) (htl : t.rows.length <= 1000000000) (hn : n = l.length) (hA : Sl w B 5 encDive A l) (hB : B <= w.heap.size) (hw : ∀ d ∈ l, d.who.size <= maxLen) :
  Calls Tryz.prog 47 #[tabV t, .slice A n c] w fun e w' => ∃ v, e = .returned (.tuple #[v, .int .i64 (faultsErr t l)]) /\ w'.ownsRow w.heap.size 90 1 v (faultsV t l).length ((faultsV t l).map (Value.int .u8)) /\ Below w.heap.size w w' := by
 obtain ⟨W0, hW0⟩ : ∃ W0, W0 = w.alloc (.cells #[.slice t.A t.rows.length t.c, .int .i64 t.rest, .int .i64 t.day] 74) := ⟨_, rfl⟩
 have hs0 : W0.heap.size = w.heap.size + 1 := by rw [hW0]; simp
 have HB0 := hI (show Below w.heap.size w W0 by rw [hW0]; exact (Below.refl _ _).alloc (Nat.le_refl _) _)
 have HQ0 := hI (show ∀ (X : World), Below W0.heap.size W0 X -> X.cell? ⟨w.heap.size, 0, none⟩ = some (.slice t.A t.rows.length t.c) /\ X.cell? ⟨w.heap.size, 1, none⟩ = some (.int .i64 t.rest) /\ X.cell? ⟨w.heap.size, 2, none⟩ = some (.int .i64 t.day) from fun X hX =>
  ⟨(hX.cell (p := ⟨w.heap.size, 0, none⟩) (by simp; omega)).trans (by rw [hW0]; exact alloc_cell rfl), (hX.cell (p := ⟨w.heap.size, 1, none⟩) (by simp; omega)).trans (by rw [hW0]; exact alloc_cell rfl), (hX.cell (p := ⟨w.heap.size, 2, none⟩) (by simp; omega)).trans (by rw [hW0]; exact alloc_cell rfl)⟩)
 have HT := hI (fun (X : World) (hX : Below W0.heap.size W0 X) => show TIn X B t /\ Sl X B 5 encDive A l from ⟨ht.below ((HB0.out.mono hB).trans (hX.mono (by omega))), hA.below ((HB0.out.mono hB).trans (hX.mono (by omega)))⟩)
 have HU := hI (fun (X : World) (hX : Below W0.heap.size W0 X) => show Below w.heap.size w X from HB0.out.trans (hX.mono (by omega)))
 have HC := hI (refCheckTable_any t B W0 (HT.out _ (Below.refl _ _)).1 (by omega))
 have HW0 := hI hW0
 have Hn := hI hn
 have Hw := hI hw
 obtain ⟨q0, q1, q2⟩ := HQ0.out W0 (Below.refl _ _)
 obtain ⟨te, hte⟩ : ∃ x, x = tblErr t := ⟨_, rfl⟩
 unfold tabV at HC
 rw [<- hte] at HC
 have HF := hI (show faultsErr t l = (if te ≠ 0 then te else if 128 < l.length then 3 else divesErr l) by rw [hte]; rfl)
 have HBad := hI (show ∀ (k : Int) (X : World), faultsErr t l = k -> k ≠ 0 -> Below W0.heap.size W0 X -> ∃ v, Ending.returned (.tuple #[.slice none 0 0, .int .i64 k]) = .returned (.tuple #[v, .int .i64 (faultsErr t l)]) /\ X.ownsRow w.heap.size 90 1 v (faultsV t l).length ((faultsV t l).map (Value.int .u8)) /\ Below w.heap.size w X from fun k X hk h0 hX => by
  have hv : faultsV t l = [] := by unfold faultsV; rw [if_neg (by rw [hk]; exact h0)]
  rw [hv, hk]
  exact ⟨_, rfl, World.ownsRow_nil _ _ _ _, HU.out X hX⟩)
 clear hW0 ht hA hn hw
 unfold tabV
 go_enter Tryz.func47, Tryz.ntmps47
 go_wp2_with (go_at_call 45; fail)
 rw [<- HW0.out]
 refine HC.out.mono ?_
 rintro e w1 ⟨rfl, hb1⟩
 have hs1 := hb1.size
 have Hb1 := hI hb1
 have Hte := hI hte
 clear hb1 q0 q1 q2 HC hte
 cases h0 : (te == 0)
 ·have Hne := hI (show te ≠ 0 from fun h => by rw [h] at h0; cases h0)
  have HFE := hI (show faultsErr t l = te by rw [HF.out, if_pos Hne.out])
  go_upto_region 5 with fail
  go_loopw [6, 7] (fun v6 v7 wr => ∃ (i : Nat) (ev : Int), i <= n /\ v6 = .int .i64 ev /\ v7 = .int .i64 i /\ Hid (ev = te) /\ Hid (Below W0.heap.size W0 wr)) (fun _ v7 _ => n - (intOf v7).toNat)
  case atStart => exact ⟨0, te, by omega, rfl, rfl, hI rfl, Hb1⟩
  case round =>
   obtain ⟨i, ev, hi, rfl, rfl, Hev, Hb⟩ := hrel
   have hne9 : ev ≠ 0 := by rw [Hev.out]; exact Hne.out
   have hev : (ev == 0) = false := beq_false_of_ne hne9
   have hev' : (ev != 0) = true := bne_iff_ne.2 hne9
   have HE := hI (HBad.out ev wr (by rw [HFE.out, Hev.out]) hne9 Hb.out)
   clear hne9
   by_cases hlt : i < n
   ·go_wp2
    exact bodyPost_ret (v := .tuple #[.slice none 0 0, .int .i64 ev]) (by simp [results, Tryz.results47, go_sem]) rfl HE.out
   ·go_wp2
    exact bodyPost_ret (v := .tuple #[.slice none 0 0, .int .i64 ev]) (by simp [results, Tryz.results47, go_sem]) rfl HE.out
 have hz : te = 0 := eq_of_beq h0
 by_cases h128 : 128 < n
 ·have Hne := hI (show (3 : Int) ≠ 0 by decide)
  have HFE := hI (show faultsErr t l = 3 by rw [HF.out, if_neg (by rw [hz]; decide), if_pos (by rw [<- Hn.out]; exact h128)])
  clear hz
  go_upto_region 5 with fail
  go_loopw [6, 7] (fun v6 v7 wr => ∃ (i : Nat) (ev : Int), i <= n /\ v6 = .int .i64 ev /\ v7 = .int .i64 i /\ Hid (ev = 3) /\ Hid (Below W0.heap.size W0 wr)) (fun _ v7 _ => n - (intOf v7).toNat)
  case atStart => exact ⟨0, 3, by omega, rfl, rfl, hI rfl, Hb1⟩
  case round =>
   obtain ⟨i, ev, hi, rfl, rfl, Hev, Hb⟩ := hrel
   have hne9 : ev ≠ 0 := by rw [Hev.out]; exact Hne.out
   have hev : (ev == 0) = false := beq_false_of_ne hne9
   have hev' : (ev != 0) = true := bne_iff_ne.2 hne9
   have HE := hI (HBad.out ev wr (by rw [HFE.out, Hev.out]) hne9 Hb.out)
   clear hne9
   by_cases hlt : i < n
   ·go_wp2
    exact bodyPost_ret (v := .tuple #[.slice none 0 0, .int .i64 ev]) (by simp [results, Tryz.results47, go_sem]) rfl HE.out
   ·go_wp2
    exact bodyPost_ret (v := .tuple #[.slice none 0 0, .int .i64 ev]) (by simp [results, Tryz.results47, go_sem]) rfl HE.out
 have HG := hI (show faultsErr t l = divesErr l by rw [HF.out, if_neg (by rw [hz]; decide), if_neg (by rw [<- Hn.out]; exact h128)])
 have Htz := hI (show tblErr t = 0 by rw [<- Hte.out]; exact hz)
 have Hz := hI hz
 clear hz
 go_upto_region 5 with fail
 go_loopw [6, 7] (fun v6 v7 wr => ∃ (i : Nat) (ev : Int), i <= n /\ v6 = .int .i64 ev /\ v7 = .int .i64 i /\ Hid (firstErr (diveErr l) i = ev) /\ Hid (Below W0.heap.size W0 wr)) (fun _ v7 _ => n - (intOf v7).toNat)
 case atStart => exact ⟨0, te, by omega, rfl, rfl, hI (by rw [Hz.out]; rfl), Hb1⟩
 case round =>
  obtain ⟨i, ev, hi, rfl, rfl, Hf, Hb⟩ := hrel
  have hsr := Hb.out.size
  cases hev : (ev == 0)
  ·have hne9 : ev ≠ 0 := fun h => by rw [h] at hev; cases hev
   have hev' : (ev != 0) = true := bne_iff_ne.2 hne9
   have HE := hI (HBad.out ev wr (by rw [HG.out, <- Hf.out]; exact firstErr_ne (by rw [Hf.out]; exact hne9) l.length (by have := Hn.out; omega)) hne9 Hb.out)
   clear hne9
   by_cases hlt : i < n
   ·go_wp2
    exact bodyPost_ret (v := .tuple #[.slice none 0 0, .int .i64 ev]) (by simp [results, Tryz.results47, go_sem]) rfl HE.out
   ·go_wp2
    exact bodyPost_ret (v := .tuple #[.slice none 0 0, .int .i64 ev]) (by simp [results, Tryz.results47, go_sem]) rfl HE.out
  ·have hev0 : ev = 0 := eq_of_beq hev
   subst hev0
   clear hev
   by_cases hlt : i < n
   ·skip
    have hil : i < l.length := by have := Hn.out; omega
    obtain ⟨b, off, hbe, hbB, hcells⟩ := (HT.out wr Hb.out).2 (by omega)
    subst hbe
    have hbw : b < wr.heap.size := by omega
    have c0 : wr.cell? ⟨b, off + i * 5, none⟩ = some (.string l[i].who) := hcells i hil 0 _ rfl
    have c1 : wr.cell? ⟨b, off + i * 5 + 1, none⟩ = some (.int .i64 l[i].pr) := hcells i hil 1 _ rfl
    have c2 : wr.cell? ⟨b, off + i * 5 + 2, none⟩ = some (.int .i64 l[i].tin) := hcells i hil 2 _ rfl
    have c3 : wr.cell? ⟨b, off + i * 5 + 3, none⟩ = some (.int .i64 l[i].leave) := hcells i hil 3 _ rfl
    have c4 : wr.cell? ⟨b, off + i * 5 + 4, none⟩ = some (.int .i64 l[i].out) := hcells i hil 4 _ rfl
    have HDv := hI (show diveErr l i = (if nameB l[i].who then (if timesB l[i] then (if 0 < i /\ l[i].tin < (l.getD (i - 1) default).tin then 8 else 0) else 1) else 5) by unfold diveErr; rw [getD_lt hil])
    have hws := Hw.out _ (List.getElem_mem hil)
    generalize l[i] = x at c0 c1 c2 c3 c4 HDv hws
    go_upto_region 8 with fail
    obtain ⟨W2, hW2⟩ : ∃ W2, W2 = wr.alloc (.cells #[.string x.who, .int .i64 x.pr, .int .i64 x.tin, .int .i64 x.leave, .int .i64 x.out] 84) := ⟨_, rfl⟩
    rw [<- hW2]
    have HB2 := hI (show Below wr.heap.size wr W2 by rw [hW2]; exact (Below.refl _ _).alloc (Nat.le_refl _) _)
    have HA2 := hI (Hb.out.trans (HB2.out.mono hsr))
    have r0 : W2.cell? ⟨wr.heap.size, 0, none⟩ = some (.string x.who) := by rw [hW2]; exact alloc_cell rfl
    have r1 : W2.cell? ⟨wr.heap.size, 1, none⟩ = some (.int .i64 x.pr) := by rw [hW2]; exact alloc_cell rfl
    have r2 : W2.cell? ⟨wr.heap.size, 2, none⟩ = some (.int .i64 x.tin) := by rw [hW2]; exact alloc_cell rfl
    have r3 : W2.cell? ⟨wr.heap.size, 3, none⟩ = some (.int .i64 x.leave) := by rw [hW2]; exact alloc_cell rfl
    have r4 : W2.cell? ⟨wr.heap.size, 4, none⟩ = some (.int .i64 x.out) := by rw [hW2]; exact alloc_cell rfl
    clear hW2 c0 c1 c2 c3 c4
    have Htb := hI (show timesB x = (isTm x.pr && isTm x.tin && isTm x.leave && isTm x.out) from rfl)
    have Hrel := hI (show ∀ (k : Int) (X : World), diveErr l i = k -> Below W0.heap.size W0 X -> Hid (firstErr (diveErr l) (i + 1) = k) /\ Hid (Below W0.heap.size W0 X) from fun k X hk hX => ⟨hI (by rw [firstErr_succ Hf.out, hk]), hI hX⟩)
    cases hN : nameB x.who
    ·have HV := hI (show diveErr l i = 5 by rw [HDv.out, hN]; rfl)
     go_wp2_with (go_at_call 99; refine (refName_any x.who hws _).mono ?_; rintro e w' ⟨rfl, rfl⟩)
     go_roundw
     case rel => exact ⟨i + 1, 5, by omega, rfl, by go_num, (Hrel.out 5 W2 HV.out HA2.out).1, (Hrel.out 5 W2 HV.out HA2.out).2⟩
     case measure => simp [intOf]; omega
    cases h1 : isTm x.pr
    ·have HV := hI (show diveErr l i = 1 by rw [HDv.out, hN, Htb.out, h1]; rfl)
     go_wp2_with (first | (go_at_call 99; refine (refName_any x.who hws _).mono ?_; rintro e w' ⟨rfl, rfl⟩) | (go_at_call 77; refine (timed_any _ _).mono ?_; rintro e w' ⟨rfl, rfl⟩))
     go_roundw
     case rel => exact ⟨i + 1, 1, by omega, rfl, by go_num, (Hrel.out 1 W2 HV.out HA2.out).1, (Hrel.out 1 W2 HV.out HA2.out).2⟩
     case measure => simp [intOf]; omega
    cases h2 : isTm x.tin
    ·have HV := hI (show diveErr l i = 1 by rw [HDv.out, hN, Htb.out, h1, h2]; rfl)
     go_wp2_with (first | (go_at_call 99; refine (refName_any x.who hws _).mono ?_; rintro e w' ⟨rfl, rfl⟩) | (go_at_call 77; refine (timed_any _ _).mono ?_; rintro e w' ⟨rfl, rfl⟩))
     go_roundw
     case rel => exact ⟨i + 1, 1, by omega, rfl, by go_num, (Hrel.out 1 W2 HV.out HA2.out).1, (Hrel.out 1 W2 HV.out HA2.out).2⟩
     case measure => simp [intOf]; omega
    cases h3 : isTm x.leave
    ·have HV := hI (show diveErr l i = 1 by rw [HDv.out, hN, Htb.out, h1, h2, h3]; rfl)
     go_wp2_with (first | (go_at_call 99; refine (refName_any x.who hws _).mono ?_; rintro e w' ⟨rfl, rfl⟩) | (go_at_call 77; refine (timed_any _ _).mono ?_; rintro e w' ⟨rfl, rfl⟩))
     go_roundw
     case rel => exact ⟨i + 1, 1, by omega, rfl, by go_num, (Hrel.out 1 W2 HV.out HA2.out).1, (Hrel.out 1 W2 HV.out HA2.out).2⟩
     case measure => simp [intOf]; omega
    cases h4 : isTm x.out
    ·have HV := hI (show diveErr l i = 1 by rw [HDv.out, hN, Htb.out, h1, h2, h3, h4]; rfl)
     go_wp2_with (first | (go_at_call 99; refine (refName_any x.who hws _).mono ?_; rintro e w' ⟨rfl, rfl⟩) | (go_at_call 77; refine (timed_any _ _).mono ?_; rintro e w' ⟨rfl, rfl⟩))
     go_roundw
     case rel => exact ⟨i + 1, 1, by omega, rfl, by go_num, (Hrel.out 1 W2 HV.out HA2.out).1, (Hrel.out 1 W2 HV.out HA2.out).2⟩
     case measure => simp [intOf]; omega
    have HV0 := hI (show diveErr l i = (if 0 < i /\ x.tin < (l.getD (i - 1) default).tin then 8 else 0) by rw [HDv.out, hN, Htb.out, h1, h2, h3, h4]; rfl)
    by_cases hi0 : 0 < i
    ·have hil1 : i - 1 < l.length := by omega
     have d2 : W2.cell? ⟨b, off + (i - 1) * 5 + 2, none⟩ = some (.int .i64 l[i - 1].tin) := (HB2.out.cell (p := ⟨b, off + (i - 1) * 5 + 2, none⟩) hbw).trans (hcells (i - 1) hil1 2 _ rfl)
     rw [getD_lt hil1] at HV0
     generalize l[i - 1].tin = y at d2 HV0
     clear hcells
     cases hc9 : decide (x.tin < y)
     ·have HV := hI (show diveErr l i = 0 by rw [HV0.out, if_neg (fun h => absurd h.2 (of_decide_eq_false hc9))])
      go_wp2_with (first | (go_at_call 99; refine (refName_any x.who hws _).mono ?_; rintro e w' ⟨rfl, rfl⟩) | (go_at_call 77; refine (timed_any _ _).mono ?_; rintro e w' ⟨rfl, rfl⟩))
      go_quiet (fail)
      have HB3 := hI (below_drewN (B := W0.heap.size) HA2.out nq)
      go_wp2
      go_roundw
      case rel => exact ⟨i + 1, 0, by omega, rfl, by go_num, (Hrel.out 0 (W2.drewN nq) HV.out HB3.out).1, (Hrel.out 0 (W2.drewN nq) HV.out HB3.out).2⟩
      case measure => simp [intOf]; omega
     ·have HV := hI (show diveErr l i = 8 by rw [HV0.out, if_pos ⟨hi0, of_decide_eq_true hc9⟩])
      go_wp2_with (first | (go_at_call 99; refine (refName_any x.who hws _).mono ?_; rintro e w' ⟨rfl, rfl⟩) | (go_at_call 77; refine (timed_any _ _).mono ?_; rintro e w' ⟨rfl, rfl⟩))
      go_quiet (fail)
      have HB3 := hI (below_drewN (B := W0.heap.size) HA2.out nq)
      go_wp2
      go_roundw
      case rel => exact ⟨i + 1, 8, by omega, rfl, by go_num, (Hrel.out 8 (W2.drewN nq) HV.out HB3.out).1, (Hrel.out 8 (W2.drewN nq) HV.out HB3.out).2⟩
      case measure => simp [intOf]; omega
    ·have HV := hI (show diveErr l i = 0 by rw [HV0.out, if_neg (fun h => hi0 h.1)])
     have hi00 : i = 0 := by omega
     subst hi00
     clear hcells hi0
     go_wp2_with (first | (go_at_call 99; refine (refName_any x.who hws _).mono ?_; rintro e w' ⟨rfl, rfl⟩) | (go_at_call 77; refine (timed_any _ _).mono ?_; rintro e w' ⟨rfl, rfl⟩))
     go_quiet (fail)
     have HB3 := hI (below_drewN (B := W0.heap.size) HA2.out nq)
     go_wp2
     go_roundw
     case rel => exact ⟨0 + 1, 0, by omega, rfl, by go_num, (Hrel.out 0 (W2.drewN nq) HV.out HB3.out).1, (Hrel.out 0 (W2.drewN nq) HV.out HB3.out).2⟩
     case measure => simp [intOf]; omega
   ·have hfin : firstErr (diveErr l) l.length = 0 := by
     have h1 : i = l.length := by have := Hn.out; omega
     rw [<- h1]; exact Hf.out
    have HE0 := hI (show faultsErr t l = 0 from HG.out.trans hfin)
    have HFv := hI (show faultsV t l = (List.range l.length).map (faultAt t l) by unfold faultsV; rw [if_pos HE0.out])
    have Hok := hI (ok_of_dives (l := l) hfin)
    have Hb9 := hI Hb.out
    clear hfin Hf Hb
    go_wp2
    go_loopw [9, 10] (fun v9 v10 wq => ∃ j : Nat, j <= n /\ v10 = .int .i64 j /\ Hid (Below W0.heap.size W0 wq) /\ Hid (wq.ownsRow W0.heap.size 90 1 v9 j (((List.range j).map (faultAt t l)).map (Value.int .u8)))) (fun _ v10 _ => n - (intOf v10).toNat)
    case atStart => exact ⟨0, by omega, rfl, Hb9, hI (World.ownsRow_nil _ _ _ _)⟩
    case round =>
     obtain ⟨j, hj, rfl, Hb, Ho⟩ := hrel
     have hsr9 := Hb.out.size
     by_cases hlt2 : j < n
     ·have hjl : j < l.length := by have := Hn.out; omega
      have hT := (HT.out wr Hb.out)
      have HFa := hI (refFault_any t l A n c j B wr hT.1 htl Htz.out Hn.out hT.2 (by omega) (by omega) Hok.out hlt2)
      unfold tabV at HFa
      obtain ⟨q0, q1, q2⟩ := HQ0.out wr Hb.out
      clear hT
      have Hnx := hI (show ((List.range (j + 1)).map (faultAt t l)).map (Value.int .u8) = ((List.range j).map (faultAt t l)).map (Value.int .u8) ++ [.int .u8 (faultAt t l j)] by rw [List.range_succ]; simp)
      generalize faultAt t l j = fv at Hnx HFa
      go_wp2_with (go_at_call 109; fail)
      refine HFa.out.mono ?_
      rintro e w4 ⟨rfl, hb4⟩
      have hs4 := hb4.size
      have Hb4 := hI (Hb.out.trans (hb4.mono (by omega)))
      have Ho4 := hI (own_below Ho.out hb4)
      have hbs : W0.heap.size <= w4.heap.size := by omega
      clear hb4 q0 q1 q2
      go_wp2_with (at_builtin; refine wpList_append1 rfl _ _ 79 rfl W0.heap.size 90 _ 1 1 elemAf _ _ _ rfl Ho4.out #[.int .u8 fv] 1 _ rfl (by first | simp | omega) rfl (by simp [Value.oneCell']) (by omega) (by omega) ?_; intro v6 w6 hown6 hb6 hsz6 hg6 hblk6; have Ho6 := hI hown6; have Hb6 := hI hb6; clear hown6 hb6 hsz6 hg6 hblk6)
      go_roundw
      case rel => exact ⟨j + 1, by omega, by go_num, hI (Hb4.out.trans Hb6.out), hI (by rw [Hnx.out]; exact Ho6.out)⟩
      case measure => simp [intOf]; omega
     ·have hjn : j = l.length := by have := Hn.out; omega
      have Ho9 := hI (show wr.ownsRow w.heap.size 90 1 u9 (faultsV t l).length ((faultsV t l).map (Value.int .u8)) by
       rw [HFv.out, List.length_map, List.length_range, <- hjn]
       exact own_mono Ho.out (by omega))
      clear hjn
      go_wp2
      refine bodyPost_ret (v := .tuple #[u9, .int .i64 0]) (by simp [results, Tryz.results47, go_sem]) rfl ?_
      exact ⟨u9, by rw [HE0.out], Ho9.out, HU.out wr Hb.out⟩
theorem many_any (t : Table) (l : List Dive) (A : Option Addr) (n c B : Nat) (w : World) (hn : n = l.length) (hA : Sl w B 5 encDive A l) (hB : B <= w.heap.size) (hnc : n <= c) (hc : c <= 9223372036854775807) :
  Calls Tryz.prog 41 #[tabV t, .slice A n c] w fun e w' => ∃ b, e = .returned (.bool b) /\ (b = false -> t.rows.length <= 100 /\ n <= 200) /\ Below w.heap.size w w' := by
 obtain ⟨m, hm⟩ : ∃ m, t.rows.length = m := ⟨_, rfl⟩
 obtain ⟨W0, hW0⟩ : ∃ W0, W0 = w.alloc (.cells #[.slice t.A m t.c, .int .i64 t.rest, .int .i64 t.day] 74) := ⟨_, rfl⟩
 have hs0 : W0.heap.size = w.heap.size + 1 := by rw [hW0]; simp
 have HB0 := hI (show Below w.heap.size w W0 by rw [hW0]; exact (Below.refl _ _).alloc (Nat.le_refl _) _)
 have HQ0 := hI (show ∀ (X : World), Below W0.heap.size W0 X -> X.cell? ⟨w.heap.size, 0, none⟩ = some (.slice t.A m t.c) from fun X hX => (hX.cell (p := ⟨w.heap.size, 0, none⟩) (by simp; omega)).trans (by rw [hW0]; exact alloc_cell rfl))
 have HA := hI (hA.below (HB0.out.mono hB))
 have HU := hI (fun (X : World) (hX : Below W0.heap.size W0 X) => show Below w.heap.size w X from HB0.out.trans (hX.mono (by omega)))
 have HW0 := hI hW0
 have Hn := hI hn
 have Hm := hI hm
 clear hW0 hA hn
 unfold tabV
 rw [hm]
 clear hm
 go_enter Tryz.func41, Tryz.ntmps41
 go_upto_region 1 with fail
 rw [<- HW0.out]
 go_wp2
 go_loopw [5, 6] (fun v3 v4 wr => ∃ (i : Nat) (x : Int), i <= n /\ v4 = .int .i64 i /\ v3 = .int .i64 x /\ Hid (Below W0.heap.size W0 wr)) (fun _ v4 _ => n - (intOf v4).toNat)
 case atStart => exact ⟨0, 0, by omega, rfl, rfl, hI (Below.refl _ _)⟩
 case round =>
  obtain ⟨i, x, hi, rfl, rfl, Hb⟩ := hrel
  have hsr := Hb.out.size
  have q0 := HQ0.out wr Hb.out
  by_cases hlt : i < n
  ·have hil : i < l.length := by have := Hn.out; omega
   obtain ⟨b, off, hbe, hbB, hcells⟩ := (HA.out.below (Hb.out.mono (by omega))) (by omega)
   subst hbe
   have c0 : wr.cell? ⟨b, off + i * 5, none⟩ = some (.string l[i].who) := hcells i hil 0 _ rfl
   generalize l[i].who = xw at c0
   clear hcells
   go_wp2
   go_roundw
   case rel => exact ⟨i + 1, _, by omega, by go_num, rfl, Hb⟩
   case measure => simp [intOf]; omega
  ·cases h1 : decide ((m : Int) > 100)
   rotate_left
   ·go_wp2
    go_ret
    exact ⟨true, rfl, fun h => by (cases h), HU.out wr Hb.out⟩
   cases h2 : decide ((n : Int) > 200)
   rotate_left
   ·go_wp2
    go_ret
    exact ⟨true, rfl, fun h => by (cases h), HU.out wr Hb.out⟩
   have Hmn := hI (show t.rows.length <= 100 /\ n <= 200 from ⟨by have := of_decide_eq_false h1; have := Hm.out; omega, by have := of_decide_eq_false h2; omega⟩)
   go_wp2
   go_ret
   exact ⟨_, rfl, fun _ => (by rw [<- Hm.out]; exact Hmn.out), HU.out wr Hb.out⟩
end Go.Proofs.YtjpgnfekbojcaaaGreat
