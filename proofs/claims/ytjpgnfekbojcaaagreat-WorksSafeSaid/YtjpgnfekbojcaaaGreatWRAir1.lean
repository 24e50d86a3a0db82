/-
  The specification's way out of a stay: the row that counts, its errors. Conditions: how the table lies in memory. And its layer.
-/
import Derived.Test.YtjpgnfekbojcaaaGreatWAir1
import Derived.RangeFuncFrom
import Derived.RangeFuncCalls
import Derived.OrdersIn
import Derived.TacticsIn
set_option maxHeartbeats 2000000
set_option maxRecDepth 100000
namespace Go.Proofs.YtjpgnfekbojcaaaGreat
open Go.RowKit W7 W8
attribute [local go_sem] Oper.semAt_some
theorem refOut_any (t : Table) (p m : Int) (B : Nat) (w : World) (ht : TIn w B t) (hB : B <= w.heap.size) (hl : t.rows.length <= 1000000000) :
  Calls Tryz.prog 105 #[tabV t, .int .i64 p, .int .i64 m] w fun e w' => e = .returned (.int .i64 (outOf t p m)) /\ Below w.heap.size w w' := by
 obtain ⟨n, hn⟩ : ∃ n, t.rows.length = n := ⟨_, rfl⟩
 obtain ⟨QQ, hQQ⟩ : ∃ QQ, t.A = QQ := ⟨_, rfl⟩
 obtain ⟨W0, hW0⟩ : ∃ W0, W0 = w.alloc (.cells #[.slice t.A t.rows.length t.c, .int .i64 t.rest, .int .i64 t.day] 74) := ⟨_, rfl⟩
 have hs0 : W0.heap.size = w.heap.size + 1 := by rw [hW0]; simp
 have HB0 := hI (show Below w.heap.size w W0 by rw [hW0]; exact (Below.refl _ _).alloc (Nat.le_refl _) _)
 have HQ0 := hI (show ∀ (X : World), Below W0.heap.size W0 X -> X.cell? ⟨w.heap.size, 0, none⟩ = some (.slice t.A t.rows.length t.c) /\ X.cell? ⟨w.heap.size, 1, none⟩ = some (.int .i64 t.rest) /\ X.cell? ⟨w.heap.size, 2, none⟩ = some (.int .i64 t.day) from fun X hX =>
  ⟨(hX.cell (p := ⟨w.heap.size, 0, none⟩) (by simp; omega)).trans (by rw [hW0]; exact alloc_cell rfl), (hX.cell (p := ⟨w.heap.size, 1, none⟩) (by simp; omega)).trans (by rw [hW0]; exact alloc_cell rfl), (hX.cell (p := ⟨w.heap.size, 2, none⟩) (by simp; omega)).trans (by rw [hW0]; exact alloc_cell rfl)⟩)
 have HT := hI (fun (X : World) (hX : Below W0.heap.size W0 X) => show TIn X B t from ht.below ((HB0.out.mono hB).trans (hX.mono (by omega))))
 have HU := hI (fun (X : World) (hX : Below W0.heap.size W0 X) => show Below w.heap.size w X from HB0.out.trans (hX.mono (by omega)))
 have HW0 := hI hW0
 obtain ⟨q0, q1, q2⟩ := HQ0.out W0 (Below.refl _ _)
 clear hW0 ht
 have hlc := (HT.out W0 (Below.refl _ _)).lc
 have hc2 := (HT.out W0 (Below.refl _ _)).c2
 have HSl := hI (fun (X : World) (hX : Below W0.heap.size W0 X) => show Sl X B 3 encRow QQ t.rows by rw [<- hQQ]; exact (HT.out X hX).sl)
 rw [hn, hQQ] at HQ0 q0 HW0
 rw [hn] at hlc hl
 have Hn := hI hn
 unfold tabV
 rw [hn, hQQ]
 clear hn hQQ q0 q1 q2
 obtain ⟨q0, q1, q2⟩ := HQ0.out W0 (Below.refl _ _)
 have HO := hI (show outOf t p m = (match cntRow t p m with | some r => r.out | none => -1) from rfl)
 go_enter Tryz.func105, Tryz.ntmps105
 go_upto_region 1 with fail
 rw [<- HW0.out]
 go_wp2
 clear q0 q1 q2
 go_loopw [7] (fun v wr => ∃ i : Nat, i <= n /\ v = .int .i64 i /\ Hid (W0 = wr) /\ Hid ((t.rows.take i).any (fun x => fitsRow p m x) = false)) (fun v _ => n - (intOf v).toNat)
 case atStart => exact ⟨0, by omega, rfl, hI rfl, hI rfl⟩
 case round =>
  obtain ⟨i, hi, rfl, hwr, Hno⟩ := hrel
  obtain rfl := hwr.out
  obtain ⟨q0, q1, q2⟩ := HQ0.out W0 (Below.refl _ _)
  by_cases hlt : i < n
  ·have hil : i < t.rows.length := by rw [Hn.out]; exact hlt
   obtain ⟨b, off, hbe, hbB, hcells⟩ := (HSl.out W0 (Below.refl _ _)) (by omega)
   subst hbe
   have c0 : W0.cell? ⟨b, off + i * 3, none⟩ = some (.int .i64 t.rows[i].pr) := hcells i hil 0 _ rfl
   have c1 : W0.cell? ⟨b, off + i * 3 + 1, none⟩ = some (.int .i64 t.rows[i].mi) := hcells i hil 1 _ rfl
   have c2 : W0.cell? ⟨b, off + i * 3 + 2, none⟩ = some (.int .i64 t.rows[i].out) := hcells i hil 2 _ rfl
   have Hnx := hI (fun h => any_take_succ (p := fun x => fitsRow p m x) hil Hno.out h)
   have Hit := hI (fun h => cnt_hit (t := t) (p := p) (m := m) hil (idxB_hit (p := fun x => fitsRow p m x) hil Hno.out h))
   have Hff := hI (show fitsRow p m t.rows[i] = (decide (p <= t.rows[i].pr) && decide (m <= t.rows[i].mi)) from rfl)
   generalize t.rows[i] = r at c0 c1 c2 Hnx Hit Hff
   clear hcells
   cases h1 : decide (p <= r.pr)
   ·have HN := hI (Hnx.out (by rw [Hff.out, h1]; rfl))
    go_wp2
    go_roundw
    case rel => exact ⟨i + 1, by omega, by go_num, hI trivial, HN⟩
    case measure => simp [intOf]; omega
   cases h2 : decide (m <= r.mi)
   ·have HN := hI (Hnx.out (by rw [Hff.out, h1, h2]; rfl))
    go_wp2
    go_roundw
    case rel => exact ⟨i + 1, by omega, by go_num, hI trivial, HN⟩
    case measure => simp [intOf]; omega
   ·have HH := hI (Hit.out (by rw [Hff.out, h1, h2]; rfl))
    go_wp2
    go_ret
    exact ⟨by rw [HO.out, HH.out]; rfl, HB0.out⟩
  ·have HN := hI (cnt_none (t := t) (p := p) (m := m) (by rw [idxB_none (p := fun x => fitsRow p m x) (by rw [<- Hno.out, List.take_of_length_le (by rw [Hn.out]; omega)])]; decide))
   go_wp2
   go_ret
   exact ⟨by rw [HO.out, HN.out]; rfl, HB0.out⟩
theorem out_pos {t : Table} {p m : Int} {r : AirRow} (h : tblErr t = 0) (hr : cntRow t p m = some r) : 0 <= r.out /\ r.out <= 100000 := by
 have h1 : okRow r = true := by
  unfold tblErr at h
  split at h
  ·cases h
  ·split at h
   ·rename_i h2
    simp only [Bool.and_eq_true] at h2
    exact List.all_eq_true.1 h2.1.1 r (List.mem_of_find?_eq_some hr)
   ·cases h
 unfold okRow at h1
 simp only [Bool.and_eq_true] at h1
 exact isTm_true.1 h1.2
theorem refWayOut_any (t : Table) (p m : Int) (B : Nat) (w : World) (ht : TIn w B t) (hB : B <= w.heap.size) (hl : t.rows.length <= 1000000000) :
  Calls Tryz.prog 43 #[tabV t, .int .i64 p, .int .i64 m] w fun e w' => e = .returned (.tuple #[.int .i64 (wayV t p m), .int .i64 (wayErr t p m)]) /\ Below w.heap.size w w' := by
 obtain ⟨W0, hW0⟩ : ∃ W0, W0 = w.alloc (.cells #[.slice t.A t.rows.length t.c, .int .i64 t.rest, .int .i64 t.day] 74) := ⟨_, rfl⟩
 have hs0 : W0.heap.size = w.heap.size + 1 := by rw [hW0]; simp
 have HB0 := hI (show Below w.heap.size w W0 by rw [hW0]; exact (Below.refl _ _).alloc (Nat.le_refl _) _)
 have HQ0 := hI (show ∀ (X : World), Below W0.heap.size W0 X -> X.cell? ⟨w.heap.size, 0, none⟩ = some (.slice t.A t.rows.length t.c) /\ X.cell? ⟨w.heap.size, 1, none⟩ = some (.int .i64 t.rest) /\ X.cell? ⟨w.heap.size, 2, none⟩ = some (.int .i64 t.day) from fun X hX =>
  ⟨(hX.cell (p := ⟨w.heap.size, 0, none⟩) (by simp; omega)).trans (by rw [hW0]; exact alloc_cell rfl), (hX.cell (p := ⟨w.heap.size, 1, none⟩) (by simp; omega)).trans (by rw [hW0]; exact alloc_cell rfl), (hX.cell (p := ⟨w.heap.size, 2, none⟩) (by simp; omega)).trans (by rw [hW0]; exact alloc_cell rfl)⟩)
 have HT := hI (fun (X : World) (hX : Below W0.heap.size W0 X) => show TIn X B t from ht.below ((HB0.out.mono hB).trans (hX.mono (by omega))))
 have HU := hI (fun (X : World) (hX : Below W0.heap.size W0 X) => show Below w.heap.size w X from HB0.out.trans (hX.mono (by omega)))
 have HW0 := hI hW0
 obtain ⟨q0, q1, q2⟩ := HQ0.out W0 (Below.refl _ _)
 clear hW0 ht
 have HC := hI (refCheckTable_any t B W0 (HT.out _ (Below.refl _ _)) (by omega))
 have HOt := hI (fun (X : World) (hX : Below W0.heap.size W0 X) => refOut_any t p m B X (HT.out X hX) (by have := hX.size; omega) hl)
 have HV := hI (show wayErr t p m = (if tblErr t ≠ 0 then tblErr t else if isTm p && isTm m then (match cntRow t p m with | some _ => 0 | none => 7) else 1) from rfl)
 have HVV := hI (show wayV t p m = if wayErr t p m = 0 then outOf t p m else 0 from rfl)
 have HOO := hI (show outOf t p m = (match cntRow t p m with | some r => r.out | none => -1) from rfl)
 have HPo := hI (fun h r hr => out_pos (t := t) (p := p) (m := m) (r := r) h hr)
 unfold tabV at HC HOt
 obtain ⟨te, hte⟩ : ∃ x, x = tblErr t := ⟨_, rfl⟩
 rw [<- hte] at HC HV HPo
 clear hte
 unfold tabV
 go_enter Tryz.func43, Tryz.ntmps43
 go_wp2_with (go_at_call 45; fail)
 rw [<- HW0.out]
 refine HC.out.mono ?_
 rintro e w1 ⟨rfl, hb1⟩
 have hs1 := hb1.size
 have Hb1 := hI hb1
 clear hb1 q0 q1 q2 HC
 obtain ⟨q0, q1, q2⟩ := HQ0.out w1 Hb1.out
 have HO1 := hI (HOt.out w1 Hb1.out)
 generalize hoo : outOf t p m = oo at HO1
 have HOo := hI hoo
 clear hoo
 cases h0 : (te == 0)
 ·have h0' : (te != 0) = true := by simp [bne, h0]
  have hne : te ≠ 0 := fun h => by rw [h] at h0; cases h0
  have HE := hI (show wayErr t p m = te by rw [HV.out, if_pos hne])
  have HE2 := hI (show wayV t p m = 0 by rw [HVV.out, HE.out, if_neg hne])
  clear hne
  go_wp2_with (go_at_call 105; refine HO1.out.mono ?_; rintro e w2 ⟨rfl, hb2⟩; have Hb2 := hI (Hb1.out.trans (hb2.mono (by omega))); clear hb2)
  refine bodyPost_ret (v := .tuple #[.int .i64 0, .int .i64 te]) (by simp [results, Tryz.results43, go_sem]) rfl ?_
  exact ⟨by rw [HE.out, HE2.out], HU.out _ Hb2.out⟩
 have h0' : (te != 0) = false := by simp [bne, h0]
 have Hte := hI (show te = 0 from eq_of_beq h0)
 cases h1 : isTm p
 ·have HE := hI (show wayErr t p m = 1 by rw [HV.out, if_neg (by rw [Hte.out]; decide), h1]; rfl)
  have HE2 := hI (show wayV t p m = 0 by rw [HVV.out, HE.out]; rfl)
  go_wp2_with (first | (go_at_call 77; refine (timed_any _ _).mono ?_; rintro e w' ⟨rfl, rfl⟩) | (go_at_call 105; refine HO1.out.mono ?_; rintro e w2 ⟨rfl, hb2⟩; have Hb2 := hI (Hb1.out.trans (hb2.mono (by omega))); clear hb2))
  refine bodyPost_ret (v := .tuple #[.int .i64 0, .int .i64 1]) (by simp [results, Tryz.results43, go_sem]) rfl ?_
  exact ⟨by rw [HE.out, HE2.out], HU.out _ Hb2.out⟩
 cases h2 : isTm m
 ·have HE := hI (show wayErr t p m = 1 by rw [HV.out, if_neg (by rw [Hte.out]; decide), h1, h2]; rfl)
  have HE2 := hI (show wayV t p m = 0 by rw [HVV.out, HE.out]; rfl)
  go_wp2_with (first | (go_at_call 77; refine (timed_any _ _).mono ?_; rintro e w' ⟨rfl, rfl⟩) | (go_at_call 105; refine HO1.out.mono ?_; rintro e w2 ⟨rfl, hb2⟩; have Hb2 := hI (Hb1.out.trans (hb2.mono (by omega))); clear hb2))
  refine bodyPost_ret (v := .tuple #[.int .i64 0, .int .i64 1]) (by simp [results, Tryz.results43, go_sem]) rfl ?_
  exact ⟨by rw [HE.out, HE2.out], HU.out _ Hb2.out⟩
 have HV2 := hI (show wayErr t p m = (match cntRow t p m with | some _ => 0 | none => 7) by rw [HV.out, if_neg (by rw [Hte.out]; decide), h1, h2]; rfl)
 have HP2 := hI (HPo.out Hte.out)
 generalize cntRow t p m = cr at HV2 HOO HP2
 cases cr with
 | none =>
  have HE2 := hI (show wayV t p m = 0 by rw [HVV.out, HV2.out]; rfl)
  have Hoo := hI (show oo = -1 by rw [<- HOo.out, HOO.out])
  have hneg : oo < 0 := by rw [Hoo.out]; decide
  go_wp2_with (first | (go_at_call 77; refine (timed_any _ _).mono ?_; rintro e w' ⟨rfl, rfl⟩) | (go_at_call 105; refine HO1.out.mono ?_; rintro e w2 ⟨rfl, hb2⟩; have Hb2 := hI (Hb1.out.trans (hb2.mono (by omega))); clear hb2))
  refine bodyPost_ret (v := .tuple #[.int .i64 0, .int .i64 7]) (by simp [results, Tryz.results43, go_sem]) rfl ?_
  exact ⟨by rw [HV2.out, HE2.out], HU.out _ Hb2.out⟩
 | some r =>
  have HE2 := hI (show wayV t p m = oo by rw [HVV.out, HV2.out, if_pos rfl]; exact HOo.out)
  have Hoo := hI (show oo = r.out by rw [<- HOo.out, HOO.out])
  have hpos : ¬ oo < 0 := by rw [Hoo.out]; have := (HP2.out r rfl).1; omega
  go_wp2_with (first | (go_at_call 77; refine (timed_any _ _).mono ?_; rintro e w' ⟨rfl, rfl⟩) | (go_at_call 105; refine HO1.out.mono ?_; rintro e w2 ⟨rfl, hb2⟩; have Hb2 := hI (Hb1.out.trans (hb2.mono (by omega))); clear hb2))
  refine bodyPost_ret (v := .tuple #[.int .i64 oo, .int .i64 0]) (by simp [results, Tryz.results43, go_sem]) rfl ?_
  exact ⟨by rw [HV2.out, HE2.out], HU.out _ Hb2.out⟩
end Go.Proofs.YtjpgnfekbojcaaaGreat
namespace W7
open Go Go.RowKit
section round
variable {P : Program} {l n : Nat}
end round
def onlyN (K : Act -> World -> Prop) : Exit -> Act -> World -> Prop
 | .normal, a, w => K a w
 | _, _, _ => False
theorem onlyN_out {K : Act -> World -> Prop} : ¬ LetsOut (onlyN K) := fun ⟨_, _, h⟩ => h
def cntL : Nat -> (Nat -> Bool) -> Nat
 | 0, _ => 0
 | n + 1, L => cntL n L + if L n then 0 else 1
theorem cntL_false : ∀ n, cntL n (fun _ => false) = n
 | 0 => rfl
 | n + 1 => by simp [cntL, cntL_false n]
theorem cntL_same {L : Nat -> Bool} {i : Nat} : ∀ n, n <= i -> cntL n (fun j => j == i || L j) = cntL n L
 | 0, _ => rfl
 | n + 1, h => by
  have : (n == i) = false := by simp; omega
  have h2 := cntL_same (L := L) (i := i) n (by omega)
  simp only [cntL, h2, this, Bool.false_or]
theorem cntL_set {L : Nat -> Bool} {i : Nat} (hL : L i = false) : ∀ n, i < n -> cntL n (fun j => j == i || L j) + 1 = cntL n L
 | 0, h => absurd h (by omega)
 | n + 1, h => by
  by_cases hi : i = n
  ·subst hi; simp [cntL, hL, cntL_same]
  ·have : (n == i) = false := by simp; omega
   have := cntL_set hL n (by omega)
   simp only [cntL, ‹(n == i) = false›, Bool.false_or]; omega
theorem cntL_zero {L : Nat -> Bool} : ∀ n, cntL n L = 0 -> ∀ j, j < n -> L j = true
 | 0, _, _, h => absurd h (by omega)
 | n + 1, h, j, hj => by
  simp only [cntL] at h
  by_cases hjn : j = n
  ·subst hjn; cases hL : L j <;> simp [hL] at h ⊢
  ·exact cntL_zero n (by omega) j (by omega)
theorem cntL_pos {L : Nat -> Bool} : ∀ n, 0 < cntL n L -> ∃ i, i < n /\ L i = false /\ ∀ j, j < i -> L j = true
 | 0, h => absurd h (by simp [cntL])
 | n + 1, h => by
  by_cases h0 : 0 < cntL n L
  ·obtain ⟨i, h1, h2, h3⟩ := cntL_pos n h0; exact ⟨i, by omega, h2, h3⟩
  ·have h1 := cntL_zero (L := L) n (by omega)
   simp only [cntL] at h
   cases hL : L n
   ·exact ⟨n, by omega, hL, h1⟩
   ·simp [hL] at h; omega
def backB (ops : List Oper) : Bool := (List.range ops.length).all fun i => match ops[i]? with | none => true | some o => o.after.all fun e => !Region.binds .any e || decide (e.on < i)
section inv
variable {P : Program} {ops : Array Oper} {md : Region.Mode}
theorem oper_onlyN {o : Oper} {a : Act} {w : World} {K : Act -> World -> Prop} {Q : Exit -> Act -> World -> Prop} (h : o.wp P a w K (onlyN K)) : o.wp P a w K Q := by
 unfold Oper.wp at h ⊢
 generalize (execOp a.eval o).run P w = r at h ⊢
 cases r with
 | ok x w' =>
  cases x with
  | enter f args => exact Calls.mono h fun e w2 he => by cases e <;> first | exact he | exact (onlyN_out he).elim | exact he.elim
  | _ => exact h
 | halt x w' => cases x <;> first | exact h | exact h.elim
theorem wpOp_of_list {i : Nat} {o : Oper} {a : Act} {w : World} {K : Act -> World -> Prop} {Q : Exit -> Act -> World -> Prop} (ho : ops[i]? = some o) (h : wpList P ops (onlyN K) [o] a w) : wpOp P ops Q i K a w := by
 unfold wpOp
 simp only [ho]
 unfold wpList at h
 split
 ·rename_i hw
  simp only [hw, if_true] at h
  rcases h with h | h
  ·exact .inl (oper_onlyN h)
  ·exact (onlyN_out h.2).elim
 ·rename_i hw
  simp only [hw] at h
  exact h
theorem wpAny_inv {n g : Nat} {fin : Array Bool} {Inv : (Nat -> Bool) -> Act -> World -> Prop} {Q' : Exit -> Act -> World -> Prop} (hs : Region.sinkB md ops n = true) (hc : Region.chainB md ops n = true) (hn : n < ops.size)
  (hback : ∀ (i : Nat) (o : Oper), ops[i]? = some o -> ∀ e ∈ o.after, Region.binds md e = true -> e.on < i) (hfin : fin.size = ops.size) (hfin1 : ∀ j, fin[j]? = if j < ops.size then some (decide (j < n)) else none)
  (hstep : ∀ (L : Nat -> Bool) a w i o, i < n -> ops[i]? = some o -> L i = false -> (∀ e ∈ o.after, Region.binds md e = true -> L e.on = true) -> Inv L a w -> wpList P ops (onlyN fun a' w' => Inv (fun j => j == i || L j) a' w') [o] a w)
  (htail : ∀ (L : Nat -> Bool) a w, (∀ j, j < n -> L j = true) -> Inv L a w -> wpAny P md ops Q' g fin a w) :
  ∀ (f : Nat) (listed : Array Bool) (a : Act) (w : World), HeadInv md ops n listed -> cntL n (fun j => listed.getD j false) = f -> Inv (fun j => listed.getD j false) a w -> wpAny P md ops Q' (f + g) listed a w
 | 0, listed, a, w, inv, hcnt, hI => by
  have h1 := cntL_zero n hcnt
  have : listed = fin := by
   apply Array.ext
   ·rw [inv.size, hfin]
   ·intro j hj hj'
    have h2 := hfin1 j
    rw [Array.getElem?_eq_getElem hj', if_pos (by rw [<- hfin]; exact hj')] at h2
    rw [Option.some.inj h2]
    by_cases hjn : j < n
    ·have := h1 j hjn
     simp only [Array.getD, hj, dite_true] at this
     rw [decide_eq_true hjn]; exact this
    ·have := inv.tail j (by omega) (by rw [<- inv.size]; exact hj)
     simp only [Array.getD, hj, dite_true] at this
     rw [decide_eq_false hjn]; exact this
  rw [Nat.zero_add, this]; rw [this] at hI; exact htail _ a w (by rw [<- this]; exact h1) hI
 | f + 1, listed, a, w, inv, hcnt, hI => by
  obtain ⟨i0, hi0, hL0, hlow⟩ := cntL_pos n (by rw [hcnt]; omega)
  have hin0 : i0 < listed.size := by rw [inv.size]; omega
  have hun0 : listed.getD i0 true = false := by simp only [Array.getD, hin0, dite_true] at hL0 ⊢; exact hL0
  rw [show f + 1 + g = (f + g) + 1 by omega]
  refine ⟨fun h0 => absurd (mem_ready.2 ⟨hun0, ops[i0]'(by omega), Array.getElem?_eq_getElem (by omega), fun e he hbd => hlow _ (hback i0 _ (Array.getElem?_eq_getElem (by omega)) e he hbd)⟩) (by rw [h0]; simp), fun i hi => ?_⟩
  have hin : i < n := by
   rcases Nat.lt_or_ge i n with h | h
   ·exact h
   ·exact absurd hi (tail_waits hs hc hn inv _ i0 rfl hi0 hun0 i h)
  obtain ⟨hun, o, ho, hall⟩ := mem_ready.1 hi
  have hsz : i < listed.size := by rw [inv.size]; omega
  have hLi : listed.getD i false = false := by simp only [Array.getD, hsz, dite_true] at hun ⊢; exact hun
  have e : (fun j => (listed.setIfInBounds i true).getD j false) = fun j => j == i || listed.getD j false := by
   funext j
   by_cases hj : j = i
   ·subst hj; simp [Array.getD, hsz]
   ·simp only [Array.getD, Array.size_setIfInBounds]
    by_cases hjs : j < listed.size
    ·simp [hjs, hj, Ne.symm hj]
    ·simp [hjs, hj]
  refine wpOp_mono (fun a' w' h => wpAny_inv hs hc hn hback hfin hfin1 hstep htail f _ a' w' (inv.set hi hin) ?_ ?_) (wpOp_of_list ho (hstep _ a w i o hin ho hLi hall hI))
  ·rw [e]; have := cntL_set (L := fun j => listed.getD j false) hLi n hin; omega
  ·rw [e]; exact h
theorem backB_spec {l : List Oper} (h : backB l = true) : ∀ (i : Nat) (o : Oper), l.toArray[i]? = some o -> ∀ e ∈ o.after, Region.binds .any e = true -> e.on < i := fun i o ho e he hbd => by
 have hi : i < l.length := by
  rcases Nat.lt_or_ge i l.length with h1 | h1
  ·exact h1
  ·rw [Array.getElem?_eq_none (by simpa using h1)] at ho; cases ho
 have := List.all_eq_true.1 h i (List.mem_range.2 hi)
 simp only [List.getElem?_toArray] at ho
 rw [ho] at this
 have h2 := Array.all_eq_true'.1 this e he
 simpa [hbd] using h2
theorem wpAny_region_inv {Q : Exit -> Act -> World -> Prop} {a : Act} {w : World} {l : List Oper} (n : Nat) (Inv : (Nat -> Bool) -> Act -> World -> Prop) (hs : Region.sinkB .any l.toArray n = true) (hc : Region.chainB .any l.toArray n = true) (hb : backB l = true) (hn : n < l.toArray.size)
  (hseq : Region.seqB .any l.toArray (l.drop n).length n ((List.range l.length).map (fun j => decide (j < n))).toArray = true)
  (h0 : Inv (fun _ => false) a { w with drawn := w.drawn + 1 })
  (hstep : ∀ (L : Nat -> Bool) a w i o, i < n -> l[i]? = some o -> L i = false -> (∀ e ∈ o.after, Region.binds .any e = true -> L e.on = true) -> Inv L a w -> wpList P l.toArray (onlyN fun a' w' => Inv (fun j => j == i || L j) a' w') [o] a w)
  (htail : ∀ (L : Nat -> Bool) a w, (∀ j, j < n -> L j = true) -> Inv L a w -> wpList P l.toArray Q (l.drop n) a w) : wpAny P .any l.toArray Q l.toArray.size (Array.replicate l.toArray.size false) a { w with drawn := w.drawn + 1 } := by
 have inv0 : HeadInv .any l.toArray n (Array.replicate l.toArray.size false) :=
  ⟨by simp, fun j oj _ hl => (by rw [getD_replicate_false] at hl; cases hl), fun t _ ht => getD_in (by simpa using ht) (getD_replicate_false _ _)⟩
 have e0 : (fun j => (Array.replicate l.toArray.size false).getD j false) = fun _ => false := funext fun j => getD_replicate_false _ _
 have h := wpAny_inv (P := P) (ops := l.toArray) (md := .any) (n := n) (g := (l.drop n).length) (Inv := Inv) (Q' := Q) (fin := ((List.range l.length).map (fun j => decide (j < n))).toArray) hs hc hn (backB_spec hb)
  (by simp) (fun j => by simp only [List.getElem?_toArray, List.getElem?_map, List.size_toArray]; split <;> rename_i h1 <;> simp [h1])
  (fun L a w i o hi ho => hstep L a w i o hi (by simpa using ho))
  (fun L a w hL hI => wpAny_of_seq (l.drop n) n _ a w (fun j => by simp) hseq (htail _ a w hL hI)) n (Array.replicate l.toArray.size false) a { w with drawn := w.drawn + 1 } inv0
  (by rw [e0]; exact cntL_false n) (by rw [e0]; exact h0)
 have hlen : n + (l.drop n).length = l.toArray.size := by have := hn; simp at this ⊢; omega
 rwa [hlen] at h
theorem wp_region_inv {id : Nat} {Q : Exit -> Act -> World -> Prop} {a : Act} {w : World} {l : List Oper} (n : Nat) (Inv : (Nat -> Bool) -> Act -> World -> Prop) (hm : P.follows .mixedOrders = true)
  (hs : Region.sinkB .any l.toArray n = true) (hc : Region.chainB .any l.toArray n = true) (hb : backB l = true) (hn : n < l.toArray.size)
  (hseq : Region.seqB .any l.toArray (l.drop n).length n ((List.range l.length).map (fun j => decide (j < n))).toArray = true)
  (h0 : Inv (fun _ => false) a { w with drawn := w.drawn + 1 })
  (hstep : ∀ (L : Nat -> Bool) a w i o, i < n -> l[i]? = some o -> L i = false -> (∀ e ∈ o.after, Region.binds .any e = true -> L e.on = true) -> Inv L a w -> wpList P l.toArray (onlyN fun a' w' => Inv (fun j => j == i || L j) a' w') [o] a w)
  (htail : ∀ (L : Nat -> Bool) a w, (∀ j, j < n -> L j = true) -> Inv L a w -> wpList P l.toArray Q (l.drop n) a w) : (Code.region id l.toArray true).wp P Q a w :=
 wp_region_any hm (wpAny_region_inv n Inv hs hc hb hn hseq h0 hstep htail)
end inv
def SeqR {α : Type} (P : Program) (g : Nat) (lb : Array Value) (encs : α -> Array Value) (R : α -> World -> Prop) (Kp : World -> World -> Prop) (S Sp : List α -> Prop) (N : Nat) (w : World) : Prop :=
 ∀ (l : Nat) (J Jx : List α -> World -> Prop) (W : World), Below w.heap.size w W →
  (∀ s A B, J s A -> Below A.heap.size A B -> J s B) -> (∀ s A B, Jx s A -> Below A.heap.size A B -> Jx s B) →
  (∀ m pre x W1, J pre W1 -> pre.length < N -> R x W1 -> YieldAt Fence.wide m P l (encs x) W1 fun e W' =>
   (e = .returned (.bool true) /\ J (pre ++ [x]) W' /\ Kp W1 W') \/ (e = .returned (.bool false) /\ Jx (pre ++ [x]) W')) →
  J [] W →
  Calls P g (#[.func (.yield l) #[] #[]] ++ lb) W fun e W' => (∃ v, e = .returned v) /\ ((∃ xs, S xs /\ J xs W') \/ (∃ pre, Sp pre /\ Jx pre W'))
theorem OwnFrom.later {β : Type} {B : Nat} {I : β -> World -> Prop} (h : OwnFrom B I) {s : β} {A C : World} (hs : I s A) (hb : Below A.heap.size A C) : I s C :=
 h s A C none hs ⟨hb.os, hb.tape, hb.output, hb.size, fun i hi _ => hb.block i hi⟩ (fun _ e => by cases e)
theorem wide_depth {n : Nat} : Fence.wide.depth.isSome = true -> 1 <= n := fun h => by cases h
theorem wpIn_rangeFunc_R {P : Program} {n : Nat} {α : Type} {g : Operand} {ps : Array Tmp} {assign body : Code} {Q : Exit -> Act -> World -> Prop} {a : Act} {w : World}
  {gf : Nat} {lb : Array Value} (hg : a.eval g = .func (.func gf) #[] lb) (eg : ∀ args w, (callFunc gf args).run P w = .ok (.enter gf args) w)
  {encs : α -> Array Value} {R : α -> World -> Prop} {Kp : World -> World -> Prop} {S Sp : List α -> Prop} {N : Nat} {w0 : World} (hseq : SeqR P gf lb encs R Kp S Sp N w0)
  (hKt : ∀ {A B C : World}, Kp A B -> Kp B C -> Kp A C) (hKb : ∀ (W : World) (l : Nat) (o o' : Obj), w.heap.size <= l -> W.heap[l]? = some o -> o.isCells = false -> Kp W (W.putObj l o'))
  (hRb : ∀ (x : α) (W : World) (l : Nat) (o o' : Obj), w.heap.size <= l -> W.heap[l]? = some o -> o.isCells = false -> R x W -> R x (W.putObj l o'))
  (hb0 : Below w0.heap.size w0 w) (hps : ∀ x, (encs x).size = ps.size)
  (I : List α -> World -> Prop) (Ix : Code -> List α -> World -> Prop) (hI : OwnFrom w.heap.size I) (hIx : ∀ c, OwnFrom w.heap.size (Ix c)) (h0 : I [] w) (a₁ : α -> Act)
  (hassign : ∀ (l m : Nat) (x : α) (W : World) (K : Act -> World -> Prop), K (a₁ x) W →
   assign.wpIn (Fence.wide.inRound l) m P (Exit.then K (fun _ _ _ => False)) { tmps := (ps.zip (encs x)).foldl (fun t (p, v) => t.setIfInBounds p v) a.tmps, defers := [] } W)
  (hbody : ∀ (l m : Nat) (pre : List α) (x : α) (W : World), I pre W -> pre.length < N -> R x W -> body.wpIn (Fence.wide.inRound l) m P (ownPostK Kp I Ix (pre ++ [x]) W) (a₁ x) W)
  (hdone : ∀ (D : Nat) (xs : List α) (W : World), w.heap.size <= D -> S xs -> I xs W -> W.heap[D]? = some (.deferred (some [])) -> Q .normal { a with defers := { target := .collected D, args := #[] } :: a.defers } W)
  (hstop : ∀ (D : Nat) (c : Code) (pre : List α) (W : World), w.heap.size <= D -> Sp pre -> Ix c pre W -> W.heap[D]? = some (.deferred (some [])) -> c.wpIn Fence.wide n P Q { a with defers := { target := .collected D, args := #[] } :: a.defers } W) :
  (Code.rangeFunc g ps assign body).wpIn Fence.wide n P Q a w := by
 refine wpIn_rangeFunc fun fn _ => ?_
 obtain ⟨rec, hrec⟩ : ∃ rec : LoopState -> Option Code -> Loop, rec = fun st pe => { state := st, pending := pe, fn, tmps := a.tmps, params := ps, assign, body, defers := w.heap.size } := ⟨_, rfl⟩
 obtain ⟨W1, hW1⟩ : ∃ W1, (w.alloc (.deferred (some []))).alloc (.loop (rec .ready none)) = W1 := ⟨_, rfl⟩
 have hL1 : W1.heap[w.heap.size + 1]? = some (.loop (rec .ready none)) := by
  rw [<- hW1]; have := World.alloc_heap_new (w.alloc (.deferred (some []))) (.loop (rec .ready none)); rwa [World.size_alloc] at this
 have hK1 : W1.heap[w.heap.size]? = some (.deferred (some [])) := by
  rw [<- hW1]; exact (Below.heap_alloc _ _ _ (by simp)).trans (World.alloc_heap_new w _)
 have hI1 : I [] W1 := by rw [<- hW1]; exact hI.alloc _ (hI.alloc _ h0)
 have hb1 : Below w0.heap.size w0 W1 := by
  rw [<- hW1]; exact hb0.trans ((((Below.refl _ w).alloc (Nat.le_refl _) _).alloc (by simp) _).mono hb0.size)
 have same : ∀ {A C : World} {k : Nat} {o : Obj}, Below A.heap.size A C -> A.heap[k]? = some o -> C.heap[k]? = some o := fun hb h => (hb.block _ (Array.getElem?_eq_some_iff.1 h).1).trans h
 refine ⟨w.heap.size + 1, [{ target := .collected w.heap.size, args := #[] }], W1, { target := .fn (.func gf) lb, args := #[.func (.yield (w.heap.size + 1)) #[] #[]] }, W1, gf,
  #[.func (.yield (w.heap.size + 1)) #[] #[]] ++ lb, W1, ?_, ?_, ?_, ?_, wide_depth, callsIn_wide.2 ?_⟩
 ·rw [<- hW1, hrec]; exact run_enterLoop_outer _ _ _ _ _
 ·simp only [resolve, hg]
  simp [go_sem]
 ·intro _ _; trivial
 ·simp [invoke, go_sem, eg]
 ·refine (hseq (w.heap.size + 1)
   (fun pre W => I pre W /\ W.heap[w.heap.size + 1]? = some (.loop (rec .ready none)) /\ W.heap[w.heap.size]? = some (.deferred (some [])))
   (fun pre W => ∃ c, Ix c pre W /\ W.heap[w.heap.size + 1]? = some (.loop (rec .done (some c))) /\ W.heap[w.heap.size]? = some (.deferred (some [])))
   W1 hb1
   (fun s A B hs hb => ⟨OwnFrom.later hI hs.1 hb, same hb hs.2.1, same hb hs.2.2⟩)
   (fun s A B ⟨c, hc, hl, hk⟩ hb => ⟨c, OwnFrom.later (hIx c) hc hb, same hb hl, same hb hk⟩)
   ?_ ⟨hI1, hL1, hK1⟩).mono ?_
  ·rintro m pre x W ⟨hi, hl, hk⟩ hlen hRx
   have hlt : w.heap.size + 1 < W.heap.size := (Array.getElem?_eq_some_iff.1 hl).1
   have hy := run_yield (P := P) (args := encs x) hl (by rw [hrec]; exact hps x)
   rw [hrec] at hy
   refine ⟨fn, _, assign, body, hy, roundIn_of_wpIn trivial (hassign _ _ x W _ ⟨_, run_beginRound hl (by rw [hrec]), ?_⟩)⟩
   have hl2 : (W.putObj (w.heap.size + 1) (.loop { rec .ready none with state := .busy })).heap[w.heap.size + 1]? = some (.loop { rec .ready none with state := .busy }) := World.putObj_heap_same hlt
   have hk2 : (W.putObj (w.heap.size + 1) (.loop { rec .ready none with state := .busy })).heap[w.heap.size]? = some (.deferred (some [])) := (World.putObj_heap_other (by omega)).trans hk
   have hw2 : Kp W (W.putObj (w.heap.size + 1) (.loop { rec .ready none with state := .busy })) := hKb _ _ _ _ (by omega) hl rfl
   refine wpIn_mono (hbody _ _ pre x _ (hI.putObj _ hi (by omega) hl rfl) hlen (hRb x W _ _ _ (by omega) hl rfl hRx)) ?_
   have fin : ∀ (jump : Option Code) (W3 : World), KeepsOthers (W.putObj (w.heap.size + 1) (.loop { rec .ready none with state := .busy })) W3 →
     (Instr.endRound (w.heap.size + 1) jump).run P W3 = .ok (.bool jump.isNone) (W3.putObj (w.heap.size + 1) (.loop (rec (if jump.isNone then .ready else .done) jump))) ∧
     W3.heap[w.heap.size + 1]? = some (.loop { rec .ready none with state := .busy }) ∧
     (W3.putObj (w.heap.size + 1) (.loop (rec (if jump.isNone then .ready else .done) jump))).heap[w.heap.size + 1]? = some (.loop (rec (if jump.isNone then .ready else .done) jump)) ∧
     (W3.putObj (w.heap.size + 1) (.loop (rec (if jump.isNone then .ready else .done) jump))).heap[w.heap.size]? = some (.deferred (some [])) := fun jump W3 hk3 => by
    have hl3 := hk3.same _ _ hl2 rfl
    have := run_endRound (P := P) jump hl3
    rw [hrec] at this ⊢
    exact ⟨this, by rw [hrec] at hl3; exact hl3, World.putObj_heap_same (Array.getElem?_eq_some_iff.1 hl3).1, (World.putObj_heap_other (by omega)).trans (hk3.same _ _ hk2 rfl)⟩
   rintro e a3 W3 hp
   cases e with
   | normal =>
    obtain ⟨hk3, hkp3, hi3⟩ := hp
    obtain ⟨hr, hl3, hl4, hk4⟩ := fin none W3 hk3
    exact ⟨_, _, hr, .inl ⟨rfl, ⟨hI.putObj _ hi3 (by omega) hl3 rfl, hl4, hk4⟩, hKt (hKt hw2 hkp3) (hKb _ _ _ _ (by omega) hl3 rfl)⟩⟩
   | ret =>
    obtain ⟨hk3, hi3⟩ := hp
    obtain ⟨hr, hl3, hl4, hk4⟩ := fin (some .ret) W3 hk3
    exact ⟨_, _, hr, .inr ⟨rfl, .ret, (hIx _).putObj _ hi3 (by omega) hl3 rfl, hl4, hk4⟩⟩
   | exit id =>
    obtain ⟨hk3, hi3⟩ := hp
    obtain ⟨hr, hl3, hl4, hk4⟩ := fin (some (.exit id)) W3 hk3
    exact ⟨_, _, hr, .inr ⟨rfl, .exit id, (hIx _).putObj _ hi3 (by omega) hl3 rfl, hl4, hk4⟩⟩
   | goto t =>
    obtain ⟨hk3, hi3⟩ := hp
    obtain ⟨hr, hl3, hl4, hk4⟩ := fin (some (.goto t)) W3 hk3
    exact ⟨_, _, hr, .inr ⟨rfl, .goto t, (hIx _).putObj _ hi3 (by omega) hl3 rfl, hl4, hk4⟩⟩
   | panic ch => exact hp.elim
   | outgrown => exact hp.elim
  ·rintro e W2 ⟨⟨v, rfl⟩, (⟨xs, hS, hi, hl, hk⟩ | ⟨pre, hSp, c, hi, hl, hk⟩)⟩
   ·exact ⟨none, _, by have := run_endLoop (P := P) hl (by rw [hrec]; simp); rw [hrec] at this; exact this, hdone _ xs _ (Nat.le_refl _) hS (hI.putObj _ hi (by omega) hl rfl) ((World.putObj_heap_other (by omega)).trans hk)⟩
   ·exact ⟨some c, _, by have := run_endLoop (P := P) hl (by rw [hrec]; simp); rw [hrec] at this; exact this, hstop _ c pre _ (Nat.le_refl _) hSp ((hIx c).putObj _ hi (by omega) hl rfl) ((World.putObj_heap_other (by omega)).trans hk)⟩
def DsOk (N : Nat) (Ds : List Nat) (W : World) : Prop := Ds.Nodup /\ ∀ D ∈ Ds, N <= D /\ W.heap[D]? = some (.deferred (some []))
theorem DsOk.below {Ds : List Nat} {N : Nat} {W W' : World} (h : DsOk N Ds W) (hb : Below W.heap.size W W') : DsOk N Ds W' :=
 ⟨h.1, fun D hD => ⟨(h.2 D hD).1, (hb.block D (Array.getElem?_eq_some_iff.1 (h.2 D hD).2).1).trans (h.2 D hD).2⟩⟩
theorem DsOk.cons {Ds : List Nat} {N B D : Nat} {W W' : World} (h : DsOk N Ds W) (hb : Below B W W') (hW : W.heap.size <= B) (hD : W.heap.size <= D) (hN : N <= W.heap.size) (hk : W'.heap[D]? = some (.deferred (some []))) : DsOk N (D :: Ds) W' := by
 refine ⟨List.nodup_cons.2 ⟨fun hm => ?_, h.1⟩, fun D' hD' => ?_⟩
 ·have := (Array.getElem?_eq_some_iff.1 (h.2 D hm).2).1; omega
 ·rcases List.mem_cons.1 hD' with rfl | hm
  ·exact ⟨by omega, hk⟩
  ·have := (Array.getElem?_eq_some_iff.1 (h.2 D' hm).2).1
   exact ⟨(h.2 D' hm).1, (hb.block D' (by omega)).trans (h.2 D' hm).2⟩
def Sep (a b : Value) : Prop := ∀ k, a.ownBlock = some k -> b.ownBlock ≠ some k
theorem own_other {w w' : World} {base e size n : Nat} {a b : Value} {xs : List Value} (h : w.ownsRow base e size b n xs) (hg : w.grownBy w' a.ownBlock) (hs : Sep a b) : w'.ownsRow base e size b n xs :=
 h.kept hg (by
  cases hb : b.ownBlock with
  | none => exact .inl rfl
  | some k => exact .inr fun e => hs k e.symm hb)
theorem Sep.symm {a b : Value} (h : Sep a b) : Sep b a := fun k h1 h2 => h k h2 h1
theorem Sep.grow {w : World} {base e size n : Nat} {a a' b : Value} {xs : List Value} (h : Sep a b) (hb : w.ownsRow base e size b n xs) (ha : a'.ownBlock = a.ownBlock \/ ∃ k, a'.ownBlock = some k /\ w.heap.size <= k) : Sep a' b := by
 intro k h1 h2
 rcases ha with h3 | ⟨k', h3, h4⟩
 ·exact h k (h3 ▸ h1) h2
 ·rw [h3] at h1; cases h1
  rcases hb.2 with ⟨rfl, _⟩ | ⟨g, cap, cur, rfl, _, hc, _⟩
  ·simp [Value.ownBlock] at h2
  ·simp [Value.ownBlock] at h2
   subst h2
   have := (Array.getElem?_eq_some_iff.1 hc).1; omega
section
variable {P : Program} {ops : Array Oper} {md : Region.Mode}
theorem wpAny_allK {Inv : (Nat -> Bool) -> Act -> World -> Prop} {Q : Exit -> Act -> World -> Prop}
  (hback : ∀ (i : Nat) (o : Oper), ops[i]? = some o -> ∀ e ∈ o.after, Region.binds md e = true -> e.on < i)
  (hstep : ∀ (L : Nat -> Bool) a w i o, ops[i]? = some o -> L i = false -> (∀ e ∈ o.after, Region.binds md e = true -> L e.on = true) -> Inv L a w -> ∃ K : Act -> World -> Prop, (∀ a' w', K a' w' -> Inv (fun j => j == i || L j) a' w') /\ wpList P ops (onlyN K) [o] a w)
  (hfin : ∀ (L : Nat -> Bool) a w, (∀ j, j < ops.size -> L j = true) -> Inv L a w -> Q .normal a w) :
  ∀ (f : Nat) (listed : Array Bool) (a : Act) (w : World), listed.size = ops.size -> cntL ops.size (fun j => listed.getD j false) = f -> Inv (fun j => listed.getD j false) a w -> wpAny P md ops Q f listed a w
 | 0, listed, a, w, hsz, hcnt, hI => by
  have h1 := cntL_zero ops.size hcnt
  refine ⟨List.eq_nil_iff_forall_not_mem.2 fun i hi => ?_, hfin _ a w h1 hI⟩
  obtain ⟨hun, o, ho, _⟩ := mem_ready.1 hi
  have hlt : i < ops.size := (Array.getElem?_eq_some_iff.1 ho).1
  have h2 := h1 i hlt
  have hl : i < listed.size := by omega
  simp only [Array.getD, hl, dite_true] at hun h2
  rw [hun] at h2
  cases h2
 | f + 1, listed, a, w, hsz, hcnt, hI => by
  obtain ⟨i0, hi0, hL0, hlow⟩ := cntL_pos ops.size (by rw [hcnt]; omega)
  have hin0 : i0 < listed.size := by omega
  have hun0 : listed.getD i0 true = false := by simp only [Array.getD, hin0, dite_true] at hL0 ⊢; exact hL0
  refine ⟨fun h0 => absurd (mem_ready.2 ⟨hun0, ops[i0]'(by omega), Array.getElem?_eq_getElem (by omega), fun e he hbd => hlow _ (hback i0 _ (Array.getElem?_eq_getElem (by omega)) e he hbd)⟩) (by rw [h0]; simp), fun i hi => ?_⟩
  obtain ⟨hun, o, ho, hall⟩ := mem_ready.1 hi
  have hin : i < ops.size := (Array.getElem?_eq_some_iff.1 ho).1
  have hszi : i < listed.size := by omega
  have hLi : listed.getD i false = false := by simp only [Array.getD, hszi, dite_true] at hun ⊢; exact hun
  have e : (fun j => (listed.setIfInBounds i true).getD j false) = fun j => j == i || listed.getD j false := by
   funext j
   by_cases hj : j = i
   ·subst hj; simp [Array.getD, hszi]
   ·simp only [Array.getD, Array.size_setIfInBounds]
    by_cases hjs : j < listed.size
    ·simp [hjs, hj, Ne.symm hj]
    ·simp [hjs, hj]
  obtain ⟨K, hK, hwp⟩ := hstep _ a w i o ho hLi hall hI
  refine wpOp_mono (fun a' w' h => wpAny_allK hback hstep hfin f _ a' w' (by rw [Array.size_setIfInBounds]; exact hsz) ?_ ?_) (wpOp_of_list ho hwp)
  ·rw [e]; have := cntL_set (L := fun j => listed.getD j false) hLi ops.size hin; omega
  ·rw [e]; exact hK _ _ h
theorem wp_region_allK {id : Nat} {Q : Exit -> Act -> World -> Prop} {a : Act} {w : World} {l : List Oper} (Inv : (Nat -> Bool) -> Act -> World -> Prop) (hm : P.follows .mixedOrders = true) (hb : backB l = true)
  (h0 : Inv (fun _ => false) a { w with drawn := w.drawn + 1 })
  (hstep : ∀ (L : Nat -> Bool) a w i o, i < l.length -> l[i]? = some o -> L i = false -> (∀ e ∈ o.after, Region.binds .any e = true -> L e.on = true) -> Inv L a w -> ∃ K : Act -> World -> Prop, (∀ a' w', K a' w' -> Inv (fun j => j == i || L j) a' w') /\ wpList P l.toArray (onlyN K) [o] a w)
  (hfin : ∀ (L : Nat -> Bool) a w, (∀ j, j < l.length -> L j = true) -> Inv L a w -> wpList P l.toArray Q [] a w) : (Code.region id l.toArray true).wp P Q a w := by
 refine wp_region_any hm ?_
 have e0 : (fun j => (Array.replicate l.toArray.size false).getD j false) = fun _ => false := funext fun j => getD_replicate_false _ _
 refine wpAny_allK (Inv := Inv) (backB_spec hb) (fun L a w i o ho => hstep L a w i o ?_ (by simpa using ho)) (fun L a w hL => hfin L a w (fun j hj => hL j (by simpa using hj))) _ _ _ _ (by simp) ?_ ?_
 ·have := (Array.getElem?_eq_some_iff.1 ho).1
  simpa using this
 ·rw [e0]; exact cntL_false _
 ·rw [e0]; exact h0
theorem wp_region_all {id : Nat} {Q : Exit -> Act -> World -> Prop} {a : Act} {w : World} {l : List Oper} (Inv : (Nat -> Bool) -> Act -> World -> Prop) (hm : P.follows .mixedOrders = true) (hb : backB l = true)
  (h0 : Inv (fun _ => false) a { w with drawn := w.drawn + 1 })
  (hstep : ∀ (L : Nat -> Bool) a w i o, i < l.length -> l[i]? = some o -> L i = false -> (∀ e ∈ o.after, Region.binds .any e = true -> L e.on = true) -> Inv L a w -> wpList P l.toArray (onlyN fun a' w' => Inv (fun j => j == i || L j) a' w') [o] a w)
  (hfin : ∀ (L : Nat -> Bool) a w, (∀ j, j < l.length -> L j = true) -> Inv L a w -> wpList P l.toArray Q [] a w) : (Code.region id l.toArray true).wp P Q a w :=
 wp_region_allK Inv hm hb h0 (fun L a w i o hi ho hL haf hI => ⟨_, fun _ _ h => h, hstep L a w i o hi ho hL haf hI⟩) hfin
end
end W7
