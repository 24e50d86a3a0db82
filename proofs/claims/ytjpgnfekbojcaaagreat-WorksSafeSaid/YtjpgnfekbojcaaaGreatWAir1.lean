/-
  Air tables: package works' CheckTable, counts, WayOut and the specification's: their errors, the row that counts, the way out. Conditions: how the table lies in memory. And its layer.
-/
import Derived.Test.YtjpgnfekbojcaaaGreatBase
set_option maxHeartbeats 2000000
set_option maxRecDepth 100000
namespace Go.Proofs.YtjpgnfekbojcaaaGreat
open Go.RowKit W7 W8
attribute [local go_sem] Oper.semAt_some
def encRow (r : AirRow) : List Value := [.int .i64 r.pr, .int .i64 r.mi, .int .i64 r.out]
def tabV (t : Table) : Value := .agg #[.slice t.A t.rows.length t.c, .int .i64 t.rest, .int .i64 t.day]
structure TIn (w : World) (B : Nat) (t : Table) : Prop where
 sl : Sl w B 3 encRow t.A t.rows
 lc : t.rows.length <= t.c
 c2 : t.c <= 9223372036854775807
theorem TIn.below {w w' : World} {B : Nat} {t : Table} (h : TIn w B t) (hb : Below B w w') : TIn w' B t := ⟨h.sl.below hb, h.lc, h.c2⟩
theorem TIn.mono {w : World} {B B' : Nat} {t : Table} (h : TIn w B t) (hB : B <= B') : TIn w B' t := ⟨h.sl.mono hB, h.lc, h.c2⟩
theorem CheckTable_any (t : Table) (B : Nat) (w : World) (ht : TIn w B t) (hB : B <= w.heap.size) :
  Calls Tryz.prog 44 #[tabV t] w fun e w' => e = .returned (.int .i64 (tblErr t)) /\ Below w.heap.size w w' := by
 obtain ⟨QQ, hQQ⟩ : ∃ QQ, t.A = QQ := ⟨_, rfl⟩
 obtain ⟨n, hn⟩ : ∃ n, t.rows.length = n := ⟨_, rfl⟩
 unfold tabV
 have hlc := ht.lc
 have hc2 := ht.c2
 have hsl := ht.sl
 rw [hQQ] at hsl ⊢
 rw [hn] at hlc ⊢
 obtain ⟨W0, hW0⟩ : ∃ W0, W0 = w.alloc (.cells #[.slice QQ n t.c, .int .i64 t.rest, .int .i64 t.day] 74) := ⟨_, rfl⟩
 have hs0 : W0.heap.size = w.heap.size + 1 := by rw [hW0]; simp
 have HB0 := hI (show Below w.heap.size w W0 by rw [hW0]; exact (Below.refl _ _).alloc (Nat.le_refl _) _)
 have HQ0 := hI (show ∀ (X : World), Below W0.heap.size W0 X -> X.cell? ⟨w.heap.size, 0, none⟩ = some (.slice QQ n t.c) /\ X.cell? ⟨w.heap.size, 1, none⟩ = some (.int .i64 t.rest) /\ X.cell? ⟨w.heap.size, 2, none⟩ = some (.int .i64 t.day) from fun X hX =>
  ⟨(hX.cell (p := ⟨w.heap.size, 0, none⟩) (by simp; omega)).trans (by rw [hW0]; exact alloc_cell rfl), (hX.cell (p := ⟨w.heap.size, 1, none⟩) (by simp; omega)).trans (by rw [hW0]; exact alloc_cell rfl), (hX.cell (p := ⟨w.heap.size, 2, none⟩) (by simp; omega)).trans (by rw [hW0]; exact alloc_cell rfl)⟩)
 have HR := hI (fun (X : World) (hX : Below W0.heap.size W0 X) => show Sl X B 3 encRow QQ t.rows from hsl.below ((HB0.out.mono hB).trans (hX.mono (by omega))))
 have HU := hI (fun (X : World) (hX : Below W0.heap.size W0 X) => show Below w.heap.size w X from HB0.out.trans (hX.mono (by omega)))
 have HW0 := hI hW0
 have Hn := hI hn
 obtain ⟨q0, q1, q2⟩ := HQ0.out W0 (Below.refl _ _)
 clear hW0 hsl ht hn hQQ
 by_cases h64 : 64 < n
 ·have HE := hI (tbl_long (t := t) (by rw [Hn.out]; exact h64))
  go_enter Tryz.func44, Tryz.ntmps44
  go_upto_region 1 with fail
  rw [<- HW0.out]
  go_wp2
  go_ret
  exact ⟨ret_int HE.out.symm, HB0.out⟩
 have H64 := hI (show ¬ 64 < t.rows.length by rw [Hn.out]; exact h64)
 go_enter Tryz.func44, Tryz.ntmps44
 go_upto_region 1 with fail
 rw [<- HW0.out]
 go_wp2
 clear q0 q1 q2
 go_loopw [12] (fun v wr => ∃ i : Nat, i <= n /\ v = .int .i64 i /\ Hid (Below W0.heap.size W0 wr) /\ Hid ((t.rows.take i).all okRow = true)) (fun v _ => n - (intOf v).toNat)
 case atStart => exact ⟨0, by omega, rfl, hI (Below.refl _ _), hI rfl⟩
 case round =>
  obtain ⟨i, hi, rfl, Hb, Hall⟩ := hrel
  obtain ⟨q0, q1, q2⟩ := HQ0.out wr Hb.out
  have hsr := Hb.out.size
  by_cases hlt : i < n
  ·have hil : i < t.rows.length := by rw [Hn.out]; exact hlt
   obtain ⟨b, off, hbe, hbB, hcells⟩ := (HR.out wr Hb.out) (by omega)
   subst hbe
   have c0 : wr.cell? ⟨b, off + i * 3, none⟩ = some (.int .i64 t.rows[i].pr) := hcells i hil 0 _ rfl
   have c1 : wr.cell? ⟨b, off + i * 3 + 1, none⟩ = some (.int .i64 t.rows[i].mi) := hcells i hil 1 _ rfl
   have c2 : wr.cell? ⟨b, off + i * 3 + 2, none⟩ = some (.int .i64 t.rows[i].out) := hcells i hil 2 _ rfl
   have Hs := hI (all_take_row hil Hall.out)
   have Hbad := hI (fun h => tbl_row (t := t) H64.out hil h)
   obtain ⟨r, hr⟩ : ∃ r, r = t.rows[i] := ⟨_, rfl⟩
   rw [<- hr] at c0 c1 c2 Hs Hbad
   have Hok := hI (show okRow r = (isTm r.pr && isTm r.mi && isTm r.out) from rfl)
   clear hcells hr
   cases h1 : isTm r.pr
   ·have HE := hI (Hbad.out (by rw [Hok.out, h1]; rfl))
    go_wp2_with (go_at_call 70; refine (isTime_any _ _).mono ?_; rintro e w' ⟨rfl, rfl⟩)
    go_ret
    exact ⟨ret_int HE.out.symm, HU.out _ (Hb.out.alloc hsr _)⟩
   cases h2 : isTm r.mi
   ·have HE := hI (Hbad.out (by rw [Hok.out, h1, h2]; rfl))
    go_wp2_with (go_at_call 70; refine (isTime_any _ _).mono ?_; rintro e w' ⟨rfl, rfl⟩)
    go_ret
    exact ⟨ret_int HE.out.symm, HU.out _ (Hb.out.alloc hsr _)⟩
   cases h3 : isTm r.out
   ·have HE := hI (Hbad.out (by rw [Hok.out, h1, h2, h3]; rfl))
    go_wp2_with (go_at_call 70; refine (isTime_any _ _).mono ?_; rintro e w' ⟨rfl, rfl⟩)
    go_ret
    exact ⟨ret_int HE.out.symm, HU.out _ (Hb.out.alloc hsr _)⟩
   have Hnx := hI (show (t.rows.take (i + 1)).all okRow = true by rw [Hs.out, Hok.out, h1, h2, h3]; rfl)
   go_wp2_with (go_at_call 70; refine (isTime_any _ _).mono ?_; rintro e w' ⟨rfl, rfl⟩)
   go_roundw
   case rel => exact ⟨i + 1, by omega, by go_num, hI (Hb.out.alloc hsr _), Hnx⟩
   case measure => simp [intOf]; omega
  ·have HE := hI (tbl_end (t := t) H64.out (by rw [<- Hall.out, List.take_of_length_le (by rw [Hn.out]; omega)]))
   cases h1 : isTm t.rest
   ·have HE2 := hI (show tblErr t = 1 by rw [HE.out, h1]; rfl)
    go_wp2_with (go_at_call 70; refine (isTime_any _ _).mono ?_; rintro e w' ⟨rfl, rfl⟩)
    go_ret
    exact ⟨ret_int HE2.out.symm, HU.out _ Hb.out⟩
   cases h2 : isTm t.day
   ·have HE2 := hI (show tblErr t = 1 by rw [HE.out, h1, h2]; rfl)
    go_wp2_with (go_at_call 70; refine (isTime_any _ _).mono ?_; rintro e w' ⟨rfl, rfl⟩)
    go_ret
    exact ⟨ret_int HE2.out.symm, HU.out _ Hb.out⟩
   have HE2 := hI (show tblErr t = 0 by rw [HE.out, h1, h2]; rfl)
   go_wp2_with (go_at_call 70; refine (isTime_any _ _).mono ?_; rintro e w' ⟨rfl, rfl⟩)
   go_ret
   exact ⟨ret_int HE2.out.symm, HU.out _ Hb.out⟩
theorem refCheckTable_any (t : Table) (B : Nat) (w : World) (ht : TIn w B t) (hB : B <= w.heap.size) :
  Calls Tryz.prog 45 #[tabV t] w fun e w' => e = .returned (.int .i64 (tblErr t)) /\ Below w.heap.size w w' := by
 obtain ⟨QQ, hQQ⟩ : ∃ QQ, t.A = QQ := ⟨_, rfl⟩
 obtain ⟨n, hn⟩ : ∃ n, t.rows.length = n := ⟨_, rfl⟩
 unfold tabV
 have hlc := ht.lc
 have hc2 := ht.c2
 have hsl := ht.sl
 rw [hQQ] at hsl ⊢
 rw [hn] at hlc ⊢
 obtain ⟨W0, hW0⟩ : ∃ W0, W0 = w.alloc (.cells #[.slice QQ n t.c, .int .i64 t.rest, .int .i64 t.day] 74) := ⟨_, rfl⟩
 have hs0 : W0.heap.size = w.heap.size + 1 := by rw [hW0]; simp
 have HB0 := hI (show Below w.heap.size w W0 by rw [hW0]; exact (Below.refl _ _).alloc (Nat.le_refl _) _)
 have HQ0 := hI (show ∀ (X : World), Below W0.heap.size W0 X -> X.cell? ⟨w.heap.size, 0, none⟩ = some (.slice QQ n t.c) /\ X.cell? ⟨w.heap.size, 1, none⟩ = some (.int .i64 t.rest) /\ X.cell? ⟨w.heap.size, 2, none⟩ = some (.int .i64 t.day) from fun X hX =>
  ⟨(hX.cell (p := ⟨w.heap.size, 0, none⟩) (by simp; omega)).trans (by rw [hW0]; exact alloc_cell rfl), (hX.cell (p := ⟨w.heap.size, 1, none⟩) (by simp; omega)).trans (by rw [hW0]; exact alloc_cell rfl), (hX.cell (p := ⟨w.heap.size, 2, none⟩) (by simp; omega)).trans (by rw [hW0]; exact alloc_cell rfl)⟩)
 have HR := hI (fun (X : World) (hX : Below W0.heap.size W0 X) => show Sl X B 3 encRow QQ t.rows from hsl.below ((HB0.out.mono hB).trans (hX.mono (by omega))))
 have HU := hI (fun (X : World) (hX : Below W0.heap.size W0 X) => show Below w.heap.size w X from HB0.out.trans (hX.mono (by omega)))
 have HW0 := hI hW0
 have Hn := hI hn
 obtain ⟨q0, q1, q2⟩ := HQ0.out W0 (Below.refl _ _)
 clear hW0 hsl ht hn hQQ
 by_cases h64 : 64 < n
 ·have HE := hI (tbl_long (t := t) (by rw [Hn.out]; exact h64))
  go_enter Tryz.func45, Tryz.ntmps45
  go_upto_region 1 with fail
  rw [<- HW0.out]
  go_wp2
  go_ret
  exact ⟨ret_int HE.out.symm, HB0.out⟩
 have H64 := hI (show ¬ 64 < t.rows.length by rw [Hn.out]; exact h64)
 go_enter Tryz.func45, Tryz.ntmps45
 go_upto_region 1 with fail
 rw [<- HW0.out]
 go_wp2
 clear q0 q1 q2
 go_loopw [3] (fun v wr => ∃ i : Nat, i <= n /\ v = .int .i64 i /\ Hid (Below W0.heap.size W0 wr) /\ Hid ((t.rows.take i).all okRow = true)) (fun v _ => n - (intOf v).toNat)
 case atStart => exact ⟨0, by omega, rfl, hI (Below.refl _ _), hI rfl⟩
 case round =>
  obtain ⟨i, hi, rfl, Hb, Hall⟩ := hrel
  obtain ⟨q0, q1, q2⟩ := HQ0.out wr Hb.out
  have hsr := Hb.out.size
  by_cases hlt : i < n
  ·have hil : i < t.rows.length := by rw [Hn.out]; exact hlt
   obtain ⟨b, off, hbe, hbB, hcells⟩ := (HR.out wr Hb.out) (by omega)
   subst hbe
   have c0 : wr.cell? ⟨b, off + i * 3, none⟩ = some (.int .i64 t.rows[i].pr) := hcells i hil 0 _ rfl
   have c1 : wr.cell? ⟨b, off + i * 3 + 1, none⟩ = some (.int .i64 t.rows[i].mi) := hcells i hil 1 _ rfl
   have c2 : wr.cell? ⟨b, off + i * 3 + 2, none⟩ = some (.int .i64 t.rows[i].out) := hcells i hil 2 _ rfl
   have Hs := hI (all_take_row hil Hall.out)
   have Hbad := hI (fun h => tbl_row (t := t) H64.out hil h)
   obtain ⟨r, hr⟩ : ∃ r, r = t.rows[i] := ⟨_, rfl⟩
   rw [<- hr] at c0 c1 c2 Hs Hbad
   have Hok := hI (show okRow r = (isTm r.pr && isTm r.mi && isTm r.out) from rfl)
   clear hcells hr
   cases h1 : isTm r.pr
   ·have HE := hI (Hbad.out (by rw [Hok.out, h1]; rfl))
    go_wp2_with (go_at_call 77; refine (timed_any _ _).mono ?_; rintro e w' ⟨rfl, rfl⟩)
    go_ret
    exact ⟨ret_int HE.out.symm, HU.out _ Hb.out⟩
   cases h2 : isTm r.mi
   ·have HE := hI (Hbad.out (by rw [Hok.out, h1, h2]; rfl))
    go_wp2_with (go_at_call 77; refine (timed_any _ _).mono ?_; rintro e w' ⟨rfl, rfl⟩)
    go_ret
    exact ⟨ret_int HE.out.symm, HU.out _ Hb.out⟩
   cases h3 : isTm r.out
   ·have HE := hI (Hbad.out (by rw [Hok.out, h1, h2, h3]; rfl))
    go_wp2_with (go_at_call 77; refine (timed_any _ _).mono ?_; rintro e w' ⟨rfl, rfl⟩)
    go_ret
    exact ⟨ret_int HE.out.symm, HU.out _ Hb.out⟩
   have Hnx := hI (show (t.rows.take (i + 1)).all okRow = true by rw [Hs.out, Hok.out, h1, h2, h3]; rfl)
   go_wp2_with (go_at_call 77; refine (timed_any _ _).mono ?_; rintro e w' ⟨rfl, rfl⟩)
   go_roundw
   case rel => exact ⟨i + 1, by omega, by go_num, hI Hb.out, Hnx⟩
   case measure => simp [intOf]; omega
  ·have HE := hI (tbl_end (t := t) H64.out (by rw [<- Hall.out, List.take_of_length_le (by rw [Hn.out]; omega)]))
   cases h1 : isTm t.rest
   ·have HE2 := hI (show tblErr t = 1 by rw [HE.out, h1]; rfl)
    go_wp2_with (go_at_call 77; refine (timed_any _ _).mono ?_; rintro e w' ⟨rfl, rfl⟩)
    go_ret
    exact ⟨ret_int HE2.out.symm, HU.out _ Hb.out⟩
   cases h2 : isTm t.day
   ·have HE2 := hI (show tblErr t = 1 by rw [HE.out, h1, h2]; rfl)
    go_wp2_with (go_at_call 77; refine (timed_any _ _).mono ?_; rintro e w' ⟨rfl, rfl⟩)
    go_ret
    exact ⟨ret_int HE2.out.symm, HU.out _ Hb.out⟩
   have HE2 := hI (show tblErr t = 0 by rw [HE.out, h1, h2]; rfl)
   go_wp2_with (go_at_call 77; refine (timed_any _ _).mono ?_; rintro e w' ⟨rfl, rfl⟩)
   go_ret
   exact ⟨ret_int HE2.out.symm, HU.out _ Hb.out⟩
theorem counts1_any (x : AirRow) (p m : Int) (bh bg : Nat) (w : World) (hc0 : w.cell? ⟨bg, 0, none⟩ = some (.int .i64 p)) (hc1 : w.cell? ⟨bh, 0, none⟩ = some (.int .i64 m)) (hbh : bh < w.heap.size) (hbg : bg < w.heap.size) :
  Calls Tryz.prog 170 #[.agg #[.int .i64 x.pr, .int .i64 x.mi, .int .i64 x.out], .pointer (some ⟨bg, 0, none⟩), .pointer (some ⟨bh, 0, none⟩)] w fun e w' => e = .returned (.bool (fitsRow p m x)) /\ Below w.heap.size w w' := by
 unfold fitsRow
 cases h1 : decide (p <= x.pr)
 ·go_enter Tryz.func170, Tryz.ntmps170
  go_wp2
  go_ret
  exact ⟨rfl, (by (repeat (refine Below.alloc ?_ (by first | exact Nat.le_refl _ | omega | (simp; done) | (simp; omega)) _)); exact Below.refl _ _)⟩
 cases h2 : decide (m <= x.mi)
 ·go_enter Tryz.func170, Tryz.ntmps170
  go_wp2
  go_ret
  exact ⟨rfl, (by (repeat (refine Below.alloc ?_ (by first | exact Nat.le_refl _ | omega | (simp; done) | (simp; omega)) _)); exact Below.refl _ _)⟩
 ·go_enter Tryz.func170, Tryz.ntmps170
  go_wp2
  go_ret
  exact ⟨rfl, (by (repeat (refine Below.alloc ?_ (by first | exact Nat.le_refl _ | omega | (simp; done) | (simp; omega)) _)); exact Below.refl _ _)⟩
set_option maxHeartbeats 1000000 in
theorem idxRow_any (xs : List AirRow) (p m : Int) (bh : Nat) (n : Nat) (hn : n = xs.length) (A : Option Addr) (c B bg : Nat) (w : World) (hA : Sl w B 3 encRow A xs) (hB : B ≤ w.heap.size) (hl : xs.length ≤ 1000000000)
    (hc0 : w.cell? ⟨bg, 0, none⟩ = some (.int .i64 p)) (hc1 : w.cell? ⟨bh, 0, none⟩ = some (.int .i64 m)) (hbh : bh < w.heap.size) (hbg : bg < w.heap.size) :
    Calls Tryz.prog 169 #[.slice A n c, .func (.func 170) #[] #[.pointer (some ⟨bg, 0, none⟩), .pointer (some ⟨bh, 0, none⟩)]] w fun e w' =>
      e = .returned (.int .i64 (idxB (fun x : AirRow => fitsRow p m x) xs)) ∧ Below w.heap.size w w' := by
  subst hn
  have HA := Lib.hid hA
  clear hA
  have Hc0 := Lib.hid hc0; clear hc0
  have Hc1 := Lib.hid hc1; clear hc1
  go_enter Tryz.func169, Tryz.ntmps169
  go_wp2
  go_loopw [8] (fun i wr => ∃ k : Nat, k ≤ xs.length ∧ i = .int .i64 k ∧ Hid ((xs.take k).any (fun x : AirRow => fitsRow p m x) = false) ∧ Below w.heap.size w wr) (fun i _ => xs.length - (intOf i).toNat)
  case atStart => exact ⟨0, by omega, rfl, Lib.hid (by simp), Below.refl _ _⟩
  case round =>
    obtain ⟨k, hk, rfl, Hno, hb⟩ := hrel
    by_cases hlt : k < xs.length
    · obtain ⟨b, off, rfl, hbB, hcells⟩ := HA.out (by omega)
      have h0 := hcells k hlt
      clear hcells
      have c0 : wr.cell? ⟨b, off + k * 3, none⟩ = some (.int .i64 xs[k].pr) := (hb.cell (p := ⟨b, _, none⟩) (by simp; omega)).trans (h0 0 _ rfl)
      have c1 : wr.cell? ⟨b, off + k * 3 + 1, none⟩ = some (.int .i64 xs[k].mi) := (hb.cell (p := ⟨b, _, none⟩) (by simp; omega)).trans (h0 1 _ rfl)
      have c2 : wr.cell? ⟨b, off + k * 3 + 2, none⟩ = some (.int .i64 xs[k].out) := (hb.cell (p := ⟨b, _, none⟩) (by simp; omega)).trans (h0 2 _ rfl)
      have hcg0 : wr.cell? ⟨bg, 0, none⟩ = some (.int .i64 p) := (hb.cell (p := ⟨bg, 0, none⟩) hbg).trans Hc0.out
      have hcg1 : wr.cell? ⟨bh, 0, none⟩ = some (.int .i64 m) := (hb.cell (p := ⟨bh, 0, none⟩) hbh).trans Hc1.out
      have Hs := Lib.hid (any_take_succ (p := fun x : AirRow => fitsRow p m x) hlt Hno.out)
      have Hh := Lib.hid (idxB_hit (p := fun x : AirRow => fitsRow p m x) hlt Hno.out)
      have hsz := hb.size
      clear h0
      cases hp : (fun x : AirRow => fitsRow p m x) xs[k]
      · go_wp2_with (go_at_call 170; refine (counts1_any xs[k] p m bh bg _ (by assumption) (by assumption) (by omega) (by omega)).mono ?_; rintro e w1 ⟨rfl, hb1⟩)
        go_roundw
        case rel => exact ⟨k + 1, by omega, by go_num, Lib.hid (Hs.out (by assumption)), hb.trans (hb1.mono hsz)⟩
        case measure => simp [intOf]; omega
      · go_wp2_with (go_at_call 170; refine (counts1_any xs[k] p m bh bg _ (by assumption) (by assumption) (by omega) (by omega)).mono ?_; rintro e w1 ⟨rfl, hb1⟩)
        go_ret
        exact ⟨ret_int (Hh.out (by assumption)).symm, hb.trans (hb1.mono hsz)⟩
    · have HN := Lib.hid (idxB_none (p := fun x : AirRow => fitsRow p m x) (xs := xs) (by rw [← Hno.out, List.take_of_length_le (by omega)]))
      go_wp2
      go_ret
      exact ⟨ret_int HN.out.symm, hb⟩

theorem set3 {w : World} {b T : Nat} {u0 u1 u2 : Value} (h : w.heap[b]? = some (.cells #[u0, u1, u2] T (0, 0))) (x y z : Value) :
  (((w.setCell ⟨b, 0, none⟩ x).setCell ⟨b, 1, none⟩ y).setCell ⟨b, 2, none⟩ z).cell? ⟨b, 0, none⟩ = some x /\ (((w.setCell ⟨b, 0, none⟩ x).setCell ⟨b, 1, none⟩ y).setCell ⟨b, 2, none⟩ z).cell? ⟨b, 1, none⟩ = some y /\ (((w.setCell ⟨b, 0, none⟩ x).setCell ⟨b, 1, none⟩ y).setCell ⟨b, 2, none⟩ z).cell? ⟨b, 2, none⟩ = some z := by
 have h1 : (w.setCell ⟨b, 0, none⟩ x).heap[b]? = some (.cells #[x, u1, u2] T (0, 0)) := by
  simp [World.setCell, Array.getElem?_modify, h]
 have h2 : ((w.setCell ⟨b, 0, none⟩ x).setCell ⟨b, 1, none⟩ y).heap[b]? = some (.cells #[x, y, u2] T (0, 0)) := by
  generalize w.setCell ⟨b, 0, none⟩ x = w1 at h1
  simp [World.setCell, Array.getElem?_modify, h1]
 have h3 : (((w.setCell ⟨b, 0, none⟩ x).setCell ⟨b, 1, none⟩ y).setCell ⟨b, 2, none⟩ z).heap[b]? = some (.cells #[x, y, z] T (0, 0)) := by
  generalize (w.setCell ⟨b, 0, none⟩ x).setCell ⟨b, 1, none⟩ y = w1 at h2
  simp [World.setCell, Array.getElem?_modify, h2]
 simp only [World.cell?, h3]
 exact ⟨rfl, rfl, rfl⟩
theorem h4 (w : World) (a b c d : Obj) : ((((w.alloc a).alloc b).alloc c).alloc d).heap[w.heap.size]? = some a /\ ((((w.alloc a).alloc b).alloc c).alloc d).heap[w.heap.size + 1]? = some b /\ ((((w.alloc a).alloc b).alloc c).alloc d).heap[w.heap.size + 2]? = some c /\ ((((w.alloc a).alloc b).alloc c).alloc d).heap[w.heap.size + 3]? = some d /\ ((((w.alloc a).alloc b).alloc c).alloc d).heap.size = w.heap.size + 4 := by
 have s1 : (w.alloc a).heap.size = w.heap.size + 1 := by simp
 have s2 : ((w.alloc a).alloc b).heap.size = w.heap.size + 2 := by simp
 have s3 : (((w.alloc a).alloc b).alloc c).heap.size = w.heap.size + 3 := by simp
 refine ⟨?_, ?_, ?_, ?_, by simp⟩
 ·rw [Below.heap_alloc _ _ _ (by omega), Below.heap_alloc _ _ _ (by omega), Below.heap_alloc _ _ _ (by omega)]
  exact heap_alloc_new _ _
 ·rw [Below.heap_alloc _ _ _ (by omega), Below.heap_alloc _ _ _ (by omega)]
  have h := heap_alloc_new (w.alloc a) b
  rwa [s1] at h
 ·rw [Below.heap_alloc _ _ _ (by omega)]
  have h := heap_alloc_new ((w.alloc a).alloc b) c
  rwa [s2] at h
 ·have h := heap_alloc_new (((w.alloc a).alloc b).alloc c) d
  rwa [s3] at h
def rowV (r : AirRow) : Value := .agg #[.int .i64 r.pr, .int .i64 r.mi, .int .i64 r.out]
theorem counts_any (t : Table) (p m : Int) (B : Nat) (w : World) (ht : TIn w B t) (hB : B <= w.heap.size) (hl : t.rows.length <= 1000000000) :
  Calls Tryz.prog 104 #[tabV t, .int .i64 p, .int .i64 m] w fun e w' => e = .returned (.tuple #[rowV ((cntRow t p m).getD ⟨0, 0, 0⟩), .bool (cntRow t p m).isSome]) /\ Below w.heap.size w w' := by
 obtain ⟨QQ, hQQ⟩ : ∃ QQ, t.A = QQ := ⟨_, rfl⟩
 obtain ⟨n, hn⟩ : ∃ n, t.rows.length = n := ⟨_, rfl⟩
 unfold tabV
 have hlc := ht.lc
 have hc2 := ht.c2
 have hsl := ht.sl
 rw [hQQ] at hsl ⊢
 rw [hn] at hlc ⊢
 obtain ⟨W0, hW0⟩ : ∃ W0, W0 = (((w.alloc (.cells #[.slice QQ n t.c, .int .i64 t.rest, .int .i64 t.day] 74)).alloc (.cells #[.int .i64 p] 3)).alloc (.cells #[.int .i64 m] 3)).alloc (.cells #[.int .i64 0, .int .i64 0, .int .i64 0] 89) := ⟨_, rfl⟩
 obtain ⟨k0, k1, k2, k3, hs0⟩ := h4 w (.cells #[.slice QQ n t.c, .int .i64 t.rest, .int .i64 t.day] 74) (.cells #[.int .i64 p] 3) (.cells #[.int .i64 m] 3) (.cells #[.int .i64 0, .int .i64 0, .int .i64 0] 89)
 rw [<- hW0] at k0 k1 k2 k3 hs0
 have HB0 := hI (show Below w.heap.size w W0 by rw [hW0]; exact ((((Below.refl w.heap.size w).alloc (Nat.le_refl _) _).alloc (by simp) _).alloc (by simp; omega) _).alloc (by simp; omega) _)
 have q0 : W0.cell? ⟨w.heap.size, 0, none⟩ = some (.slice QQ n t.c) := by simp only [World.cell?, k0]; rfl
 have q1 : W0.cell? ⟨w.heap.size + 1, 0, none⟩ = some (.int .i64 p) := by simp only [World.cell?, k1]; rfl
 have q2 : W0.cell? ⟨w.heap.size + 2, 0, none⟩ = some (.int .i64 m) := by simp only [World.cell?, k2]; rfl
 have HR := hI (show Sl W0 B 3 encRow QQ t.rows from hsl.below (HB0.out.mono hB))
 have HI := hI (idxRow_any t.rows p m (w.heap.size + 2) n hn.symm QQ t.c B (w.heap.size + 1) W0 HR.out (by omega) hl q1 q2 (by omega) (by omega))
 have HW0 := hI hW0
 have Hn := hI hn
 have K3 := hI k3
 clear hW0 hsl ht hn hQQ q1 q2 k0 k1 k2 k3
 go_enter Tryz.func104, Tryz.ntmps104
 go_wp2_with (go_at_call 169; fail)
 rw [<- HW0.out]
 refine HI.out.mono ?_
 rintro e w1 ⟨rfl, hb1⟩
 have hs1 := hb1.size
 have Hb1 := hI (HB0.out.trans (hb1.mono (by omega)))
 have q0' := (hb1.cell (p := ⟨w.heap.size, 0, none⟩) (by simp; omega)).trans q0
 have HR1 := hI (HR.out.below (hb1.mono (by omega)))
 have K31 := hI ((hb1.block (w.heap.size + 3) (by omega)).trans K3.out)
 have e0 : w1.cell? ⟨w.heap.size + 3, 0, none⟩ = some (.int .i64 0) := by simp only [World.cell?, K31.out]; rfl
 have e1 : w1.cell? ⟨w.heap.size + 3, 1, none⟩ = some (.int .i64 0) := by simp only [World.cell?, K31.out]; rfl
 have e2 : w1.cell? ⟨w.heap.size + 3, 2, none⟩ = some (.int .i64 0) := by simp only [World.cell?, K31.out]; rfl
 have f0 : w1.frozen? ⟨w.heap.size + 3, 0, none⟩ = false := by simp [World.frozen?, K31.out]
 have f1 : w1.frozen? ⟨w.heap.size + 3, 1, none⟩ = false := by simp [World.frozen?, K31.out]
 have f2 : w1.frozen? ⟨w.heap.size + 3, 2, none⟩ = false := by simp [World.frozen?, K31.out]
 clear hb1 q0 HI
 by_cases hge : 0 <= idxB (fun x : AirRow => fitsRow p m x) t.rows
 ·obtain ⟨k, hk, hke⟩ := idx_lt hge
  have HC := hI (cnt_hit hk hke)
  rw [hke]
  have hkn : k < n := by rw [<- Hn.out]; exact hk
  obtain ⟨b, off, hbe, hbB, hcells⟩ := HR1.out (by omega)
  subst hbe
  have c0 : w1.cell? ⟨b, off + k * 3, none⟩ = some (.int .i64 t.rows[k].pr) := hcells k hk 0 _ rfl
  have c1 : w1.cell? ⟨b, off + k * 3 + 1, none⟩ = some (.int .i64 t.rows[k].mi) := hcells k hk 1 _ rfl
  have c2 : w1.cell? ⟨b, off + k * 3 + 2, none⟩ = some (.int .i64 t.rows[k].out) := hcells k hk 2 _ rfl
  generalize t.rows[k] = r at c0 c1 c2 HC
  clear hcells hge hke hk
  go_wp2
  obtain ⟨g0, g1, g2⟩ := set3 K31.out (.int .i64 r.pr) (.int .i64 r.mi) (.int .i64 r.out)
  refine bodyPost_ret (v := .tuple #[rowV r, .bool true]) (by simp [results, Tryz.results104, go_sem, g0, g1, g2, rowV]) rfl ?_
  exact ⟨by rw [HC.out]; rfl, ((Hb1.out.setCell (p := ⟨w.heap.size + 3, 0, none⟩) (by simp) _).setCell (p := ⟨w.heap.size + 3, 1, none⟩) (by simp) _).setCell (p := ⟨w.heap.size + 3, 2, none⟩) (by simp) _⟩
 ·have HC := hI (cnt_none hge)
  have hneg : idxB (fun x : AirRow => fitsRow p m x) t.rows < 0 := by omega
  generalize idxB (fun x : AirRow => fitsRow p m x) t.rows = ix at hneg
  clear hge
  go_wp2
  obtain ⟨g0, g1, g2⟩ := set3 K31.out (.int .i64 0) (.int .i64 0) (.int .i64 0)
  refine bodyPost_ret (v := .tuple #[rowV ⟨0, 0, 0⟩, .bool false]) (by simp [results, Tryz.results104, go_sem, g0, g1, g2, rowV]) rfl ?_
  exact ⟨by rw [HC.out]; rfl, ((Hb1.out.setCell (p := ⟨w.heap.size + 3, 0, none⟩) (by simp) _).setCell (p := ⟨w.heap.size + 3, 1, none⟩) (by simp) _).setCell (p := ⟨w.heap.size + 3, 2, none⟩) (by simp) _⟩
theorem WayOut_any (t : Table) (p m : Int) (B : Nat) (w : World) (ht : TIn w B t) (hB : B <= w.heap.size) (hl : t.rows.length <= 1000000000) :
  Calls Tryz.prog 42 #[tabV t, .int .i64 p, .int .i64 m] w fun e w' => e = .returned (.tuple #[.int .i64 (wayV t p m), .int .i64 (wayErr t p m)]) /\ Below w.heap.size w w' := by
 obtain ⟨W0, hW0⟩ : ∃ W0, W0 = w.alloc (.cells #[.slice t.A t.rows.length t.c, .int .i64 t.rest, .int .i64 t.day] 74) := ⟨_, rfl⟩
 have hs0 : W0.heap.size = w.heap.size + 1 := by rw [hW0]; simp
 have HB0 := hI (show Below w.heap.size w W0 by rw [hW0]; exact (Below.refl _ _).alloc (Nat.le_refl _) _)
 have HQ0 := hI (show ∀ (X : World), Below W0.heap.size W0 X -> X.cell? ⟨w.heap.size, 0, none⟩ = some (.slice t.A t.rows.length t.c) /\ X.cell? ⟨w.heap.size, 1, none⟩ = some (.int .i64 t.rest) /\ X.cell? ⟨w.heap.size, 2, none⟩ = some (.int .i64 t.day) from fun X hX =>
  ⟨(hX.cell (p := ⟨w.heap.size, 0, none⟩) (by simp; omega)).trans (by rw [hW0]; exact alloc_cell rfl), (hX.cell (p := ⟨w.heap.size, 1, none⟩) (by simp; omega)).trans (by rw [hW0]; exact alloc_cell rfl), (hX.cell (p := ⟨w.heap.size, 2, none⟩) (by simp; omega)).trans (by rw [hW0]; exact alloc_cell rfl)⟩)
 have HT := hI (fun (X : World) (hX : Below W0.heap.size W0 X) => show TIn X B t from ht.below ((HB0.out.mono hB).trans (hX.mono (by omega))))
 have HU := hI (fun (X : World) (hX : Below W0.heap.size W0 X) => show Below w.heap.size w X from HB0.out.trans (hX.mono (by omega)))
 have HC := hI (CheckTable_any t B W0 (HT.out _ (Below.refl _ _)) (by omega))
 have HW0 := hI hW0
 obtain ⟨q0, q1, q2⟩ := HQ0.out W0 (Below.refl _ _)
 clear hW0 ht
 obtain ⟨te, hte⟩ : ∃ x, x = tblErr t := ⟨_, rfl⟩
 unfold tabV at HC
 rw [<- hte] at HC
 have HV := hI (show wayErr t p m = (if te ≠ 0 then te else if isTm p && isTm m then (match cntRow t p m with | some _ => 0 | none => 7) else 1) by rw [hte]; rfl)
 have HVV := hI (show wayV t p m = if wayErr t p m = 0 then outOf t p m else 0 from rfl)
 clear hte
 unfold tabV
 go_enter Tryz.func42, Tryz.ntmps42
 go_wp2_with (go_at_call 44; fail)
 rw [<- HW0.out]
 refine HC.out.mono ?_
 rintro e w1 ⟨rfl, hb1⟩
 have hs1 := hb1.size
 have Hb1 := hI hb1
 clear hb1 q0 q1 q2 HC
 obtain ⟨q0, q1, q2⟩ := HQ0.out w1 Hb1.out
 cases h0 : (te == 0)
 ·have h0' : (te != 0) = true := by simp [bne, h0]
  have hne : te ≠ 0 := fun h => by rw [h] at h0; cases h0
  have HE := hI (show wayErr t p m = te by rw [HV.out, if_pos hne])
  have HE2 := hI (show wayV t p m = 0 by rw [HVV.out, HE.out, if_neg hne])
  clear hne
  go_wp2
  refine bodyPost_ret (v := .tuple #[.int .i64 0, .int .i64 te]) (by simp [results, Tryz.results42, go_sem]) rfl ?_
  exact ⟨by rw [HE.out, HE2.out], HU.out _ Hb1.out⟩
 have h0' : (te != 0) = false := by simp [bne, h0]
 have Hte := hI (show te = 0 from eq_of_beq h0)
 cases h1 : isTm p
 ·have HE := hI (show wayErr t p m = 1 by rw [HV.out, if_neg (by rw [Hte.out]; decide), h1]; rfl)
  have HE2 := hI (show wayV t p m = 0 by rw [HVV.out, HE.out]; rfl)
  go_wp2_with (go_at_call 70; refine (isTime_any _ _).mono ?_; rintro e w' ⟨rfl, rfl⟩)
  refine bodyPost_ret (v := .tuple #[.int .i64 0, .int .i64 1]) (by simp [results, Tryz.results42, go_sem]) rfl ?_
  exact ⟨by rw [HE.out, HE2.out], HU.out _ Hb1.out⟩
 cases h2 : isTm m
 ·have HE := hI (show wayErr t p m = 1 by rw [HV.out, if_neg (by rw [Hte.out]; decide), h1, h2]; rfl)
  have HE2 := hI (show wayV t p m = 0 by rw [HVV.out, HE.out]; rfl)
  go_wp2_with (go_at_call 70; refine (isTime_any _ _).mono ?_; rintro e w' ⟨rfl, rfl⟩)
  refine bodyPost_ret (v := .tuple #[.int .i64 0, .int .i64 1]) (by simp [results, Tryz.results42, go_sem]) rfl ?_
  exact ⟨by rw [HE.out, HE2.out], HU.out _ Hb1.out⟩
 have HK := hI (counts_any t p m B w1 (HT.out _ Hb1.out) (by omega) hl)
 unfold tabV at HK
 have HV2 := hI (show wayErr t p m = (match cntRow t p m with | some _ => 0 | none => 7) by rw [HV.out, if_neg (by rw [Hte.out]; decide), h1, h2]; rfl)
 have HVV2 := hI (show outOf t p m = (match cntRow t p m with | some r => r.out | none => -1) from rfl)
 generalize cntRow t p m = cr at HK HV2 HVV2
 cases cr with
 | none =>
  have HE2 := hI (show wayV t p m = 0 by rw [HVV.out, HV2.out]; rfl)
  go_wp2_with (first | (go_at_call 70; refine (isTime_any _ _).mono ?_; rintro e w' ⟨rfl, rfl⟩) | (go_at_call 104; refine HK.out.mono ?_; rintro e w2 ⟨rfl, hb2⟩; have Hb2 := hI (Hb1.out.trans (hb2.mono (by omega))); clear hb2; unfold rowV))
  refine bodyPost_ret (v := .tuple #[.int .i64 0, .int .i64 7]) (by simp [results, Tryz.results42, go_sem]) rfl ?_
  exact ⟨by rw [HV2.out, HE2.out], HU.out _ (Hb2.out.alloc (by have := Hb2.out.size; omega) _)⟩
 | some r =>
  have HE2 := hI (show wayV t p m = r.out by rw [HVV.out, HV2.out, HVV2.out]; rfl)
  go_wp2_with (first | (go_at_call 70; refine (isTime_any _ _).mono ?_; rintro e w' ⟨rfl, rfl⟩) | (go_at_call 104; refine HK.out.mono ?_; rintro e w2 ⟨rfl, hb2⟩; have Hb2 := hI (Hb1.out.trans (hb2.mono (by omega))); clear hb2; unfold rowV))
  refine bodyPost_ret (v := .tuple #[.int .i64 r.out, .int .i64 0]) (by simp [results, Tryz.results42, go_sem]) rfl ?_
  exact ⟨by rw [HV2.out, HE2.out], HU.out _ (Hb2.out.alloc (by have := Hb2.out.size; omega) _)⟩
end Go.Proofs.YtjpgnfekbojcaaaGreat
namespace Go.Proofs.YtjpgnfekbojcaaaGreat
open Go.RowKit W7
theorem own_mono {w : World} {base base' e size n : Nat} {v : Value} {xs : List Value} (h : w.ownsRow base e size v n xs) (hb : base' <= base) : w.ownsRow base' e size v n xs :=
 ⟨h.1, h.2.imp id fun ⟨g, cap, cur, h1, h2, h3⟩ => ⟨g, cap, cur, h1, Nat.le_trans hb h2, h3⟩⟩
theorem getD_lt {α : Type} [Inhabited α] {l : List α} {i : Nat} (h : i < l.length) : l.getD i default = l[i] := by
 rw [List.getD_eq_getElem?_getD, List.getElem?_eq_getElem h, Option.getD_some]
theorem owns_block {w : World} {base e size n : Nat} {v : Value} {xs : List Value} (h : w.ownsRow base e size v n xs) : ∀ k, v.ownBlock = some k -> ∃ cs, w.heap[k]? = some (.cells cs e (0, 0)) := by
 intro k hk
 rcases h.2 with ⟨rfl, _⟩ | ⟨g, cap, cur, rfl, _, hc, _⟩
 ·simp [Value.ownBlock] at hk
 ·simp [Value.ownBlock] at hk
  exact ⟨cur, hk ▸ hc⟩
theorem owns_cells {w : World} {base e n : Nat} {v : Value} {xs : List Value} (h : w.ownsRow base e 1 v n xs) (hn : 0 < n) :
  ∃ g cap, v = .slice (some ⟨g, 0, none⟩) n cap /\ base <= g /\ g < w.heap.size /\ n <= cap /\ cap <= 9223372036854775807 /\ ∀ (j : Nat) (u : Value), xs[j]? = some u -> w.cell? ⟨g, 0 + j, none⟩ = some u := by
 rcases h.2 with ⟨_, h0⟩ | ⟨g, cap, cur, rfl, hb, hg, h1, h2, h3, h4⟩
 ·omega
 ·refine ⟨g, cap, rfl, hb, (Array.getElem?_eq_some_iff.1 hg).1, h1, by unfold maxLen at h2; omega, fun j u hu => ?_⟩
  rw [<- h4] at hu
  have hj : j < n := by
   have := (List.getElem?_eq_some_iff.1 hu).1
   rw [List.length_take] at this
   omega
  rw [List.getElem?_take, if_pos (by omega)] at hu
  simp only [World.cell?, hg, Nat.zero_add]
  simpa using hu
theorem grown_trans {a b c : World} {row : Option Nat} (h : a.grownBy b row) (k : b.grownBy c row) : a.grownBy c row :=
 ⟨k.os.trans h.os, k.tape.trans h.tape, k.output.trans h.output, Nat.le_trans h.size k.size, fun i hi hn => (k.block i (Nat.lt_of_lt_of_le hi h.size) hn).trans (h.block i hi hn)⟩
theorem grown_alloc {a b : World} {row : Option Nat} (h : a.grownBy b row) (o : Obj) : a.grownBy (b.alloc o) row :=
 grown_trans h ⟨rfl, rfl, rfl, by simp, fun i hi _ => Below.heap_alloc b o i hi⟩
def GLater (w : World) (row : Option Nat) : Type := { W : World // w.grownBy W row }
def GLater.w {w : World} {row : Option Nat} (e : GLater w row) : World := e.1
theorem GLater.g {w : World} {row : Option Nat} (e : GLater w row) : w.grownBy e.w row := e.2
theorem glater_cell {w : World} {row : Option Nat} {b o : Nat} {v : Value} (h : w.cell? ⟨b, o, none⟩ = some v) (hb : b < w.heap.size) (hr : some b ≠ row) : ∀ e : GLater w row, e.w.cell? ⟨b, o, none⟩ = some v := fun e => by
 rw [<- h]
 exact World.cell?_of_block (a := ⟨b, o, none⟩) (e.g.block b hb hr)
def NewBlk (w X : World) (g : Nat) (cs : Array Value) (e : TypeId) : Prop := w.heap.size <= g /\ X.heap[g]? = some (.cells cs e (0, 0))
theorem NewBlk.lt {w X : World} {g : Nat} {cs : Array Value} {e : TypeId} (h : NewBlk w X g cs e) : g < X.heap.size := (Array.getElem?_eq_some_iff.1 h.2).1
theorem NewBlk.below {w X Y : World} {g : Nat} {cs : Array Value} {e : TypeId} (h : NewBlk w X g cs e) (hb : Below X.heap.size X Y) : NewBlk w Y g cs e := ⟨h.1, (hb.block g h.lt).trans h.2⟩
theorem NewBlk.new {w X : World} {cs : Array Value} {e : TypeId} (h : w.heap.size <= X.heap.size) : NewBlk w (X.alloc (.cells cs e)) X.heap.size cs e := ⟨h, heap_alloc_new X _⟩
theorem NewBlk.src {w X : World} {g : Nat} {cs : Array Value} {e : TypeId} {size : Nat} (h : NewBlk w X g cs e) (hs : cs.size = size) : Src X size (some ⟨g, 0, none⟩) 1 cs.toList := by
 refine .inr ⟨_, rfl, by simp [hs], fun j u hu => ?_⟩
 have hadd : (⟨g, 0, none⟩ : Addr).add j = ⟨g, j, none⟩ := by unfold Addr.add; split <;> simp_all
 rw [hadd]
 simp only [World.cell?, h.2]
 simpa using hu
theorem own_kind {w w' : World} {base base' e e' size size' n m : Nat} {v u : Value} {xs ys : List Value} (h : w.ownsRow base e size v n xs) (hr : w.ownsRow base' e' size' u m ys) (hg : w.grownBy w' u.ownBlock) (hne : e ≠ e') : w'.ownsRow base e size v n xs :=
 h.kept hg (by
  cases hv : v.ownBlock with
  | none => exact .inl rfl
  | some k =>
   refine .inr fun hk => ?_
   obtain ⟨cs, hc⟩ := owns_block h k hv
   obtain ⟨cs', hc'⟩ := owns_block hr k hk.symm
   rw [hc] at hc'
   simp only [Option.some.injEq, Obj.cells.injEq] at hc'
   exact hne hc'.2.1)
theorem row_ne {w : World} {base e size n k : Nat} {v : Value} {xs : List Value} {o : Obj} (h : w.ownsRow base e size v n xs) (hk : w.heap[k]? = some o) (ho : ∀ cs, o ≠ .cells cs e (0, 0)) : some k ≠ v.ownBlock := fun hv => by
 obtain ⟨cs, hc⟩ := owns_block h k hv.symm
 rw [hk] at hc
 exact ho cs (Option.some.inj hc)
theorem own_cap' {w : World} {base e size n : Nat} {v : Value} {xs : List Value} (h : w.ownsRow base e size v n xs) : ∃ A c, v = .slice A n c /\ n <= c /\ c <= 9223372036854775807 := by
 rcases h.2 with ⟨rfl, rfl⟩ | ⟨g, cap, cur, rfl, _, _, h1, h2, _⟩
 ·exact ⟨_, _, rfl, Nat.le_refl _, by decide⟩
 ·exact ⟨_, _, rfl, h1, by unfold maxLen at h2; omega⟩
theorem own_setK {w : World} {base e e' size n lb j : Nat} {v : Value} {xs : List Value} {cs : Array Value} {fz : Nat × Nat} (h : w.ownsRow base e size v n xs) (hL : w.heap[lb]? = some (.cells cs e' fz)) (hne : e' ≠ e) (u : Value) : (w.setCell ⟨lb, j, none⟩ u).ownsRow base e size v n xs := by
 refine h.kept (row := some lb) ⟨rfl, rfl, rfl, by simp [World.setCell], fun k _ hk => Below.heap_setCell _ _ _ _ (fun e => hk (by simp [e]))⟩ ?_
 cases hv : v.ownBlock with
 | none => exact .inl rfl
 | some k =>
  refine .inr fun hk => ?_
  obtain rfl := Option.some.inj hk
  obtain ⟨cs', hc⟩ := owns_block h k hv
  rw [hL] at hc
  simp only [Option.some.injEq, Obj.cells.injEq] at hc
  exact hne hc.2.1
theorem owns_cellsN {w : World} {base e size n : Nat} {v : Value} {xs : List Value} (h : w.ownsRow base e size v n xs) (hn : 0 < n) :
  ∃ g cap, v = .slice (some ⟨g, 0, none⟩) n cap /\ base <= g /\ g < w.heap.size /\ n <= cap /\ cap <= 9223372036854775807 /\ ∀ (j : Nat) (u : Value), xs[j]? = some u -> w.cell? ⟨g, j, none⟩ = some u := by
 rcases h.2 with ⟨_, h0⟩ | ⟨g, cap, cur, rfl, hb, hg, h1, h2, h3, h4⟩
 ·omega
 ·refine ⟨g, cap, rfl, hb, (Array.getElem?_eq_some_iff.1 hg).1, h1, by unfold maxLen at h2; omega, fun j u hu => ?_⟩
  rw [<- h4] at hu
  have hj : j < n * size := by
   have := (List.getElem?_eq_some_iff.1 hu).1
   rw [List.length_take] at this
   omega
  rw [List.getElem?_take, if_pos hj] at hu
  simp only [World.cell?, hg]
  simpa using hu
theorem flat_get {α : Type} {enc : α -> List Value} {k : Nat} (hk : ∀ x, (enc x).length = k) : ∀ (xs : List α) (i j : Nat) (hi : i < xs.length), j < k -> (xs.flatMap enc)[i * k + j]? = (enc xs[i])[j]?
 | x :: r, 0, j, _, hj => by
  show (enc x ++ r.flatMap enc)[0 * k + j]? = _
  rw [Nat.zero_mul, Nat.zero_add, List.getElem?_append_left (by rw [hk]; exact hj)]
  rfl
 | x :: r, i + 1, j, hi, hj => by
  show (enc x ++ r.flatMap enc)[(i + 1) * k + j]? = _
  rw [List.getElem?_append_right (by rw [hk, Nat.add_mul]; omega), hk, show (i + 1) * k + j - k = i * k + j by rw [Nat.add_mul]; omega, flat_get hk r i j (by simpa using hi) hj]
  rfl
theorem sl_own2 {α : Type} {enc : α -> List Value} {k : Nat} (hk : ∀ x, (enc x).length = k) {w : World} {base e : Nat} {A : Option Addr} {c : Nat} {xs : List α} (h : w.ownsRow base e k (.slice A xs.length c) xs.length (xs.flatMap enc)) : Sl w w.heap.size k enc A xs := fun h0 => by
 obtain ⟨g, cap, e1, _, hgw, _, _, hc⟩ := owns_cellsN h h0
 cases e1
 refine ⟨g, 0, rfl, hgw, fun i hi j v hv => ?_⟩
 have hj : j < k := by
  rcases Nat.lt_or_ge j k with h1 | h1
  ·exact h1
  ·rw [List.getElem?_eq_none (by rw [hk]; exact h1)] at hv; cases hv
 have := hc (i * k + j) v ((flat_get hk xs i j hi hj).trans hv)
 simpa using this
end Go.Proofs.YtjpgnfekbojcaaaGreat
