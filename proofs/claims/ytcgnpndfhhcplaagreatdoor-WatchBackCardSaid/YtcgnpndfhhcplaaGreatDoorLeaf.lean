/-
  Contracts of the small functions of package watch and of its specification: comparisons, spans, a gauge's error. Conditions: the ranges that are named.
  slices.Index, Contains and Clone over ints. Condition: how the slice lies in memory.
  Package watch's narrowed and at: spans of nodes are narrowed in place; the span of the node at a time. Condition: how the nodes lie in memory, and their bounds.
-/
import Derived.Test.YtcgnpndfhhcplaaGreatDoorProg
import Derived.Test.YtcgnpndfhhcplaaGreatDoorBase
import Derived.Test.YtcgnpndfhhcplaaGreatDoorSpec
import Derived.Deep.QuietTactic
import Derived.BigQuiet
import Derived.StillTailTactics
import Derived.WalkLawsBesides
import Derived.WalkSpells
import Derived.Deep.LoopGhost
import Derived.Test.YtcgnpndfhhcplaaGreatDoorMath
namespace Go.Proofs.YtcgnpndfhhcplaaGreatDoor
open Go.RowKit W7
theorem within_any (n lo hi : Int) (w : World) :
    Calls Tryz.prog 32 #[.int .i64 n, .int .i64 lo, .int .i64 hi] w fun e w' => e = .returned (.bool (withinB n lo hi)) ∧ w = w' := by
  unfold withinB
  by_cases h1 : lo ≤ n
  · by_cases h2 : n ≤ hi
    · go_enter Tryz.func32, Tryz.ntmps32
      go_wp2
      go_ret
      exact ⟨by simp [h1, h2], rfl⟩
    · go_enter Tryz.func32, Tryz.ntmps32
      go_wp2
      go_ret
      exact ⟨by simp [h2], rfl⟩
  · go_enter Tryz.func32, Tryz.ntmps32
    go_wp2
    go_ret
    exact ⟨by simp; omega, rfl⟩
theorem isValue_any (n : Int) (w : World) :
    Calls Tryz.prog 33 #[.int .i64 n] w fun e w' => e = .returned (.bool (isVal n)) ∧ w = w' := by
  go_enter Tryz.func33, Tryz.ntmps33
  go_wp2_with (go_at_call 32; refine (within_any _ _ _ _).mono ?_; rintro e w' ⟨rfl, rfl⟩)
  go_ret
  exact ⟨rfl, rfl⟩
theorem isTime_any (n : Int) (w : World) :
    Calls Tryz.prog 47 #[.int .i64 n] w fun e w' => e = .returned (.bool (isTm n)) ∧ w = w' := by
  go_enter Tryz.func47, Tryz.ntmps47
  go_wp2_with (go_at_call 32; refine (within_any _ _ _ _).mono ?_; rintro e w' ⟨rfl, rfl⟩)
  go_ret
  exact ⟨rfl, rfl⟩
theorem deviation_any (g : Gauge) (t : Int) (w : World) (ha : 0 ≤ g.acc) (ha2 : g.acc ≤ 1000000000) (hd : 0 ≤ g.drift) (hd2 : g.drift ≤ 1000000000) (hs : 0 ≤ g.since) (hs2 : g.since ≤ 100000) (ht : 0 ≤ t) (ht2 : t ≤ 100000) :
    Calls Tryz.prog 48 #[.agg #[.string g.name, .int .i64 g.acc, .int .i64 g.drift, .int .i64 g.since], .int .i64 t] w fun e w' => e = .returned (.int .i64 (devi g t)) ∧ Below w.heap.size w w' := by
  by_cases h : t ≤ g.since
  · go_enter Tryz.func48, Tryz.ntmps48
    go_wp2
    go_ret
    exact ⟨by rw [devi, if_pos h]; rfl, (by (repeat (refine Below.alloc ?_ (by first | exact Nat.le_refl _ | omega | (simp; done) | (simp; omega)) _)); exact Below.refl _ _)⟩
  · have b0 : 0 ≤ (t - g.since + 999) / 1000 := by omega
    have b1 : (t - g.since + 999) / 1000 ≤ 101 := by omega
    have b2 : 0 ≤ (t - g.since + 999) / 1000 * g.drift := Int.mul_nonneg b0 hd
    have b3 : (t - g.since + 999) / 1000 * g.drift ≤ 101000000000 := by
      have h1 : (t - g.since + 999) / 1000 * g.drift ≤ 101 * g.drift := Int.mul_le_mul_of_nonneg_right b1 hd
      omega
    go_enter Tryz.func48, Tryz.ntmps48
    go_wp2
    go_ret
    exact ⟨by rw [devi, if_neg (by omega)]; rfl, (by (repeat (refine Below.alloc ?_ (by first | exact Nat.le_refl _ | omega | (simp; done) | (simp; omega)) _)); exact Below.refl _ _)⟩
theorem meet_any (a b c d : Int) (w : World) :
    Calls Tryz.prog 93 #[.agg #[.int .i64 a, .int .i64 b], .agg #[.int .i64 c, .int .i64 d]] w fun e w' =>
      e = .returned (.agg #[.int .i64 (max a c), .int .i64 (min b d)]) ∧ Below w.heap.size w w' := by
  have hmx := max_run Tryz.prog
  have hmn := min_run Tryz.prog
  go_enter Tryz.func93, Tryz.ntmps93
  go_wp2
  refine bodyPost_ret (v := .agg #[.int .i64 (max a c), .int .i64 (min b d)]) (by simp [results, Tryz.results93, go_sem]) rfl ⟨rfl, (by (repeat (refine Below.alloc ?_ (by first | exact Nat.le_refl _ | omega | (simp; done) | (simp; omega)) _)); exact Below.refl _ _)⟩
theorem void_any (a b : Int) (w : World) :
    Calls Tryz.prog 94 #[.agg #[.int .i64 a, .int .i64 b]] w fun e w' => e = .returned (.bool (decide (b < a))) ∧ Below w.heap.size w w' := by
  go_enter Tryz.func94, Tryz.ntmps94
  go_wp2
  go_ret
  exact ⟨rfl, (by (repeat (refine Below.alloc ?_ (by first | exact Nat.le_refl _ | omega | (simp; done) | (simp; omega)) _)); exact Below.refl _ _)⟩
theorem anything_any (w : World) :
    Calls Tryz.prog 86 #[] w fun e w' => e = .returned (.agg #[.int .i64 (-4000000000), .int .i64 4000000000]) ∧ Below w.heap.size w w' := by
  go_enter Tryz.func86, Tryz.ntmps86
  go_wp2
  refine bodyPost_ret (v := .agg #[.int .i64 (-4000000000), .int .i64 4000000000]) (by simp [results, Tryz.results86, go_sem]) rfl ⟨rfl, (by (repeat (refine Below.alloc ?_ (by first | exact Nat.le_refl _ | omega | (simp; done) | (simp; omega)) _)); exact Below.refl _ _)⟩
theorem checkGauge_any (g : Gauge) (w : World) :
    Calls Tryz.prog 46 #[.agg #[.string g.name, .int .i64 g.acc, .int .i64 g.drift, .int .i64 g.since]] w fun e w' => e = .returned (.int .i64 (if gaugeB g then 0 else 1)) ∧ Below w.heap.size w w' := by
  unfold gaugeB
  cases h1 : withinB g.acc 0 1000000000
  · go_enter Tryz.func46, Tryz.ntmps46
    go_wp2_with (first | (go_at_call 32; refine (within_any _ _ _ _).mono ?_; rintro e w' ⟨rfl, rfl⟩))
    go_ret
    exact ⟨rfl, (by (repeat (refine Below.alloc ?_ (by first | exact Nat.le_refl _ | omega | (simp; done) | (simp; omega)) _)); exact Below.refl _ _)⟩
  cases h2 : withinB g.drift 0 1000000000
  · go_enter Tryz.func46, Tryz.ntmps46
    go_wp2_with (first | (go_at_call 32; refine (within_any _ _ _ _).mono ?_; rintro e w' ⟨rfl, rfl⟩))
    go_ret
    exact ⟨rfl, (by (repeat (refine Below.alloc ?_ (by first | exact Nat.le_refl _ | omega | (simp; done) | (simp; omega)) _)); exact Below.refl _ _)⟩
  cases h3 : isTm g.since
  · go_enter Tryz.func46, Tryz.ntmps46
    go_wp2_with (first | (go_at_call 32; refine (within_any _ _ _ _).mono ?_; rintro e w' ⟨rfl, rfl⟩) | (go_at_call 47; refine (isTime_any _ _).mono ?_; rintro e w' ⟨rfl, rfl⟩))
    go_ret
    exact ⟨rfl, (by (repeat (refine Below.alloc ?_ (by first | exact Nat.le_refl _ | omega | (simp; done) | (simp; omega)) _)); exact Below.refl _ _)⟩
  · go_enter Tryz.func46, Tryz.ntmps46
    go_wp2_with (first | (go_at_call 32; refine (within_any _ _ _ _).mono ?_; rintro e w' ⟨rfl, rfl⟩) | (go_at_call 47; refine (isTime_any _ _).mono ?_; rintro e w' ⟨rfl, rfl⟩))
    go_ret
    exact ⟨rfl, (by (repeat (refine Below.alloc ?_ (by first | exact Nat.le_refl _ | omega | (simp; done) | (simp; omega)) _)); exact Below.refl _ _)⟩
end Go.Proofs.YtcgnpndfhhcplaaGreatDoor
namespace Go.Proofs.YtcgnpndfhhcplaaGreatDoor
open Go.RowKit W7
set_option maxHeartbeats 1000000 in
theorem indexInt_any (xs : List Int) (x : Int) (n : Nat) (hn : n = xs.length) (A : Option Addr) (c B : Nat) (w : World) (hA : Sl w B 1 encInt1 A xs) (_hB : B ≤ w.heap.size) (hl : xs.length ≤ 1000000000) :
    Calls Tryz.prog 116 #[.slice A n c, .int .i64 x] w fun e w' =>
      e = .returned (.int .i64 (idxB (fun y => x == y) xs)) ∧ w = w' := by
  subst hn
  have HA := Lib.hid hA
  clear hA
  go_enter Tryz.func116, Tryz.ntmps116
  go_wp2
  go_loop [8] (fun i => ∃ k : Nat, k ≤ xs.length ∧ i = .int .i64 k ∧ Hid ((xs.take k).any (fun y => x == y) = false)) (fun i => xs.length - (intOf i).toNat)
  case atStart => exact ⟨0, by omega, rfl, Lib.hid (by simp)⟩
  case round =>
    obtain ⟨k, hk, rfl, Hno⟩ := hrel
    by_cases hlt : k < xs.length
    · obtain ⟨b, off, rfl, hbB, hcells⟩ := HA.out (by omega)
      have c0 : w.cell? ⟨b, off + k, none⟩ = some (.int .i64 xs[k]) := by
        have := hcells k hlt 0 _ rfl
        simpa using this
      clear hcells
      have Hs := Lib.hid (any_take_succ (p := fun y => x == y) hlt Hno.out)
      have Hh := Lib.hid (idxB_hit (p := fun y => x == y) hlt Hno.out)
      cases hp : (x == xs[k])
      · go_wp2
        go_round
        case rel => exact ⟨k + 1, by omega, by go_num, Lib.hid (Hs.out (by assumption))⟩
        case measure => simp [intOf]; omega
      · go_wp2
        go_ret
        exact ⟨ret_int (Hh.out (by assumption)).symm, rfl⟩
    · have HN := Lib.hid (idxB_none (p := fun y => x == y) (xs := xs) (by rw [← Hno.out, List.take_of_length_le (by omega)]))
      go_wp2
      go_ret
      exact ⟨ret_int HN.out.symm, rfl⟩
theorem containsInt_any (xs : List Int) (x : Int) (n : Nat) (hn : n = xs.length) (A : Option Addr) (c B : Nat) (w : World) (hA : Sl w B 1 encInt1 A xs) (_hB : B ≤ w.heap.size) (hl : xs.length ≤ 1000000000) :
    Calls Tryz.prog 95 #[.slice A n c, .int .i64 x] w fun e w' =>
      e = .returned (.bool (xs.any fun y => x == y)) ∧ w = w' := by
  have H := Lib.hid (indexInt_any xs x n hn A c B w hA _hB hl)
  clear hA hn
  go_enter Tryz.func95, Tryz.ntmps95
  go_wp2_with (go_at_call 116; refine H.out.mono ?_; rintro e w1 ⟨rfl, rfl⟩)
  go_ret
  exact ⟨ret_bool idxB_any, rfl⟩
end Go.Proofs.YtcgnpndfhhcplaaGreatDoor
namespace Go.Proofs.YtcgnpndfhhcplaaGreatDoor
open Go.RowKit W7
theorem at1_any (x : K) (t : Int) (bg : Nat) (w : World) (hc : w.cell? ⟨bg, 0, none⟩ = some (.int .i64 t)) (hbg : bg < w.heap.size) :
    Calls Tryz.prog 113 #[.agg #[.int .i64 x.t, .int .i64 x.lo, .int .i64 x.hi], .pointer (some ⟨bg, 0, none⟩)] w fun e w' => e = .returned (.bool (x.t == t)) ∧ Below w.heap.size w w' := by
  go_enter Tryz.func113, Tryz.ntmps113
  go_wp2
  go_ret
  exact ⟨rfl, (by (repeat (refine Below.alloc ?_ (by first | exact Nat.le_refl _ | omega | (simp; done) | (simp; omega)) _)); exact Below.refl _ _)⟩
set_option maxHeartbeats 1000000 in
theorem idxNode_any (xs : List K) (t : Int) (n : Nat) (hn : n = xs.length) (A : Option Addr) (c B bg : Nat) (w : World) (hA : Sl w B 3 encK A xs) (hB : B ≤ w.heap.size) (hl : xs.length ≤ 1000000000)
    (hc0 : w.cell? ⟨bg, 0, none⟩ = some (.int .i64 t)) (hbg : bg < w.heap.size) :
    Calls Tryz.prog 112 #[.slice A n c, .func (.func 113) #[] #[.pointer (some ⟨bg, 0, none⟩)]] w fun e w' =>
      e = .returned (.int .i64 (idxB (fun x : K => x.t == t) xs)) ∧ Below w.heap.size w w' := by
  subst hn
  have HA := Lib.hid hA
  clear hA
  have Hc0 := Lib.hid hc0; clear hc0
  go_enter Tryz.func112, Tryz.ntmps112
  go_wp2
  go_loopw [8] (fun i wr => ∃ k : Nat, k ≤ xs.length ∧ i = .int .i64 k ∧ Hid ((xs.take k).any (fun x : K => x.t == t) = false) ∧ Below w.heap.size w wr) (fun i _ => xs.length - (intOf i).toNat)
  case atStart => exact ⟨0, by omega, rfl, Lib.hid (by simp), Below.refl _ _⟩
  case round =>
    obtain ⟨k, hk, rfl, Hno, hb⟩ := hrel
    by_cases hlt : k < xs.length
    · obtain ⟨b, off, rfl, hbB, hcells⟩ := HA.out (by omega)
      have h0 := hcells k hlt
      clear hcells
      have c0 : wr.cell? ⟨b, off + k * 3, none⟩ = some (.int .i64 xs[k].t) := (hb.cell (p := ⟨b, _, none⟩) (by simp; omega)).trans (h0 0 _ rfl)
      have c1 : wr.cell? ⟨b, off + k * 3 + 1, none⟩ = some (.int .i64 xs[k].lo) := (hb.cell (p := ⟨b, _, none⟩) (by simp; omega)).trans (h0 1 _ rfl)
      have c2 : wr.cell? ⟨b, off + k * 3 + 2, none⟩ = some (.int .i64 xs[k].hi) := (hb.cell (p := ⟨b, _, none⟩) (by simp; omega)).trans (h0 2 _ rfl)
      have hcg0 : wr.cell? ⟨bg, 0, none⟩ = some (.int .i64 t) := (hb.cell (p := ⟨bg, 0, none⟩) hbg).trans Hc0.out
      have Hs := Lib.hid (any_take_succ (p := fun x : K => x.t == t) hlt Hno.out)
      have Hh := Lib.hid (idxB_hit (p := fun x : K => x.t == t) hlt Hno.out)
      have hsz := hb.size
      clear h0
      cases hp : (fun x : K => x.t == t) xs[k]
      · go_wp2_with (go_at_call 113; refine (at1_any xs[k] t bg _ (by assumption) (by omega)).mono ?_; rintro e w1 ⟨rfl, hb1⟩)
        go_roundw
        case rel => exact ⟨k + 1, by omega, by go_num, Lib.hid (Hs.out (by assumption)), hb.trans (hb1.mono hsz)⟩
        case measure => simp [intOf]; omega
      · go_wp2_with (go_at_call 113; refine (at1_any xs[k] t bg _ (by assumption) (by omega)).mono ?_; rintro e w1 ⟨rfl, hb1⟩)
        go_ret
        exact ⟨ret_int (Hh.out (by assumption)).symm, hb.trans (hb1.mono hsz)⟩
    · have HN := Lib.hid (idxB_none (p := fun x : K => x.t == t) (xs := xs) (by rw [← Hno.out, List.take_of_length_le (by omega)]))
      go_wp2
      go_ret
      exact ⟨ret_int HN.out.symm, hb⟩

theorem at_any (xs : List K) (t : Int) (k : Nat) (hk : k < xs.length) (hno : (xs.take k).any (fun x => x.t == t) = false) (hit : xs[k].t = t) (A : Option Addr) (c B : Nat) (w : World) (hA : Sl w B 3 encK A xs) (hB : B ≤ w.heap.size) (hl : xs.length ≤ 1000000) :
    Calls Tryz.prog 87 #[.slice A xs.length c, .int .i64 t] w fun e w' => e = .returned (.agg #[.int .i64 xs[k].lo, .int .i64 xs[k].hi]) ∧ Below w.heap.size w w' := by
  have HI := Lib.hid (idxB_hit (p := fun x : K => x.t == t) hk hno (by simpa using hit))
  have Hcon := Lib.hid (idxNode_any xs t xs.length rfl A c B w.heap.size ((w.alloc (.cells #[.int .i64 t] 3)).alloc (.cells #[.int .i64 0, .int .i64 0] 44)) (hA.below_le ((by (repeat (refine Below.alloc ?_ (by first | exact Nat.le_refl _ | omega | (simp; done) | (simp; omega)) _)); exact Below.refl _ _) : Below w.heap.size w _) hB) (by simp; omega) (by omega) ((World.cell?_alloc_lt _ _ _ (by simp)).trans (alloc_cell rfl)) (by simp; omega))
  have HA := Lib.hid hA
  clear hA hno hit
  obtain ⟨b, off, rfl, hbB, hcells⟩ := HA.out (by omega)
  have h0 := hcells k hk
  clear hcells
  have c1 : w.cell? ⟨b, off + k * 3 + 1, none⟩ = some (.int .i64 xs[k].lo) := h0 1 _ rfl
  have c2 : w.cell? ⟨b, off + k * 3 + 2, none⟩ = some (.int .i64 xs[k].hi) := h0 2 _ rfl
  clear h0
  have hbw : b < w.heap.size := by omega
  go_enter Tryz.func87, Tryz.ntmps87
  go_wp2_with (go_at_call 112; refine Hcon.out.mono ?_; rintro e w1 ⟨rfl, hb1⟩; rw [HI.out]; obtain ⟨hcl, hfr⟩ := bcell hb1; have Hb1 := Lib.hid hb1; clear hb1; have HBW := Lib.hid (((by (repeat (refine Below.alloc ?_ (by first | exact Nat.le_refl _ | omega | (simp; done) | (simp; omega)) _)); exact Below.refl _ _) : Below w.heap.size w ((w.alloc (.cells #[.int .i64 t] 3)).alloc (.cells #[.int .i64 0, .int .i64 0] 44))).trans (Hb1.out.mono (by simp; omega))); have d1 := (HBW.out.cell (p := ⟨b, off + k * 3 + 1, none⟩) hbw).trans c1; have d2 := (HBW.out.cell (p := ⟨b, off + k * 3 + 2, none⟩) hbw).trans c2; have hs1 : w.heap.size + 2 ≤ w1.heap.size := by have := Hb1.out.size; simp at this; omega)
  refine bodyPost_ret (v := .agg #[.int .i64 xs[k].lo, .int .i64 xs[k].hi]) ?_ rfl ⟨rfl, ?_⟩
  · simp [results, Tryz.results87, go_sem, hcl]
  · exact (HBW.out.setCell (p := ⟨_, _, none⟩) (by simp) _).setCell (p := ⟨_, _, none⟩) (by simp) _
end Go.Proofs.YtcgnpndfhhcplaaGreatDoor
