/-
  Contracts of the small functions of package watch and of its specification: comparisons, spans, a gauge's error. Conditions: the ranges that are named.
-/
import Derived.Test.YtcgnpndfhhcplaaGreatDoorProg
import Derived.Test.YtcgnpndfhhcplaaGreatDoorBase
import Derived.Test.YtcgnpndfhhcplaaGreatDoorSpec
import Derived.Deep.QuietTactic
import Derived.BigQuiet
import Derived.StillTailTactics
import Derived.WalkLawsBesides
import Derived.WalkSpells
import Derived.Deep.LoopGhost
namespace Go.Proofs.YtcgnpndfhhcplaaGreatDoor
open Go.RowKit W7
theorem within_any (n lo hi : Int) (w : World) :
    Calls Tryz.prog 32 #[.int .i64 n, .int .i64 lo, .int .i64 hi] w fun e w' => e = .returned (.bool (withinB n lo hi)) ∧ w = w' := by
  unfold withinB
  by_cases h1 : lo ≤ n
  · by_cases h2 : n ≤ hi
    · go_enter Tryz.func32, Tryz.ntmps32
      go_wp2
      go_ret
      exact ⟨by simp [h1, h2], rfl⟩
    · go_enter Tryz.func32, Tryz.ntmps32
      go_wp2
      go_ret
      exact ⟨by simp [h2], rfl⟩
  · go_enter Tryz.func32, Tryz.ntmps32
    go_wp2
    go_ret
    exact ⟨by simp; omega, rfl⟩
theorem isValue_any (n : Int) (w : World) :
    Calls Tryz.prog 33 #[.int .i64 n] w fun e w' => e = .returned (.bool (isVal n)) ∧ w = w' := by
  go_enter Tryz.func33, Tryz.ntmps33
  go_wp2_with (go_at_call 32; refine (within_any _ _ _ _).mono ?_; rintro e w' ⟨rfl, rfl⟩)
  go_ret
  exact ⟨rfl, rfl⟩
theorem isTime_any (n : Int) (w : World) :
    Calls Tryz.prog 47 #[.int .i64 n] w fun e w' => e = .returned (.bool (isTm n)) ∧ w = w' := by
  go_enter Tryz.func47, Tryz.ntmps47
  go_wp2_with (go_at_call 32; refine (within_any _ _ _ _).mono ?_; rintro e w' ⟨rfl, rfl⟩)
  go_ret
  exact ⟨rfl, rfl⟩
theorem deviation_any (g : Gauge) (t : Int) (w : World) (ha : 0 ≤ g.acc) (ha2 : g.acc ≤ 1000000000) (hd : 0 ≤ g.drift) (hd2 : g.drift ≤ 1000000000) (hs : 0 ≤ g.since) (hs2 : g.since ≤ 100000) (ht : 0 ≤ t) (ht2 : t ≤ 100000) :
    Calls Tryz.prog 48 #[.agg #[.string g.name, .int .i64 g.acc, .int .i64 g.drift, .int .i64 g.since], .int .i64 t] w fun e w' => e = .returned (.int .i64 (devi g t)) ∧ Below w.heap.size w w' := by
  by_cases h : t ≤ g.since
  · go_enter Tryz.func48, Tryz.ntmps48
    go_wp2
    go_ret
    exact ⟨by rw [devi, if_pos h]; rfl, (by (repeat (refine Below.alloc ?_ (by first | exact Nat.le_refl _ | omega | (simp; done) | (simp; omega)) _)); exact Below.refl _ _)⟩
  · have b0 : 0 ≤ (t - g.since + 999) / 1000 := by omega
    have b1 : (t - g.since + 999) / 1000 ≤ 101 := by omega
    have b2 : 0 ≤ (t - g.since + 999) / 1000 * g.drift := Int.mul_nonneg b0 hd
    have b3 : (t - g.since + 999) / 1000 * g.drift ≤ 101000000000 := by
      have h1 : (t - g.since + 999) / 1000 * g.drift ≤ 101 * g.drift := Int.mul_le_mul_of_nonneg_right b1 hd
      omega
    go_enter Tryz.func48, Tryz.ntmps48
    go_wp2
    go_ret
    exact ⟨by rw [devi, if_neg (by omega)]; rfl, (by (repeat (refine Below.alloc ?_ (by first | exact Nat.le_refl _ | omega | (simp; done) | (simp; omega)) _)); exact Below.refl _ _)⟩
theorem meet_any (a b c d : Int) (w : World) :
    Calls Tryz.prog 93 #[.agg #[.int .i64 a, .int .i64 b], .agg #[.int .i64 c, .int .i64 d]] w fun e w' =>
      e = .returned (.agg #[.int .i64 (max a c), .int .i64 (min b d)]) ∧ Below w.heap.size w w' := by
  have hmx := max_run Tryz.prog
  have hmn := min_run Tryz.prog
  go_enter Tryz.func93, Tryz.ntmps93
  go_wp2
  refine bodyPost_ret (v := .agg #[.int .i64 (max a c), .int .i64 (min b d)]) (by simp [results, Tryz.results93, go_sem]) rfl ⟨rfl, (by (repeat (refine Below.alloc ?_ (by first | exact Nat.le_refl _ | omega | (simp; done) | (simp; omega)) _)); exact Below.refl _ _)⟩
theorem void_any (a b : Int) (w : World) :
    Calls Tryz.prog 94 #[.agg #[.int .i64 a, .int .i64 b]] w fun e w' => e = .returned (.bool (decide (b < a))) ∧ Below w.heap.size w w' := by
  go_enter Tryz.func94, Tryz.ntmps94
  go_wp2
  go_ret
  exact ⟨rfl, (by (repeat (refine Below.alloc ?_ (by first | exact Nat.le_refl _ | omega | (simp; done) | (simp; omega)) _)); exact Below.refl _ _)⟩
theorem anything_any (w : World) :
    Calls Tryz.prog 86 #[] w fun e w' => e = .returned (.agg #[.int .i64 (-4000000000), .int .i64 4000000000]) ∧ Below w.heap.size w w' := by
  go_enter Tryz.func86, Tryz.ntmps86
  go_wp2
  refine bodyPost_ret (v := .agg #[.int .i64 (-4000000000), .int .i64 4000000000]) (by simp [results, Tryz.results86, go_sem]) rfl ⟨rfl, (by (repeat (refine Below.alloc ?_ (by first | exact Nat.le_refl _ | omega | (simp; done) | (simp; omega)) _)); exact Below.refl _ _)⟩
theorem checkGauge_any (g : Gauge) (w : World) :
    Calls Tryz.prog 46 #[.agg #[.string g.name, .int .i64 g.acc, .int .i64 g.drift, .int .i64 g.since]] w fun e w' => e = .returned (.int .i64 (if gaugeB g then 0 else 1)) ∧ Below w.heap.size w w' := by
  unfold gaugeB
  cases h1 : withinB g.acc 0 1000000000
  · go_enter Tryz.func46, Tryz.ntmps46
    go_wp2_with (first | (go_at_call 32; refine (within_any _ _ _ _).mono ?_; rintro e w' ⟨rfl, rfl⟩))
    go_ret
    exact ⟨rfl, (by (repeat (refine Below.alloc ?_ (by first | exact Nat.le_refl _ | omega | (simp; done) | (simp; omega)) _)); exact Below.refl _ _)⟩
  cases h2 : withinB g.drift 0 1000000000
  · go_enter Tryz.func46, Tryz.ntmps46
    go_wp2_with (first | (go_at_call 32; refine (within_any _ _ _ _).mono ?_; rintro e w' ⟨rfl, rfl⟩))
    go_ret
    exact ⟨rfl, (by (repeat (refine Below.alloc ?_ (by first | exact Nat.le_refl _ | omega | (simp; done) | (simp; omega)) _)); exact Below.refl _ _)⟩
  cases h3 : isTm g.since
  · go_enter Tryz.func46, Tryz.ntmps46
    go_wp2_with (first | (go_at_call 32; refine (within_any _ _ _ _).mono ?_; rintro e w' ⟨rfl, rfl⟩) | (go_at_call 47; refine (isTime_any _ _).mono ?_; rintro e w' ⟨rfl, rfl⟩))
    go_ret
    exact ⟨rfl, (by (repeat (refine Below.alloc ?_ (by first | exact Nat.le_refl _ | omega | (simp; done) | (simp; omega)) _)); exact Below.refl _ _)⟩
  · go_enter Tryz.func46, Tryz.ntmps46
    go_wp2_with (first | (go_at_call 32; refine (within_any _ _ _ _).mono ?_; rintro e w' ⟨rfl, rfl⟩) | (go_at_call 47; refine (isTime_any _ _).mono ?_; rintro e w' ⟨rfl, rfl⟩))
    go_ret
    exact ⟨rfl, (by (repeat (refine Below.alloc ?_ (by first | exact Nat.le_refl _ | omega | (simp; done) | (simp; omega)) _)); exact Below.refl _ _)⟩
end Go.Proofs.YtcgnpndfhhcplaaGreatDoor
