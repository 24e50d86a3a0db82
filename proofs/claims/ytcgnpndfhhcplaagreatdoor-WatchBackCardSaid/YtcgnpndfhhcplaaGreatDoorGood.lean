/-
  Plain: what is known of arguments that have been checked. No program.
-/
import Derived.Test.YtcgnpndfhhcplaaGreatDoorNodes
namespace Go.Proofs.YtcgnpndfhhcplaaGreatDoor
open Go.RowKit W7
theorem firstErr_zero {f : Nat → Int} {n : Nat} : firstErr f n = 0 ↔ ∀ i, i < n → f i = 0 := by
  induction n with
  | zero => simp [firstErr]
  | succ n ih =>
    unfold firstErr
    by_cases h : firstErr f n = 0
    · rw [if_pos h]
      constructor
      · intro h1 i hi
        rcases Nat.lt_or_ge i n with h2 | h2
        · exact ih.1 h i h2
        · obtain rfl : i = n := by omega
          exact h1
      · intro h1; exact h1 n (by omega)
    · rw [if_neg h]
      exact ⟨fun h1 => absurd h1 h, fun h1 => absurd (ih.2 fun i hi => h1 i (by omega)) h⟩
theorem qsErr_one (q : Quantity) : qsErr [q] = if nameB q.name then checkQB q else 5 := by
  simp [qsErr, firstErr, qErrAt]
theorem getD_mem {α : Type} [Inhabited α] (l : List α) (i : Nat) (h : i < l.length) : l.getD i default = l[i] := by
  rw [List.getD_eq_getElem?_getD, List.getElem?_eq_getElem h, Option.getD_some]
theorem goodQ (q : Quantity) (h : checkQB q = 0) : (-1000000000 ≤ q.lo ∧ q.lo ≤ 1000000000) ∧ (-1000000000 ≤ q.hi ∧ q.hi ≤ 1000000000) ∧ q.lo ≤ q.hi ∧ (0 ≤ q.rise ∧ q.rise ≤ 10000) ∧ (0 ≤ q.fall ∧ q.fall ≤ 10000) ∧ q.gs.length ≤ 8 ∧
    (0 ≤ q.bad ∧ q.bad ≤ q.gs.length) ∧ ∀ g ∈ q.gs, 0 ≤ g.acc ∧ g.acc ≤ 1000000000 ∧ 0 ≤ g.drift ∧ g.drift ≤ 1000000000 ∧ 0 ≤ g.since ∧ g.since ≤ 100000 := by
  unfold checkQB at h
  split at h
  case isFalse => exact absurd h (by decide)
  rename_i h1
  split at h
  case isFalse => exact absurd h (by decide)
  rename_i h2
  split at h
  case isFalse => exact absurd h (by decide)
  rename_i h3
  split at h
  case isFalse => exact absurd h (by decide)
  rename_i h4
  simp only [Bool.and_eq_true, decide_eq_true_eq, isVal_true, withinB_true] at h1 h2 h4
  refine ⟨h1.1.1, h1.1.2, h1.2, h2.1, h2.2, h3, h4, fun g hg => ?_⟩
  obtain ⟨i, hi, rfl⟩ := List.mem_iff_getElem.1 hg
  have h5 := firstErr_zero.1 h i hi
  unfold gErrAt at h5
  rw [getD_mem _ _ hi] at h5
  split at h5
  case isFalse => exact absurd h5 (by decide)
  split at h5
  case isTrue => exact absurd h5 (by decide)
  split at h5
  case isFalse => exact absurd h5 (by decide)
  rename_i h6
  simp only [gaugeB, Bool.and_eq_true, isTm_true, withinB_true] at h6
  exact ⟨h6.1.1.1, h6.1.1.2, h6.1.2.1, h6.1.2.2, h6.2.1, h6.2.2⟩
theorem checkedE_zero {q : Quantity} {l : List Reading} (h : checkedE q l = 0) : qsErr [q] = 0 ∧ l.length ≤ 64 ∧ ∀ r ∈ l, rErr q r = 0 := by
  unfold checkedE at h
  split at h
  case isFalse h1 => exact absurd h h1
  rename_i h1
  split at h
  case isFalse => exact absurd h (by decide)
  rename_i h2
  refine ⟨h1, h2, fun r hr => ?_⟩
  obtain ⟨i, hi, rfl⟩ := List.mem_iff_getElem.1 hr
  have := firstErr_zero.1 h i hi
  unfold rErrAt at this
  rwa [getD_mem _ _ hi] at this
theorem qsErr_zero {q : Quantity} (h : qsErr [q] = 0) : nameB q.name = true ∧ checkQB q = 0 := by
  rw [qsErr_one] at h
  split at h
  case isFalse => exact absurd h (by decide)
  rename_i h1
  exact ⟨h1, h⟩
/-- arguments that have been checked -/
theorem good_of {q : Quantity} {l : List Reading} (h : checkedE q l = 0) : Good q l ∧ l.length ≤ 64 ∧ q.lo ≤ q.hi ∧ 0 ≤ q.bad ∧ q.bad ≤ q.gs.length := by
  obtain ⟨h1, h2, h3⟩ := checkedE_zero h
  obtain ⟨a1, a2, a3, a4, a5, a6, a7, a8⟩ := goodQ q (qsErr_zero h1).2
  refine ⟨⟨a1, a2, a4, a5, a6, a8, fun r hr => ?_⟩, h2, a3, a7⟩
  have h4 := h3 r hr
  unfold rErr at h4
  split at h4
  case isFalse => exact absurd h4 (by decide)
  rename_i h5
  split at h4
  case isFalse => exact absurd h4 (by decide)
  rename_i h6
  simp only [Bool.and_eq_true, isTm_true, isVal_true, withinB_true] at h5 h6
  omega
end Go.Proofs.YtcgnpndfhhcplaaGreatDoor
