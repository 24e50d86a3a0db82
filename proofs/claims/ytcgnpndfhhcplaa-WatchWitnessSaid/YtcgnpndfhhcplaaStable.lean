/-
  slices.SortStableFunc over at most 20 nodes. Conditions: how the row lies, bounds.
-/
import Derived.Test.YtcgnpndfhhcplaaSorts
namespace Go.Proofs.Ytcgnpndfhhcplaa
open Go.RowKit Go.Shelf Go.Sort W7
theorem insNone_any (v f : Value) (n : Int) (hn : 0 ≤ n ∧ n ≤ 1000) (w : World) :
    Calls Try.prog 115 #[v, .int .i64 n, .int .i64 n, f] w (fun e w' => e = .returned (.tuple #[]) ∧ w' = w) := by
  have h1 : decide (n + 1 < n) = false := by simp; omega
  go_enter Try.func115, Try.ntmps115
  go_wp2
  refine wp_loop_rounds 1 ?_
  rw [rounds_succ]
  go_wp2
  go_end0
  exact ⟨rfl, rfl⟩
set_option maxHeartbeats 1000000 in
theorem stable_any (l : List BNode) (base g cap : Nat) (w : World) (hown : w.ownsRow base 93 3 (.slice (some ⟨g, 0, none⟩) l.length cap) l.length (l.flatMap encBN)) (hl : l.length ≤ 20) :
    Calls Try.prog 96 #[.slice (some ⟨g, 0, none⟩) l.length cap, .int .i64 l.length, .func (.func 77) #[] #[]] w
      (SortedRow encBN 3 (fun a b => a.1.t ≤ b.1.t) l base 93 g cap w) := by
  have H := Lib.hid (insNodes_any l base g cap w hown (by omega))
  clear hown
  have h2 : decide ((20 : Int) < (l.length : Int)) = false := by simp; omega
  cases h1 : decide ((20 : Int) ≤ (l.length : Int))
  · go_enter Try.func96, Try.ntmps96
    go_wp2
    refine wp_loop_rounds 1 ?_
    rw [rounds_succ]
    go_wp2_with (go_at_call 115; refine H.out.mono ?_; rintro e w1 ⟨rfl, hs⟩; have Hs := Lib.hid hs; clear hs)
    refine wp_loop_rounds 1 ?_
    rw [rounds_succ]
    go_wp2
    go_end0
    exact ⟨rfl, Hs.out⟩
  · obtain ⟨n, hn⟩ : ∃ n : Int, n = (l.length : Int) := ⟨_, rfl⟩
    have hn20 : n = 20 := by simp at h1; omega
    subst hn20
    rw [← hn] at H ⊢
    clear h1 h2 hl hn
    go_enter Try.func96, Try.ntmps96
    go_wp2
    refine wp_loop_rounds 2 ?_
    rw [rounds_succ]
    go_wp2_with (go_at_call 115; refine H.out.mono ?_; rintro e w1 ⟨rfl, hs⟩; have Hs := Lib.hid hs; clear hs)
    rw [rounds_succ]
    go_wp2_with (go_at_call 115; refine (insNone_any _ _ 20 (by decide) _).mono ?_; rintro e w2 ⟨rfl, rfl⟩)
    refine wp_loop_rounds 1 ?_
    rw [rounds_succ]
    go_wp2
    go_end0
    exact ⟨rfl, Hs.out⟩
theorem sortNodes_any (l : List BNode) (base g cap : Nat) (w : World) (hown : w.ownsRow base 93 3 (.slice (some ⟨g, 0, none⟩) l.length cap) l.length (l.flatMap encBN)) (hl : l.length ≤ 20) :
    Calls Try.prog 76 #[.slice (some ⟨g, 0, none⟩) l.length cap, .func (.func 77) #[] #[]] w
      (SortedRow encBN 3 (fun a b => a.1.t ≤ b.1.t) l base 93 g cap w) := by
  have H := Lib.hid (stable_any l base g cap w hown hl)
  clear hown
  go_enter Try.func76, Try.ntmps76
  go_wp2_with (go_at_call 96; refine H.out.mono ?_; rintro e w1 ⟨rfl, hs⟩; have Hs := Lib.hid hs; clear hs)
  go_end0
  exact ⟨rfl, Hs.out⟩
end Go.Proofs.Ytcgnpndfhhcplaa
