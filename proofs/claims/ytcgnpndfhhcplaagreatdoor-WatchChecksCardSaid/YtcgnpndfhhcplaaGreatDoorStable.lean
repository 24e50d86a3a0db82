/-
  slices.SortStableFunc over at most 20 nodes. Conditions: how the row lies, bounds.
-/
import Derived.Test.YtcgnpndfhhcplaaGreatDoorSorts
namespace Go.Proofs.YtcgnpndfhhcplaaGreatDoor
open Go.RowKit Go.Shelf Go.Sort W7
theorem insNone_any (v f : Value) (n : Int) (hn : 0 ≤ n ∧ n ≤ 1000) (w : World) :
    Calls Tryz.prog 142 #[v, .int .i64 n, .int .i64 n, f] w (fun e w' => e = .returned (.tuple #[]) ∧ w' = w) := by
  have h1 : decide (n + 1 < n) = false := by simp; omega
  go_enter Tryz.func142, Tryz.ntmps142
  go_wp2
  refine wp_loop_rounds 1 ?_
  rw [rounds_succ]
  go_wp2
  go_end0
  exact ⟨rfl, rfl⟩
set_option maxHeartbeats 1000000 in
theorem stable_any (l : List BNode) (base g cap : Nat) (w : World) (hown : w.ownsRow base 132 3 (.slice (some ⟨g, 0, none⟩) l.length cap) l.length (l.flatMap encBN)) (hl : l.length ≤ 20) :
    Calls Tryz.prog 117 #[.slice (some ⟨g, 0, none⟩) l.length cap, .int .i64 l.length, .func (.func 97) #[] #[]] w
      (SortedRow encBN 3 (fun a b => a.1.t ≤ b.1.t) l base 132 g cap w) := by
  have H := Lib.hid (insNodes_any l base g cap w hown (by omega))
  clear hown
  have h2 : decide ((20 : Int) < (l.length : Int)) = false := by simp; omega
  cases h1 : decide ((20 : Int) ≤ (l.length : Int))
  · go_enter Tryz.func117, Tryz.ntmps117
    go_wp2
    refine wp_loop_rounds 1 ?_
    rw [rounds_succ]
    go_wp2_with (go_at_call 142; refine H.out.mono ?_; rintro e w1 ⟨rfl, hs⟩; have Hs := Lib.hid hs; clear hs)
    refine wp_loop_rounds 1 ?_
    rw [rounds_succ]
    go_wp2
    go_end0
    exact ⟨rfl, Hs.out⟩
  · obtain ⟨n, hn⟩ : ∃ n : Int, n = (l.length : Int) := ⟨_, rfl⟩
    have hn20 : n = 20 := by simp at h1; omega
    subst hn20
    rw [← hn] at H ⊢
    clear h1 h2 hl hn
    go_enter Tryz.func117, Tryz.ntmps117
    go_wp2
    refine wp_loop_rounds 2 ?_
    rw [rounds_succ]
    go_wp2_with (go_at_call 142; refine H.out.mono ?_; rintro e w1 ⟨rfl, hs⟩; have Hs := Lib.hid hs; clear hs)
    rw [rounds_succ]
    go_wp2_with (go_at_call 142; refine (insNone_any _ _ 20 (by decide) _).mono ?_; rintro e w2 ⟨rfl, rfl⟩)
    refine wp_loop_rounds 1 ?_
    rw [rounds_succ]
    go_wp2
    go_end0
    exact ⟨rfl, Hs.out⟩
theorem sortNodes_any (l : List BNode) (base g cap : Nat) (w : World) (hown : w.ownsRow base 132 3 (.slice (some ⟨g, 0, none⟩) l.length cap) l.length (l.flatMap encBN)) (hl : l.length ≤ 20) :
    Calls Tryz.prog 96 #[.slice (some ⟨g, 0, none⟩) l.length cap, .func (.func 97) #[] #[]] w
      (SortedRow encBN 3 (fun a b => a.1.t ≤ b.1.t) l base 132 g cap w) := by
  have H := Lib.hid (stable_any l base g cap w hown hl)
  clear hown
  go_enter Tryz.func96, Tryz.ntmps96
  go_wp2_with (go_at_call 117; refine H.out.mono ?_; rintro e w1 ⟨rfl, hs⟩; have Hs := Lib.hid hs; clear hs)
  go_end0
  exact ⟨rfl, Hs.out⟩
end Go.Proofs.YtcgnpndfhhcplaaGreatDoor
