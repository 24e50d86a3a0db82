/-
  slices.SortStableFunc over at most 19 nodes. Conditions: how the row lies, bounds.
-/
import Derived.Test.YtcgnpndfhhcplaaSorts
namespace Go.Proofs.Ytcgnpndfhhcplaa
open Go.RowKit Go.Shelf Go.Sort W7
set_option maxHeartbeats 1000000 in
theorem stable_any (l : List BNode) (base g cap : Nat) (w : World) (hown : w.ownsRow base 93 3 (.slice (some ⟨g, 0, none⟩) l.length cap) l.length (l.flatMap encBN)) (hl : l.length ≤ 19) :
    Calls Try.prog 96 #[.slice (some ⟨g, 0, none⟩) l.length cap, .int .i64 l.length, .func (.func 77) #[] #[]] w
      (SortedRow encBN 3 (fun a b => a.1.t ≤ b.1.t) l base 93 g cap w) := by
  have H := Lib.hid (insNodes_any l base g cap w hown (by omega))
  clear hown
  have h1 : decide ((20 : Int) ≤ (l.length : Int)) = false := by simp; omega
  have h2 : decide ((20 : Int) < (l.length : Int)) = false := by simp; omega
  go_enter Try.func96, Try.ntmps96
  go_wp2
  refine wp_loop_rounds 1 ?_
  rw [rounds_succ]
  go_wp2_with (go_at_call 115; refine H.out.mono ?_; rintro e w1 ⟨rfl, hs⟩; have Hs := Lib.hid hs; clear hs)
  refine wp_loop_rounds 1 ?_
  rw [rounds_succ]
  go_wp2
  go_end0
  exact ⟨rfl, Hs.out⟩
theorem sortNodes_any (l : List BNode) (base g cap : Nat) (w : World) (hown : w.ownsRow base 93 3 (.slice (some ⟨g, 0, none⟩) l.length cap) l.length (l.flatMap encBN)) (hl : l.length ≤ 19) :
    Calls Try.prog 76 #[.slice (some ⟨g, 0, none⟩) l.length cap, .func (.func 77) #[] #[]] w
      (SortedRow encBN 3 (fun a b => a.1.t ≤ b.1.t) l base 93 g cap w) := by
  have H := Lib.hid (stable_any l base g cap w hown hl)
  clear hown
  go_enter Try.func76, Try.ntmps76
  go_wp2_with (go_at_call 96; refine H.out.mono ?_; rintro e w1 ⟨rfl, hs⟩; have Hs := Lib.hid hs; clear hs)
  go_end0
  exact ⟨rfl, Hs.out⟩
end Go.Proofs.Ytcgnpndfhhcplaa
