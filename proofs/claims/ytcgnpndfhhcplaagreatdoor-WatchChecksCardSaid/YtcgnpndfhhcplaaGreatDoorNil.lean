/-
  slices.SortFunc at rows of spans, nil ones too. Conditions: bounds.
-/
import Derived.Test.YtcgnpndfhhcplaaGreatDoorSorts
namespace Go.Proofs.YtcgnpndfhhcplaaGreatDoor
open Go.RowKit W7
set_option maxHeartbeats 400000 in
set_option maxRecDepth 100000 in
theorem sortNil_any (c : Nat) (w : World) : Calls Tryz.prog 88 #[.slice none 0 c, .func (.func 89) #[] #[]] w fun e w' => e = .returned (.tuple #[]) ∧ Below w.heap.size w w' := by
  go_enter Tryz.func88, Tryz.ntmps88
  go_wp2
  refine wp_loop_rounds 1 ?_
  rw [rounds_succ]
  go_wp2
  refine wp_loop_rounds 1 ?_
  rw [rounds_succ]
  go_wp2
  go_end0
  go_wp2
  refine bodyPost_ret (results_none rfl _ _ _) rfl ?_
  go_wp2
  go_end0
  exact ⟨rfl, Below.refl _ _⟩
def bsVal (x : BSpan) : Span := x.1
theorem toBS {xs : List Span} (h : ∀ x ∈ xs, -10000000000000 ≤ x.lo ∧ x.lo ≤ 10000000000000) : ∃ L : List BSpan, L.map bsVal = xs := by
  induction xs with
  | nil => exact ⟨[], rfl⟩
  | cons x xs ih =>
    obtain ⟨L, hL⟩ := ih fun y hy => h y (by simp [hy])
    exact ⟨⟨x, h x (by simp)⟩ :: L, by show x :: L.map bsVal = x :: xs; rw [hL]⟩
theorem flat_bs (L : List BSpan) : L.flatMap encBS = (L.map bsVal).flatMap encSp := by
  induction L with
  | nil => rfl
  | cons x L ih => show encSp x.1 ++ L.flatMap encBS = encSp x.1 ++ (L.map bsVal).flatMap encSp; rw [ih]
theorem sortAll_any (sp : List Span) (hb : ∀ x ∈ sp, -10000000000000 ≤ x.lo ∧ x.lo ≤ 10000000000000) (hl : sp.length ≤ 100000) (base : Nat) (v : Value) (w : World) (hown : w.ownsRow base 44 2 v sp.length (sp.flatMap encSp)) :
    Calls Tryz.prog 88 #[v, .func (.func 89) #[] #[]] w fun e w' => e = .returned (.tuple #[]) ∧ ∃ sp' : List Span, sp'.Perm sp ∧ (sp'.Pairwise fun a b => a.lo ≤ b.lo) ∧
      w'.ownsRow base 44 2 v sp.length (sp'.flatMap encSp) ∧ w.grownBy w' v.ownBlock := by
  rcases hown.2 with ⟨rfl, h0⟩ | ⟨g, cap, cur, rfl, hbg, hg, _⟩
  · refine (sortNil_any 0 w).mono ?_
    rintro e w' ⟨rfl, hb'⟩
    obtain rfl : sp = [] := List.eq_nil_of_length_eq_zero h0
    exact ⟨rfl, [], List.Perm.refl _, List.Pairwise.nil, World.ownsRow_nil _ _ _ _, hb'.os, hb'.tape, hb'.output, hb'.size, fun i hi _ => hb'.block i hi⟩
  · obtain ⟨L, rfl⟩ := toBS hb
    have hL : (L.map bsVal).length = L.length := List.length_map _
    rw [hL] at hown hl ⊢
    rw [← flat_bs] at hown
    refine (sortSpans_any L base g cap w hown hl).mono ?_
    rintro e w' ⟨rfl, L', hp, hpw, ho, hgr⟩
    exact ⟨rfl, L'.map bsVal, hp.map _, List.pairwise_map.2 hpw, by rw [← flat_bs]; exact ho, hgr⟩
end Go.Proofs.YtcgnpndfhhcplaaGreatDoor
