/-
  Contracts of the two sorts that package watch calls: spans by their least value, nodes by their time. Conditions: how the row lies, bounds, and at most 19 nodes.
  slices.SortStableFunc over at most 20 nodes. Conditions: how the row lies, bounds.
  slices.SortFunc at rows of spans, nil ones too. Conditions: bounds.
-/
import Derived.Test.YtcgnpndfhhcplaaGreatDoorSortPlain
import Derived.Test.YtcgnpndfhhcplaaGreatDoorMath
import Derived.Test.YtcgnpndfhhcplaaGreatDoorLeaf
namespace Go.Proofs.YtcgnpndfhhcplaaGreatDoor
open Go.RowKit Go.Shelf Go.Sort W7
/-- spans whose ends are not too great -/
def BSpan : Type := { s : Span // -10000000000000 ≤ s.lo ∧ s.lo ≤ 10000000000000 }
instance : Inhabited BSpan := ⟨⟨⟨0, 0⟩, by decide, by decide⟩⟩
def encBS (s : BSpan) : List Value := encSp s.1
/-- nodes at a time -/
def BNode : Type := { x : K // 0 ≤ x.t ∧ x.t ≤ 100000 }
instance : Inhabited BNode := ⟨⟨⟨0, 0, 0⟩, by decide, by decide⟩⟩
def encBN (x : BNode) : List Value := encK x.1
set_option maxHeartbeats 1000000 in
theorem possible1_any (x y : BSpan) (W : World) :
    Calls Tryz.prog 89 #[.agg #[.int .i64 x.1.lo, .int .i64 x.1.hi], .agg #[.int .i64 y.1.lo, .int .i64 y.1.hi]] W fun e w' => e = .returned (.int .i64 (x.1.lo - y.1.lo)) ∧ ∃ q os', w' = grow (W.drewN q) os' := by
  obtain ⟨⟨xl, xh⟩, h1, h2⟩ := x
  obtain ⟨⟨yl, yh⟩, h3, h4⟩ := y
  simp only at h1 h2 h3 h4 ⊢
  go_enter Tryz.func89, Tryz.ntmps89
  go_wp2
  go_ret
  exact ⟨rfl, 0, _, by rw [alloc_eq_grow, alloc_eq_grow, grow_grow]; rfl⟩
set_option maxHeartbeats 1000000 in
theorem nodes1_any (x y : BNode) (W : World) :
    Calls Tryz.prog 97 #[.agg #[.int .i64 x.1.t, .int .i64 x.1.lo, .int .i64 x.1.hi], .agg #[.int .i64 y.1.t, .int .i64 y.1.lo, .int .i64 y.1.hi]] W fun e w' => e = .returned (.int .i64 (x.1.t - y.1.t)) ∧ ∃ q os', w' = grow (W.drewN q) os' := by
  obtain ⟨⟨xt, xl, xh⟩, h1, h2⟩ := x
  obtain ⟨⟨yt, yl, yh⟩, h3, h4⟩ := y
  simp only at h1 h2 h3 h4 ⊢
  go_enter Tryz.func97, Tryz.ntmps97
  go_wp2
  go_ret
  exact ⟨rfl, 0, _, by rw [alloc_eq_grow, alloc_eq_grow, grow_grow]; rfl⟩
theorem swoSpan : SWO (ltOf fun x y : BSpan => x.1.lo - y.1.lo) where
  irrefl x := by simp [ltOf]
  trans x y z h1 h2 := by simp [ltOf] at *; omega
  ntrans x y z h1 h2 := by simp [ltOf] at *; omega
theorem swoNode : SWO (ltOf fun x y : BNode => x.1.t - y.1.t) where
  irrefl x := by simp [ltOf]
  trans x y z h1 h2 := by simp [ltOf] at *; omega
  ntrans x y z h1 h2 := by simp [ltOf] at *; omega
theorem perm_sorted {α : Type} [Inhabited α] {lt : α → α → Bool} {l : List α} {d' : Array α} (hp : PermIn 0 l.toArray.size l.toArray d') (hs : SortedIn lt 0 l.toArray.size d') :
    d'.toList.Perm l ∧ d'.toList.Pairwise fun a b => lt b a = false := by
  obtain ⟨hz, _, hp⟩ := hp
  have e1 : d'.extract 0 l.toArray.size = d' := by rw [← hz]; exact Array.extract_size
  have e2 : l.toArray.extract 0 l.toArray.size = l.toArray := Array.extract_size
  rw [e1, e2] at hp
  refine ⟨hp, ?_⟩
  rw [List.pairwise_iff_getElem]
  intro i j hi hj hij
  have h := hs i j (Nat.zero_le _) hij (by simpa [hz] using hj)
  simp only [Array.length_toList] at hi hj
  rw [getElem!_pos d' j hj, getElem!_pos d' i hi] at h
  simpa using h
def SortedRow {α : Type} (enc : α → List Value) (k : Nat) (R : α → α → Prop) (l : List α) (base e g cap : Nat) (w : World) (en : Ending) (w' : World) : Prop :=
  en = .returned (.tuple #[]) ∧ ∃ l' : List α, l'.Perm l ∧ l'.Pairwise R ∧ w'.ownsRow base e k (.slice (some ⟨g, 0, none⟩) l.length cap) l.length (l'.flatMap enc) ∧ w.grownBy w' (some g)
theorem sortSpans_any (l : List BSpan) (base g cap : Nat) (w : World) (hown : w.ownsRow base 44 2 (.slice (some ⟨g, 0, none⟩) l.length cap) l.length (l.flatMap encBS)) (hl : l.length ≤ 100000) :
    Calls Tryz.prog 88 #[.slice (some ⟨g, 0, none⟩) l.length cap, .func (.func 89) #[] #[]] w
      (SortedRow encBS 2 (fun a b => a.1.lo ≤ b.1.lo) l base 44 g cap w) := by
  have eg : ∀ args w, (callFunc 89 args).run Tryz.prog w = .ok (.enter 89 args) w := enters_of Tryz.func89 (by kernel_rfl) rfl
  have hcon := AnyQ.slices_SortFunc Tryz.sortSpan 2 Tryz.isAgg44 Tryz.sizeOf44 encBS (fun _ => rfl) (fun x v hv => by simp [encBS, encSp] at hv; rcases hv with rfl | rfl <;> rfl) (fun x y => x.1.lo - y.1.lo) swoSpan 89 #[] g 0 cap l.toArray w eg
    (fun _ _ _ _ x y => possible1_any x y _) (holdsK_of_own (enc := encBS) (k := 2) (fun _ => rfl) (by omega) hown) (hown.lt g rfl).2 (by rw [List.size_toArray]; omega)
  change Calls Tryz.prog 88 _ _ _ at hcon
  rw [List.size_toArray] at hcon
  refine hcon.mono fun e w' ⟨he, d', n, os, hp, hs, hw⟩ => ⟨he, d'.toList, ?_⟩
  obtain ⟨h1, h2⟩ := perm_sorted hp hs
  refine ⟨h1, h2.imp (fun h => by simp [ltOf] at h; omega), ?_⟩
  rw [hw]
  have := own_of_sorted (enc := encBS) (k := 2) (fun _ => rfl) (by omega) (m := n) (os := os) hown h1.length_eq
  exact ⟨by simpa using this, grown_of_sorted⟩
theorem insNodes_any (l : List BNode) (base g cap : Nat) (w : World) (hown : w.ownsRow base 132 3 (.slice (some ⟨g, 0, none⟩) l.length cap) l.length (l.flatMap encBN)) (hl : l.length ≤ 100000) :
    Calls Tryz.prog 142 #[.slice (some ⟨g, 0, none⟩) l.length cap, .int .i64 0, .int .i64 l.length, .func (.func 97) #[] #[]] w
      (SortedRow encBN 3 (fun a b => a.1.t ≤ b.1.t) l base 132 g cap w) := by
  have eg : ∀ args w, (callFunc 97 args).run Tryz.prog w = .ok (.enter 97 args) w := enters_of Tryz.func97 (by kernel_rfl) rfl
  have hcon := AnyQ.insertionSortCmpFunc Tryz.insNode 3 Tryz.isAgg132 Tryz.sizeOf132 encBN (fun _ => rfl) (fun x v hv => by simp [encBN, encK] at hv; rcases hv with rfl | rfl | rfl <;> rfl) (fun x y => x.1.t - y.1.t) 97 #[] g 0 cap 0 l.length l.toArray w eg
    (fun _ _ _ _ x y => nodes1_any x y _) (holdsK_of_own (enc := encBN) (k := 3) (fun _ => rfl) (by omega) hown) (hown.lt g rfl).2 (by omega) (by simp) (by rw [List.size_toArray]; omega)
  change Calls Tryz.prog 142 _ _ _ at hcon
  rw [List.size_toArray] at hcon
  refine hcon.mono fun e w' ⟨he, n, os, hw⟩ => ?_
  have h := insertionSort_holds (lt := ltOf fun x y : BNode => x.1.t - y.1.t) swoNode l.toArray 0 l.length (Nat.zero_le _) (by simp)
  obtain ⟨h1, h2⟩ := perm_sorted (l := l) (by simpa using h.1) (by simpa using h.2)
  refine ⟨he, _, h1, h2.imp (fun h => by simp [ltOf] at h; omega), ?_⟩
  rw [hw]
  have := own_of_sorted (enc := encBN) (k := 3) (fun _ => rfl) (by omega) (m := n) (os := os) hown h1.length_eq
  exact ⟨by simpa using this, grown_of_sorted⟩
end Go.Proofs.YtcgnpndfhhcplaaGreatDoor
namespace Go.Proofs.YtcgnpndfhhcplaaGreatDoor
open Go.RowKit Go.Shelf Go.Sort W7
theorem insNone_any (v f : Value) (n : Int) (hn : 0 ≤ n ∧ n ≤ 1000) (w : World) :
    Calls Tryz.prog 142 #[v, .int .i64 n, .int .i64 n, f] w (fun e w' => e = .returned (.tuple #[]) ∧ w' = w) := by
  have h1 : decide (n + 1 < n) = false := by simp; omega
  go_enter Tryz.func142, Tryz.ntmps142
  go_wp2
  refine wp_loop_rounds 1 ?_
  rw [rounds_succ]
  go_wp2
  go_end0
  exact ⟨rfl, rfl⟩
set_option maxHeartbeats 1000000 in
theorem stable_any (l : List BNode) (base g cap : Nat) (w : World) (hown : w.ownsRow base 132 3 (.slice (some ⟨g, 0, none⟩) l.length cap) l.length (l.flatMap encBN)) (hl : l.length ≤ 20) :
    Calls Tryz.prog 117 #[.slice (some ⟨g, 0, none⟩) l.length cap, .int .i64 l.length, .func (.func 97) #[] #[]] w
      (SortedRow encBN 3 (fun a b => a.1.t ≤ b.1.t) l base 132 g cap w) := by
  have H := Lib.hid (insNodes_any l base g cap w hown (by omega))
  clear hown
  have h2 : decide ((20 : Int) < (l.length : Int)) = false := by simp; omega
  cases h1 : decide ((20 : Int) ≤ (l.length : Int))
  · go_enter Tryz.func117, Tryz.ntmps117
    go_wp2
    refine wp_loop_rounds 1 ?_
    rw [rounds_succ]
    go_wp2_with (go_at_call 142; refine H.out.mono ?_; rintro e w1 ⟨rfl, hs⟩; have Hs := Lib.hid hs; clear hs)
    refine wp_loop_rounds 1 ?_
    rw [rounds_succ]
    go_wp2
    go_end0
    exact ⟨rfl, Hs.out⟩
  · obtain ⟨n, hn⟩ : ∃ n : Int, n = (l.length : Int) := ⟨_, rfl⟩
    have hn20 : n = 20 := by simp at h1; omega
    subst hn20
    rw [← hn] at H ⊢
    clear h1 h2 hl hn
    go_enter Tryz.func117, Tryz.ntmps117
    go_wp2
    refine wp_loop_rounds 2 ?_
    rw [rounds_succ]
    go_wp2_with (go_at_call 142; refine H.out.mono ?_; rintro e w1 ⟨rfl, hs⟩; have Hs := Lib.hid hs; clear hs)
    rw [rounds_succ]
    go_wp2_with (go_at_call 142; refine (insNone_any _ _ 20 (by decide) _).mono ?_; rintro e w2 ⟨rfl, rfl⟩)
    refine wp_loop_rounds 1 ?_
    rw [rounds_succ]
    go_wp2
    go_end0
    exact ⟨rfl, Hs.out⟩
theorem sortNodes_any (l : List BNode) (base g cap : Nat) (w : World) (hown : w.ownsRow base 132 3 (.slice (some ⟨g, 0, none⟩) l.length cap) l.length (l.flatMap encBN)) (hl : l.length ≤ 20) :
    Calls Tryz.prog 96 #[.slice (some ⟨g, 0, none⟩) l.length cap, .func (.func 97) #[] #[]] w
      (SortedRow encBN 3 (fun a b => a.1.t ≤ b.1.t) l base 132 g cap w) := by
  have H := Lib.hid (stable_any l base g cap w hown hl)
  clear hown
  go_enter Tryz.func96, Tryz.ntmps96
  go_wp2_with (go_at_call 117; refine H.out.mono ?_; rintro e w1 ⟨rfl, hs⟩; have Hs := Lib.hid hs; clear hs)
  go_end0
  exact ⟨rfl, Hs.out⟩
end Go.Proofs.YtcgnpndfhhcplaaGreatDoor
namespace Go.Proofs.YtcgnpndfhhcplaaGreatDoor
open Go.RowKit W7
set_option maxHeartbeats 400000 in
set_option maxRecDepth 100000 in
theorem sortNil_any (c : Nat) (w : World) : Calls Tryz.prog 88 #[.slice none 0 c, .func (.func 89) #[] #[]] w fun e w' => e = .returned (.tuple #[]) ∧ Below w.heap.size w w' := by
  go_enter Tryz.func88, Tryz.ntmps88
  go_wp2
  refine wp_loop_rounds 1 ?_
  rw [rounds_succ]
  go_wp2
  refine wp_loop_rounds 1 ?_
  rw [rounds_succ]
  go_wp2
  go_end0
  go_wp2
  refine bodyPost_ret (results_none rfl _ _ _) rfl ?_
  go_wp2
  go_end0
  exact ⟨rfl, Below.refl _ _⟩
def bsVal (x : BSpan) : Span := x.1
theorem toBS {xs : List Span} (h : ∀ x ∈ xs, -10000000000000 ≤ x.lo ∧ x.lo ≤ 10000000000000) : ∃ L : List BSpan, L.map bsVal = xs := by
  induction xs with
  | nil => exact ⟨[], rfl⟩
  | cons x xs ih =>
    obtain ⟨L, hL⟩ := ih fun y hy => h y (by simp [hy])
    exact ⟨⟨x, h x (by simp)⟩ :: L, by show x :: L.map bsVal = x :: xs; rw [hL]⟩
theorem flat_bs (L : List BSpan) : L.flatMap encBS = (L.map bsVal).flatMap encSp := by
  induction L with
  | nil => rfl
  | cons x L ih => show encSp x.1 ++ L.flatMap encBS = encSp x.1 ++ (L.map bsVal).flatMap encSp; rw [ih]
theorem sortAll_any (sp : List Span) (hb : ∀ x ∈ sp, -10000000000000 ≤ x.lo ∧ x.lo ≤ 10000000000000) (hl : sp.length ≤ 100000) (base : Nat) (v : Value) (w : World) (hown : w.ownsRow base 44 2 v sp.length (sp.flatMap encSp)) :
    Calls Tryz.prog 88 #[v, .func (.func 89) #[] #[]] w fun e w' => e = .returned (.tuple #[]) ∧ ∃ sp' : List Span, sp'.Perm sp ∧ (sp'.Pairwise fun a b => a.lo ≤ b.lo) ∧
      w'.ownsRow base 44 2 v sp.length (sp'.flatMap encSp) ∧ w.grownBy w' v.ownBlock := by
  rcases hown.2 with ⟨rfl, h0⟩ | ⟨g, cap, cur, rfl, hbg, hg, _⟩
  · refine (sortNil_any 0 w).mono ?_
    rintro e w' ⟨rfl, hb'⟩
    obtain rfl : sp = [] := List.eq_nil_of_length_eq_zero h0
    exact ⟨rfl, [], List.Perm.refl _, List.Pairwise.nil, World.ownsRow_nil _ _ _ _, hb'.os, hb'.tape, hb'.output, hb'.size, fun i hi _ => hb'.block i hi⟩
  · obtain ⟨L, rfl⟩ := toBS hb
    have hL : (L.map bsVal).length = L.length := List.length_map _
    rw [hL] at hown hl ⊢
    rw [← flat_bs] at hown
    refine (sortSpans_any L base g cap w hown hl).mono ?_
    rintro e w' ⟨rfl, L', hp, hpw, ho, hgr⟩
    exact ⟨rfl, L'.map bsVal, hp.map _, List.pairwise_map.2 hpw, by rw [← flat_bs]; exact ho, hgr⟩
end Go.Proofs.YtcgnpndfhhcplaaGreatDoor
