/-
  Contracts of the two sorts that package watch calls: spans by their least value, nodes by their time. Conditions: how the row lies, bounds, and at most 19 nodes.
-/
import Derived.Test.YtcgnpndfhhcplaaGreatDoorSortPlain
import Derived.Test.YtcgnpndfhhcplaaGreatDoorSortB
import Derived.Test.YtcgnpndfhhcplaaGreatDoorLeaf
namespace Go.Proofs.YtcgnpndfhhcplaaGreatDoor
open Go.RowKit Go.Shelf Go.Sort W7
/-- spans whose ends are not too great -/
def BSpan : Type := { s : Span // -10000000000000 ≤ s.lo ∧ s.lo ≤ 10000000000000 }
instance : Inhabited BSpan := ⟨⟨⟨0, 0⟩, by decide, by decide⟩⟩
def encBS (s : BSpan) : List Value := encSp s.1
/-- nodes at a time -/
def BNode : Type := { x : K // 0 ≤ x.t ∧ x.t ≤ 100000 }
instance : Inhabited BNode := ⟨⟨⟨0, 0, 0⟩, by decide, by decide⟩⟩
def encBN (x : BNode) : List Value := encK x.1
set_option maxHeartbeats 1000000 in
theorem possible1_any (x y : BSpan) (W : World) :
    Calls Tryz.prog 89 #[.agg #[.int .i64 x.1.lo, .int .i64 x.1.hi], .agg #[.int .i64 y.1.lo, .int .i64 y.1.hi]] W fun e w' => e = .returned (.int .i64 (x.1.lo - y.1.lo)) ∧ ∃ q os', w' = grow (W.drewN q) os' := by
  obtain ⟨⟨xl, xh⟩, h1, h2⟩ := x
  obtain ⟨⟨yl, yh⟩, h3, h4⟩ := y
  simp only at h1 h2 h3 h4 ⊢
  go_enter Tryz.func89, Tryz.ntmps89
  go_wp2
  go_ret
  exact ⟨rfl, 0, _, by rw [alloc_eq_grow, alloc_eq_grow, grow_grow]; rfl⟩
set_option maxHeartbeats 1000000 in
theorem nodes1_any (x y : BNode) (W : World) :
    Calls Tryz.prog 97 #[.agg #[.int .i64 x.1.t, .int .i64 x.1.lo, .int .i64 x.1.hi], .agg #[.int .i64 y.1.t, .int .i64 y.1.lo, .int .i64 y.1.hi]] W fun e w' => e = .returned (.int .i64 (x.1.t - y.1.t)) ∧ ∃ q os', w' = grow (W.drewN q) os' := by
  obtain ⟨⟨xt, xl, xh⟩, h1, h2⟩ := x
  obtain ⟨⟨yt, yl, yh⟩, h3, h4⟩ := y
  simp only at h1 h2 h3 h4 ⊢
  go_enter Tryz.func97, Tryz.ntmps97
  go_wp2
  go_ret
  exact ⟨rfl, 0, _, by rw [alloc_eq_grow, alloc_eq_grow, grow_grow]; rfl⟩
theorem swoSpan : SWO (ltOf fun x y : BSpan => x.1.lo - y.1.lo) where
  irrefl x := by simp [ltOf]
  trans x y z h1 h2 := by simp [ltOf] at *; omega
  ntrans x y z h1 h2 := by simp [ltOf] at *; omega
theorem swoNode : SWO (ltOf fun x y : BNode => x.1.t - y.1.t) where
  irrefl x := by simp [ltOf]
  trans x y z h1 h2 := by simp [ltOf] at *; omega
  ntrans x y z h1 h2 := by simp [ltOf] at *; omega
theorem perm_sorted {α : Type} [Inhabited α] {lt : α → α → Bool} {l : List α} {d' : Array α} (hp : PermIn 0 l.toArray.size l.toArray d') (hs : SortedIn lt 0 l.toArray.size d') :
    d'.toList.Perm l ∧ d'.toList.Pairwise fun a b => lt b a = false := by
  obtain ⟨hz, _, hp⟩ := hp
  have e1 : d'.extract 0 l.toArray.size = d' := by rw [← hz]; exact Array.extract_size
  have e2 : l.toArray.extract 0 l.toArray.size = l.toArray := Array.extract_size
  rw [e1, e2] at hp
  refine ⟨hp, ?_⟩
  rw [List.pairwise_iff_getElem]
  intro i j hi hj hij
  have h := hs i j (Nat.zero_le _) hij (by simpa [hz] using hj)
  simp only [Array.length_toList] at hi hj
  rw [getElem!_pos d' j hj, getElem!_pos d' i hi] at h
  simpa using h
def SortedRow {α : Type} (enc : α → List Value) (k : Nat) (R : α → α → Prop) (l : List α) (base e g cap : Nat) (w : World) (en : Ending) (w' : World) : Prop :=
  en = .returned (.tuple #[]) ∧ ∃ l' : List α, l'.Perm l ∧ l'.Pairwise R ∧ w'.ownsRow base e k (.slice (some ⟨g, 0, none⟩) l.length cap) l.length (l'.flatMap enc) ∧ w.grownBy w' (some g)
theorem sortSpans_any (l : List BSpan) (base g cap : Nat) (w : World) (hown : w.ownsRow base 44 2 (.slice (some ⟨g, 0, none⟩) l.length cap) l.length (l.flatMap encBS)) (hl : l.length ≤ 100000) :
    Calls Tryz.prog 88 #[.slice (some ⟨g, 0, none⟩) l.length cap, .func (.func 89) #[] #[]] w
      (SortedRow encBS 2 (fun a b => a.1.lo ≤ b.1.lo) l base 44 g cap w) := by
  have eg : ∀ args w, (callFunc 89 args).run Tryz.prog w = .ok (.enter 89 args) w := enters_of Tryz.func89 (by kernel_rfl) rfl
  have hcon := AnyQ.slices_SortFunc Tryz.sortSpan 2 Tryz.isAgg44 Tryz.sizeOf44 encBS (fun _ => rfl) (fun x v hv => by simp [encBS, encSp] at hv; rcases hv with rfl | rfl <;> rfl) (fun x y => x.1.lo - y.1.lo) swoSpan 89 #[] g 0 cap l.toArray w eg
    (fun _ _ _ _ x y => possible1_any x y _) (holdsK_of_own (enc := encBS) (k := 2) (fun _ => rfl) (by omega) hown) (hown.lt g rfl).2 (by rw [List.size_toArray]; omega)
  change Calls Tryz.prog 88 _ _ _ at hcon
  rw [List.size_toArray] at hcon
  refine hcon.mono fun e w' ⟨he, d', n, os, hp, hs, hw⟩ => ⟨he, d'.toList, ?_⟩
  obtain ⟨h1, h2⟩ := perm_sorted hp hs
  refine ⟨h1, h2.imp (fun h => by simp [ltOf] at h; omega), ?_⟩
  rw [hw]
  have := own_of_sorted (enc := encBS) (k := 2) (fun _ => rfl) (by omega) (m := n) (os := os) hown h1.length_eq
  exact ⟨by simpa using this, grown_of_sorted⟩
theorem insNodes_any (l : List BNode) (base g cap : Nat) (w : World) (hown : w.ownsRow base 132 3 (.slice (some ⟨g, 0, none⟩) l.length cap) l.length (l.flatMap encBN)) (hl : l.length ≤ 100000) :
    Calls Tryz.prog 142 #[.slice (some ⟨g, 0, none⟩) l.length cap, .int .i64 0, .int .i64 l.length, .func (.func 97) #[] #[]] w
      (SortedRow encBN 3 (fun a b => a.1.t ≤ b.1.t) l base 132 g cap w) := by
  have eg : ∀ args w, (callFunc 97 args).run Tryz.prog w = .ok (.enter 97 args) w := enters_of Tryz.func97 (by kernel_rfl) rfl
  have hcon := AnyQ.insertionSortCmpFunc Tryz.insNode 3 Tryz.isAgg132 Tryz.sizeOf132 encBN (fun _ => rfl) (fun x v hv => by simp [encBN, encK] at hv; rcases hv with rfl | rfl | rfl <;> rfl) (fun x y => x.1.t - y.1.t) 97 #[] g 0 cap 0 l.length l.toArray w eg
    (fun _ _ _ _ x y => nodes1_any x y _) (holdsK_of_own (enc := encBN) (k := 3) (fun _ => rfl) (by omega) hown) (hown.lt g rfl).2 (by omega) (by simp) (by rw [List.size_toArray]; omega)
  change Calls Tryz.prog 142 _ _ _ at hcon
  rw [List.size_toArray] at hcon
  refine hcon.mono fun e w' ⟨he, n, os, hw⟩ => ?_
  have h := insertionSort_holds (lt := ltOf fun x y : BNode => x.1.t - y.1.t) swoNode l.toArray 0 l.length (Nat.zero_le _) (by simp)
  obtain ⟨h1, h2⟩ := perm_sorted (l := l) (by simpa using h.1) (by simpa using h.2)
  refine ⟨he, _, h1, h2.imp (fun h => by simp [ltOf] at h; omega), ?_⟩
  rw [hw]
  have := own_of_sorted (enc := encBN) (k := 3) (fun _ => rfl) (by omega) (m := n) (os := os) hown h1.length_eq
  exact ⟨by simpa using this, grown_of_sorted⟩
end Go.Proofs.YtcgnpndfhhcplaaGreatDoor
