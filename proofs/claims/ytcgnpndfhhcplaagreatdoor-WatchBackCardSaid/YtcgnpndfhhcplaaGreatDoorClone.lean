/-
  slices.Clone at rows of ints; the subsets of so many gauges in their order; rows of ints that the iterator has laid. Conditions: lengths.
-/
import Derived.Test.YtcgnpndfhhcplaaGreatDoorRange
import Derived.Test.YtcgnpndfhhcplaaGreatDoorLeaf
import Derived.WalkSpells
namespace Go.Proofs.YtcgnpndfhhcplaaGreatDoor
open Go.RowKit W7
theorem elemInt : Elem Tryz.prog 57 3 (.int .i64 0) 1 8 := Elem.mk' Tryz.underlying57 (by kernel_rfl) rfl (by decide) (by decide)
/-- the subsets of the numbers from at on, k of them, with what is had already, in their order -/
def subsN (many : Nat) : Nat → Nat → List Int → List (List Int)
  | 0, _, h => if h.length = many then [h] else []
  | k + 1, at', h => if h.length = many then [h] else subsN many k (at' + 1) (h ++ [(at' : Int)]) ++ subsN many k (at' + 1) h
theorem subsN_hit {many k at' : Nat} {h : List Int} (hh : h.length = many) : subsN many k at' h = [h] := by cases k <;> simp [subsN, hh]
theorem subsN_succ {many k at' : Nat} {h : List Int} (hh : h.length ≠ many) : subsN many (k + 1) at' h = subsN many k (at' + 1) (h ++ [(at' : Int)]) ++ subsN many k (at' + 1) h := by simp [subsN, hh]
theorem subsN_zero {many at' : Nat} {h : List Int} (hh : h.length ≠ many) : subsN many 0 at' h = [] := by simp [subsN, hh]
/-- a row of ints in a block from B0 on -/
def IRow (B0 : Nat) (W : World) (A : Option Addr) (h : List Int) : Prop :=
  0 < h.length → ∃ b cs fz, A = some ⟨b, 0, none⟩ ∧ B0 ≤ b ∧ W.heap[b]? = some (.cells cs 3 fz) ∧ ∀ j (hj : j < h.length), cs[j]? = some (.int .i64 h[j])
theorem IRow.sl {B0 : Nat} {W : World} {A : Option Addr} {h : List Int} (hr : IRow B0 W A h) : Sl W W.heap.size 1 encInt1 A h := fun h0 => by
  obtain ⟨b, cs, fz, rfl, _, hb, hc⟩ := hr h0
  refine ⟨b, 0, rfl, (Array.getElem?_eq_some_iff.1 hb).1, fun j hj i v hv => ?_⟩
  cases i with
  | zero =>
    simp [encInt1] at hv
    subst hv
    have : (⟨b, 0 + j * 1 + 0, none⟩ : Addr) = ⟨b, j, none⟩ := by simp
    rw [this]
    simp only [World.cell?, hb]
    simpa using hc j hj
  | succ i => simp [encInt1] at hv
theorem IRow.of_own {B0 base n : Nat} {W : World} {g cap : Nat} {h : List Int} (ho : W.ownsRow base 3 1 (.slice (some ⟨g, 0, none⟩) n cap) n (h.map (.int .i64))) (hb : B0 ≤ base) : IRow B0 W (some ⟨g, 0, none⟩) h := fun h0 => by
  rcases ho.2 with ⟨h1, _⟩ | ⟨g', cap', cur, h1, hbg, hg, hn, _, hcs, ht⟩
  · cases h1
  · cases h1
    refine ⟨g, cur, (0, 0), rfl, by omega, hg, fun j hj => ?_⟩
    have hl : (h.map (Value.int .i64)).length = n := by have := ho.1; omega
    rw [List.length_map] at hl
    have : (h.map (Value.int .i64))[j]? = cur.toList[j]? := by rw [← ht, List.getElem?_take_of_lt (by omega)]
    rw [← Array.getElem?_toList, ← this]
    simp [hj]
theorem IRow.below {B0 : Nat} {W W' : World} {A : Option Addr} {h : List Int} (hr : IRow B0 W A h) (hb : Below W.heap.size W W') : IRow B0 W' A h := fun h0 => by
  obtain ⟨b, cs, fz, rfl, h1, h2, hc⟩ := hr h0
  exact ⟨b, cs, fz, rfl, h1, (hb.block _ (Array.getElem?_eq_some_iff.1 h2).1).trans h2, hc⟩
/-- what a round keeps: whatever holds cells and lies from B0 on, but the rows of spans -/
structure KeepI (B0 : Nat) (W W' : World) : Prop where
  size : W.heap.size ≤ W'.heap.size
  same : ∀ b cs e fz, B0 ≤ b → W.heap[b]? = some (.cells cs e fz) → e ≠ 44 → W'.heap[b]? = some (.cells cs e fz)
theorem KeepI.trans {B0 : Nat} {A B C : World} (h : KeepI B0 A B) (k : KeepI B0 B C) : KeepI B0 A C :=
  ⟨Nat.le_trans h.size k.size, fun b cs e fz hb h1 he => k.same b cs e fz hb (h.same b cs e fz hb h1 he) he⟩
theorem KeepI.of_below {B0 : Nat} {A B : World} (h : Below A.heap.size A B) : KeepI B0 A B :=
  ⟨h.size, fun b _ _ _ _ h1 _ => (h.block b (Array.getElem?_eq_some_iff.1 h1).1).trans h1⟩
theorem IRow.keep {B0 : Nat} {W W' : World} {A : Option Addr} {h : List Int} (hr : IRow B0 W A h) (hb : KeepI B0 W W') : IRow B0 W' A h := fun h0 => by
  obtain ⟨b, cs, fz, rfl, h1, h2, hc⟩ := hr h0
  exact ⟨b, cs, fz, rfl, h1, hb.same _ _ _ _ h1 h2 (by decide), hc⟩
/-- nil, or a row's address -/
def Hv (A : Option Addr) (c : Nat) (h : List Int) : Prop := (A = none ∧ c = 0 ∧ h = []) ∨ ∃ b, A = some ⟨b, 0, none⟩ ∧ 0 < h.length
set_option maxHeartbeats 1000000 in
set_option maxRecDepth 100000 in
/-- slices.Clone: the row lies in a block of its own -/
theorem cloneInt_any (h : List Int) (A : Option Addr) (c : Nat) (w : World) (hA : Sl w w.heap.size 1 encInt1 A h) (hv : Hv A c h) (hl : h.length ≤ 100) :
    Calls Tryz.prog 92 #[.slice A h.length c] w fun e w' => ∃ v, e = .returned v ∧ w'.ownsRow w.heap.size 3 1 v h.length (h.map (.int .i64)) ∧ Below w.heap.size w w' := by
  have heq := fun (w : World) (a : Option Addr) (n c : Nat) => Lib.run_eql_slice_nil (P := Tryz.prog) w 57 3 a n c 0 0 Tryz.underlying57
  rcases hv with ⟨rfl, rfl, rfl⟩ | ⟨b, rfl, h0⟩
  · go_enter Tryz.func92, Tryz.ntmps92
    go_wp2
    go_ret
    exact ⟨_, rfl, World.ownsRow_nil _ _ _ _, Below.refl _ _⟩
  · have HS := Lib.hid (show Src (w.alloc (.cells #[] 3)) 1 (some ⟨b, 0, none⟩) h.length (h.map (.int .i64)) by
      obtain ⟨b', o, e, hb, hc⟩ := hA h0
      cases e
      refine .inr ⟨_, rfl, by simp, fun j u hu => ?_⟩
      rw [List.getElem?_map] at hu
      have hj : j < h.length := by
        rcases Nat.lt_or_ge j h.length with h1 | h1
        · exact h1
        · rw [List.getElem?_eq_none h1] at hu; cases hu
      rw [List.getElem?_eq_getElem hj] at hu
      cases hu
      rw [show (⟨b, 0, none⟩ : Addr).add j = ⟨b, j, none⟩ by unfold Addr.add; split <;> simp_all, World.cell?_alloc_lt _ _ _ hb]
      have := hc j hj 0 (.int .i64 h[j]) rfl
      simpa using this)
    have Hone : Hid (∀ u ∈ h.map (Value.int .i64), u.oneCell' = true) := by
      intro u hu; rw [List.mem_map] at hu; obtain ⟨x, _, rfl⟩ := hu; rfl
    have HO := Lib.hid (World.ownsRow_lit (base := w.heap.size) (e := 3) (size := 1) w #[] 0 (Nat.le_refl _) (by unfold maxLen; omega) rfl)
    clear hA
    go_enter Tryz.func92, Tryz.ntmps92
    go_wp2_with (at_builtin; refine wpList_appendL rfl _ _ 57 rfl w.heap.size 3 _ 1 8 elemInt _ _ _ rfl HO.out _ _ _ _ rfl HS.out Hone.out (by omega) (by simp) ?_; intro v1 w1 hown1 hb1 hsz1 hg1 hblk1; have Hown1 := Lib.hid hown1; have Hb1 := Lib.hid hb1; have Hsz1 := Lib.hid hsz1; clear hown1 hb1 hsz1 hg1 hblk1)
    go_ret
    exact ⟨_, rfl, by have := Hown1.out; simpa using this, ((Below.refl _ _).alloc (Nat.le_refl _) _).trans Hb1.out⟩
end Go.Proofs.YtcgnpndfhhcplaaGreatDoor
