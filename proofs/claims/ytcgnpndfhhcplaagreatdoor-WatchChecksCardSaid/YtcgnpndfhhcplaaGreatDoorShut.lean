/-
  Over any program: a return behind several ranges over functions, each of which left a block for deferred calls.
-/
import Derived.Test.YtcgnpndfhhcplaaGreatDoorRange
namespace W7
open Go Go.RowKit
/-- blocks for the deferred calls of rounds -/
def mkD (D : Nat) : Deferred := { target := .collected D, args := #[] }
def DsOk (N : Nat) (Ds : List Nat) (W : World) : Prop := Ds.Nodup ∧ ∀ D ∈ Ds, N ≤ D ∧ W.heap[D]? = some (.deferred (some []))
/-- what shutting these blocks leaves as it was -/
structure Shut (Ds : List Nat) (W W' : World) : Prop where
  os : W'.os = W.os
  tape : W'.tape = W.tape
  output : W'.output = W.output
  size : W'.heap.size = W.heap.size
  same : ∀ i, i ∉ Ds → W'.heap[i]? = W.heap[i]?
theorem leavesM_all {F : Fence} {n : Nat} {P : Program} {fn : Func} {tmps : Array Value} {R : Ending → World → Prop} {v : Value} (hv : ∀ W', (results fn tmps).run P W' = .ok v W') :
    ∀ (Ds : List Nat) (W : World) (N : Nat), DsOk N Ds W → (∀ W', Shut Ds W W' → R (.returned v) W') → LeavesInM F n P fn tmps R (Ds.map mkD) .returning W
  | [], W, _, _, hR => ⟨v, hv W, hR W ⟨rfl, rfl, rfl, rfl, fun _ _ => rfl⟩⟩
  | D :: Ds, W, N, ⟨hn, hD⟩, hR => by
    rw [List.nodup_cons] at hn
    have h0 := (hD D (by simp)).2
    refine ⟨by simp, .inl ⟨D, _, rfl, run_takeDeferred h0, ?_⟩⟩
    refine leavesM_all hv Ds _ N ⟨hn.2, fun D' h' => ⟨(hD D' (by simp [h'])).1, ?_⟩⟩ fun W' hS => hR W' ⟨hS.os, hS.tape, hS.output, hS.size.trans (by simp), fun i hi => ?_⟩
    · have hne : D' ≠ D := fun e => hn.1 (e ▸ h')
      rw [World.putObj_heap_other hne]
      exact (hD D' (by simp [h'])).2
    · simp only [List.mem_cons, not_or] at hi
      rw [hS.same i hi.2, World.putObj_heap_other hi.1]
theorem own_shut {W W' : World} {Ds : List Nat} {N base e size n : Nat} {v : Value} {xs : List Value} (hS : Shut Ds W W') (hD : DsOk N Ds W) (h : W.ownsRow base e size v n xs) : W'.ownsRow base e size v n xs := by
  rcases h.2 with ⟨rfl, h0⟩ | ⟨g, cap, cur, rfl, hb, hc, hrest⟩
  · exact ⟨h.1, .inl ⟨rfl, h0⟩⟩
  · have hg : g ∉ Ds := fun hg => by
      have := (hD.2 g hg).2
      rw [hc] at this; cases this
    exact ⟨h.1, .inr ⟨g, cap, cur, rfl, hb, (hS.same g hg).trans hc, hrest⟩⟩
theorem below_shut {A W W' : World} {Ds : List Nat} {B N : Nat} (hS : Shut Ds W W') (hD : DsOk N Ds W) (h : Below B A W) (hN : B ≤ N) : Below B A W' :=
  ⟨hS.os.trans h.os, hS.tape.trans h.tape, hS.output.trans h.output, by have := h.size; have := hS.size; omega, fun i hi => (hS.same i fun hm => by have := (hD.2 i hm).1; omega).trans (h.block i hi)⟩
theorem DsOk.below {Ds : List Nat} {N : Nat} {W W' : World} (h : DsOk N Ds W) (hb : Below W.heap.size W W') : DsOk N Ds W' :=
  ⟨h.1, fun D hD => ⟨(h.2 D hD).1, (hb.block D (Array.getElem?_eq_some_iff.1 (h.2 D hD).2).1).trans (h.2 D hD).2⟩⟩
theorem DsOk.cons {Ds : List Nat} {N B D : Nat} {W W' : World} (h : DsOk N Ds W) (hb : Below B W W') (hW : W.heap.size ≤ B) (hD : W.heap.size ≤ D) (hN : N ≤ W.heap.size) (hk : W'.heap[D]? = some (.deferred (some []))) : DsOk N (D :: Ds) W' := by
  refine ⟨List.nodup_cons.2 ⟨fun hm => ?_, h.1⟩, fun D' hD' => ?_⟩
  · have := (Array.getElem?_eq_some_iff.1 (h.2 D hm).2).1; omega
  · rcases List.mem_cons.1 hD' with rfl | hm
    · exact ⟨by omega, hk⟩
    · have := (Array.getElem?_eq_some_iff.1 (h.2 D' hm).2).1
      exact ⟨(h.2 D' hm).1, (hb.block D' (by omega)).trans (h.2 D' hm).2⟩
/-- rows that do not lie in one block -/
def Sep (a b : Value) : Prop := ∀ k, a.ownBlock = some k → b.ownBlock ≠ some k
theorem own_other {w w' : World} {base e size n : Nat} {a b : Value} {xs : List Value} (h : w.ownsRow base e size b n xs) (hg : w.grownBy w' a.ownBlock) (hs : Sep a b) : w'.ownsRow base e size b n xs :=
  h.kept hg (by
    cases hb : b.ownBlock with
    | none => exact .inl rfl
    | some k => exact .inr fun e => hs k e.symm hb)
theorem Sep.symm {a b : Value} (h : Sep a b) : Sep b a := fun k h1 h2 => h k h2 h1
theorem Sep.grow {w : World} {base e size n : Nat} {a a' b : Value} {xs : List Value} (h : Sep a b) (hb : w.ownsRow base e size b n xs) (ha : a'.ownBlock = a.ownBlock ∨ ∃ k, a'.ownBlock = some k ∧ w.heap.size ≤ k) : Sep a' b := by
  intro k h1 h2
  rcases ha with h3 | ⟨k', h3, h4⟩
  · exact h k (h3 ▸ h1) h2
  · rw [h3] at h1; cases h1
    rcases hb.2 with ⟨rfl, _⟩ | ⟨g, cap, cur, rfl, _, hc, _⟩
    · simp [Value.ownBlock] at h2
    · simp [Value.ownBlock] at h2
      subst h2
      have := (Array.getElem?_eq_some_iff.1 hc).1; omega
end W7
