/-
  Over any program: a block that has just been laid, seen from later worlds.
-/
import Derived.Test.YtcgnpndfhhcplaaGreatDoorRegion
namespace W7
open Go Go.RowKit
structure BlkAt (W X : World) (g : Nat) (cs : List Value) : Prop where
  lo : W.heap.size ≤ g
  hi : g < X.heap.size
  cell : ∀ j v, cs[j]? = some v → X.cell? ⟨g, j, none⟩ = some v
  free : ∀ j, X.frozen? ⟨g, j, none⟩ = false
theorem BlkAt.below {W X Y : World} {g : Nat} {cs : List Value} (h : BlkAt W X g cs) (hb : Below X.heap.size X Y) : BlkAt W Y g cs :=
  ⟨h.lo, Nat.lt_of_lt_of_le h.hi hb.size, fun j v hv => (hb.cell (p := ⟨g, j, none⟩) h.hi).trans (h.cell j v hv), fun j => (hb.frozen (p := ⟨g, j, none⟩) h.hi).trans (h.free j)⟩
theorem BlkAt.new {W X : World} {cs : Array Value} {e : TypeId} (h : W.heap.size ≤ X.heap.size) : BlkAt W (X.alloc (.cells cs e)) X.heap.size cs.toList :=
  ⟨h, by simp, fun j v hv => alloc_cell (by simpa using hv), fun j => alloc_free⟩
end W7
