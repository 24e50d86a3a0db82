/-
  Between an owned row and the sort's own words: what a row of k cells an element holds, ahead of the library's sort and behind it. Over any program.
-/
import Derived.Test.YtcgnpndfhhcplaaGreatDoorMath2
import Derived.Shelf.SlSortCmp.WholeK
namespace W7
open Go Go.RowKit Go.Shelf Go.Sort Go.Proofs
theorem flatK_flatMap {α : Type} [Inhabited α] {enc : α → List Value} {k : Nat} (hk : ∀ x, (enc x).length = k) (h0 : 0 < k) (l : List α) : flatK enc k l.toArray = (l.flatMap enc).toArray := by
  apply ext_get!
  · simp [flatMap_len hk]
  · intro t ht
    simp only [size_flatK, List.size_toArray] at ht
    rw [get_flatK _ _ _ _ (by simpa using ht)]
    have hi : t / k < l.length := Nat.div_lt_of_lt_mul (by rw [Nat.mul_comm]; exact ht)
    have hj : t % k < k := Nat.mod_lt _ h0
    have e := flatMap_get hk l (t / k) (t % k) hi hj
    rw [Nat.mul_comm, Nat.div_add_mod] at e
    have hlt : t < (l.flatMap enc).length := by rw [flatMap_len hk]; exact ht
    have h2 : t % k < (enc l[t / k]).length := by rw [hk]; exact hj
    rw [List.getElem?_eq_getElem hlt, List.getElem?_eq_getElem h2] at e
    have e' := Option.some.inj e
    rw [getElem!_pos l.toArray (t / k) (by simpa using hi), getElem!_pos (l.flatMap enc).toArray t (by simpa using hlt)]
    simp only [List.getElem_toArray]
    rw [getElem!_pos (enc l[t / k]) (t % k) h2]
    exact e'.symm
theorem holdsK_of_own {α : Type} [Inhabited α] {enc : α → List Value} {k : Nat} (hk : ∀ x, (enc x).length = k) (h0 : 0 < k) {w : World} {base g cap n e : Nat} {l : List α}
    (h : w.ownsRow base e k (.slice (some ⟨g, 0, none⟩) n cap) n (l.flatMap enc)) : HoldsK enc k w g 0 l.toArray := by
  intro j hj
  rw [flatK_flatMap hk h0] at hj ⊢
  have hj' : j < (l.flatMap enc).length := by simpa using hj
  have hn : n * k = (l.flatMap enc).length := h.1.symm
  rw [Nat.zero_add]
  refine ⟨?_, h.frozenAt j⟩
  rw [h.cellAt j (by omega), List.getElem?_eq_getElem hj']
  simp [List.getElem?_eq_getElem hj']
theorem own_of_sorted {α : Type} [Inhabited α] {enc : α → List Value} {k : Nat} (hk : ∀ x, (enc x).length = k) (h0 : 0 < k) {w : World} {base g cap n e m : Nat} {os : Array Obj} {l l' : List α}
    (h : w.ownsRow base e k (.slice (some ⟨g, 0, none⟩) n cap) n (l.flatMap enc)) (hl : l'.length = l.length) :
    (sortWorldK enc k w g 0 m l'.toArray os).ownsRow base e k (.slice (some ⟨g, 0, none⟩) n cap) n (l'.flatMap enc) := by
  have hn : n * k = l.length * k := by have := h.1; rw [flatMap_len hk] at this; omega
  rcases h.2 with ⟨e0, _⟩ | ⟨g', cap', cur, e0, hb, hg, hnc, hm, hs, ht⟩
  · cases e0
  · injection e0 with e1 _ e3
    injection e1 with e1
    injection e1 with e1
    subst e1; subst e3
    have hglt : g < w.heap.size := (Array.getElem?_eq_some_iff.1 hg).1
    refine ⟨by rw [flatMap_len hk, hl, hn], .inr ⟨g, cap, putCells id 0 (l'.flatMap enc).toArray cur, rfl, hb, ?_, hnc, hm, by simpa [putCells] using hs, ?_⟩⟩
    · unfold sortWorldK putRowK
      rw [flatK_flatMap hk h0, heap_grow_old _ _ (by simpa using hglt)]
      simp [putRow, mapBlock, Sort.ahead, Array.getElem?_modify, hg, onCells]
    · have hcs : n * k ≤ cur.size := by rw [hs]; exact Nat.mul_le_mul_right _ hnc
      have hll : (l'.flatMap enc).length = n * k := by rw [flatMap_len hk, hl, hn]
      apply List.ext_getElem?
      intro j
      by_cases hj : j < n * k
      · rw [List.getElem?_take_of_lt hj, Array.getElem?_toList]
        simp only [putCells, Array.getElem?_mapIdx, Array.getElem?_eq_getElem (show j < cur.size by omega), Option.map_some]
        have hjl : j < (l'.flatMap enc).length := by omega
        rw [if_pos ⟨Nat.zero_le _, by rw [List.size_toArray]; omega⟩, List.getElem?_eq_getElem hjl]
        simp [List.getElem?_eq_getElem hjl]
      · rw [List.getElem?_take_eq_none (by omega), List.getElem?_eq_none (by omega)]
theorem grown_of_sorted {α : Type} [Inhabited α] {enc : α → List Value} {k : Nat} {w : World} {g m : Nat} {os : Array Obj} {d : Array α} : w.grownBy (sortWorldK enc k w g 0 m d os) (some g) := by
  refine ⟨rfl, rfl, rfl, by simp [sortWorldK, putRowK, putRow, mapBlock, Sort.ahead, grow], fun i hi hne => ?_⟩
  unfold sortWorldK putRowK
  rw [heap_grow_old _ _ (by simpa [putRow, mapBlock, Sort.ahead] using hi)]
  have : g ≠ i := fun e => hne (by rw [e])
  simp [putRow, mapBlock, Sort.ahead, Array.getElem?_modify, this]
end W7
