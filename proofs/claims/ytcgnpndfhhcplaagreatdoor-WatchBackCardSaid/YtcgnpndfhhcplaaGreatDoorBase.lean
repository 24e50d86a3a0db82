/-
  Plain words on worlds and slices, over any program: what a slice of structs reads as, an append of one element to a row of the call's own.
-/
import Derived.WalkKit
import Derived.Below
import Derived.Lib.Hide
import Derived.Laws.OwnMore
import Derived.Deep.Draws
import Derived.Maps.AppendAt
namespace W7
open Go Go.RowKit

/-- what is known of a slice type's element -/
structure Elem (P : Program) (t e : TypeId) (z : Value) (size bytes : Nat) : Prop where
  ht : P.underlying t = some (.slice e)
  hi : ∃ i, P.info? e = some i ∧ i.zero = some z ∧ i.size = size ∧ i.bytes = bytes
  hzs : z.cells.size = size
  hsz : 0 < size
  hby : bytes ≤ 1000
theorem Elem.mk' {P : Program} {t e : TypeId} {z : Value} {size bytes : Nat} (ht : P.underlying t = some (.slice e))
    (hi : (P.info? e).map (fun i => (i.zero, i.size, i.bytes)) = some (some z, size, bytes)) (hzs : z.cells.size = size) (hsz : 0 < size) (hby : bytes ≤ 1000) : Elem P t e z size bytes := by
  obtain ⟨i, h⟩ := info_parts hi
  exact ⟨ht, ⟨i, h⟩, hzs, hsz, hby⟩

theorem cells_new (w : World) (e : TypeId) (cs : Array Value) : ∀ j u, cs.toList[j]? = some u → (w.alloc (.cells cs e)).cell? ((⟨w.heap.size, 0, none⟩ : Addr).add j) = some u := by
  intro j u hu
  have h : (w.alloc (.cells cs e)).heap[w.heap.size]? = some (.cells cs e (0, 0)) := heap_alloc_new w _
  have hadd : (⟨w.heap.size, 0, none⟩ : Addr).add j = ⟨w.heap.size, j, none⟩ := by unfold Addr.add; split <;> simp_all
  rw [hadd]
  simp only [World.cell?, h]
  simpa using hu

theorem own_below {w w' : World} {base e size n : Nat} {v : Value} {xs : List Value} (h : w.ownsRow base e size v n xs) (hb : Below w.heap.size w w') : w'.ownsRow base e size v n xs :=
  h.kept (row := none) ⟨hb.os, hb.tape, hb.output, hb.size, fun i hi _ => hb.block i hi⟩ (Classical.em _)
/-- APPEND ONE ELEMENT that has just been laid in a block of its own. -/
theorem wpList_append1 {P : Program} {w : World} {ops : Array Oper} {rest : List Oper} {o : Oper} {a : Act} {Q : Exit → Act → World → Prop} (hgd : o.guard = none) (s x : Operand) (t : TypeId)
    (ho : o.op = .call { callee := .builtin .append, args := #[s, x], argTypes := #[t, t] })
    (base : Nat) (e : TypeId) (z : Value) (size bytes : Nat) (E : Elem P t e z size bytes)
    (v : Value) (n : Nat) (xs : List Value) (hs : a.eval s = v) (hown : w.ownsRow base e size v n xs)
    (cs : Array Value) (c p : Nat) (hx : a.eval x = .slice (some ⟨p, 0, none⟩) 1 c) (hp : p = w.heap.size) (hcs : cs.size = size) (h1 : ∀ u ∈ cs.toList, u.oneCell' = true)
    (hn : n ≤ 100000000) (hbase : base ≤ w.heap.size)
    (h : ∀ v' w', w'.ownsRow base e size v' (n + 1) (xs ++ cs.toList) → Below base w w' → w.heap.size < w'.heap.size → w.grownBy w' v.ownBlock → (v'.ownBlock = v.ownBlock ∨ ∃ k, v'.ownBlock = some k ∧ w.heap.size ≤ k) → wpList P ops Q rest (a.put o.dst v') w') :
    wpList P ops Q (o :: rest) a (w.alloc (.cells cs e)) := by
  obtain ⟨ht, ⟨i, hi, hz, hsize, hbytes⟩, hzs, hsz, hby⟩ := E
  have hw := hown.alloc (.cells cs e)
  have hbnd : (n + 1) * bytes ≤ 140737488355328 := by
    have : (n + 1) * bytes ≤ (n + 1) * 1000 := Nat.mul_le_mul_left _ hby
    omega
  obtain ⟨v', w', hrun, hown', hg, _, hblk⟩ := run_append_own_at (P := P) (w.alloc (.cells cs e)) base t o.type e i z size bytes ht hi hz hsize hbytes hzs hsz v n xs hw ⟨w.heap.size, 0, none⟩ 1 c cs.toList (by simp [hcs]) (cells_new w e cs) h1 (by unfold maxLen; omega) hbnd (by simp; omega)
  have hg2 : w.grownBy w' v.ownBlock := by
    refine ⟨hg.os, hg.tape, hg.output, ?_, fun k hk hne => ?_⟩
    · have := hg.size; simp at this; omega
    · rw [hg.block k (by simp; omega) hne]; exact Below.heap_alloc w _ k hk
  have hlt := hown.lt
  subst hp
  refine wpList_plain hgd fun K hK => ?_
  unfold Oper.wp execOp
  simp only [ho, resolve, invoke, builtin, Sem.run_bind, Sem.run_pure, Result.andThen_ok, List.map_toArray, List.map_cons, List.map_nil, hs, hx, hrun]
  exact hK _ _ (h v' w' hown' ((Below.refl _ _).grown hg2 hbase fun k hk => (hlt k hk).1) (by have := hg.size; simp at this; omega) hg2 (hblk.imp id fun h => ⟨_, h, by simp⟩))
theorem run_append_nil {P : Program} {w : World} {base : Nat} {t ty e : TypeId} {z : Value} {size bytes : Nat} (E : Elem P t e z size bytes) {v : Value} {n : Nat} {xs : List Value} (hown : w.ownsRow base e size v n xs) (c : Nat) :
    (Builtin.append_ #[t, t] ty #[v, .slice none 0 c]).run P w = .ok v w := by
  obtain ⟨ht, ⟨i, hi, hz, hsize, hbytes⟩, hzs, hsz, hby⟩ := E
  rcases hown.2 with ⟨rfl, rfl⟩ | ⟨g, cap, cur, rfl, _, _, hnc, _⟩
  · simp [Builtin.append_, run_underlying ht, Go.sizeOf, typeInfo, hi, Builtin.lenOf, Builtin.firstCells]
  · simp [Builtin.append_, run_underlying ht, Go.sizeOf, typeInfo, hi, Builtin.lenOf, Builtin.firstCells, hnc, storeCells]
/-- where the cells of a slice that is appended lie -/
def Src (w : World) (size : Nat) (A : Option Addr) (m : Nat) (cs : List Value) : Prop :=
  (A = none ∧ m = 0 ∧ cs = []) ∨ ∃ ad, A = some ad ∧ cs.length = m * size ∧ ∀ j u, cs[j]? = some u → w.cell? (ad.add j) = some u
/-- APPEND A WHOLE SLICE to a row of the call's own. -/
theorem wpList_appendL {P : Program} {w : World} {ops : Array Oper} {rest : List Oper} {o : Oper} {a : Act} {Q : Exit → Act → World → Prop} (hgd : o.guard = none) (s x : Operand) (t : TypeId)
    (ho : o.op = .call { callee := .builtin .append, args := #[s, x], argTypes := #[t, t] })
    (base : Nat) (e : TypeId) (z : Value) (size bytes : Nat) (E : Elem P t e z size bytes)
    (v : Value) (n : Nat) (xs : List Value) (hs : a.eval s = v) (hown : w.ownsRow base e size v n xs)
    (A : Option Addr) (m c : Nat) (cs : List Value) (hx : a.eval x = .slice A m c) (hsrc : Src w size A m cs) (h1 : ∀ u ∈ cs, u.oneCell' = true)
    (hn : n + m ≤ 100000000) (hbase : base ≤ w.heap.size)
    (h : ∀ v' w', w'.ownsRow base e size v' (n + m) (xs ++ cs) → Below base w w' → w.heap.size ≤ w'.heap.size → w.grownBy w' v.ownBlock → (v'.ownBlock = v.ownBlock ∨ ∃ k, v'.ownBlock = some k ∧ w.heap.size ≤ k) → wpList P ops Q rest (a.put o.dst v') w') :
    wpList P ops Q (o :: rest) a w := by
  have hlt := hown.lt
  have hbnd : (n + m) * bytes ≤ 140737488355328 := by
    have : (n + m) * bytes ≤ (n + m) * 1000 := Nat.mul_le_mul_left _ E.hby
    omega
  rcases hsrc with ⟨rfl, rfl, rfl⟩ | ⟨ad, rfl, hlen, hcell⟩
  · have hrun := run_append_nil (ty := o.type) E hown c
    refine wpList_plain hgd fun K hK => ?_
    unfold Oper.wp execOp
    simp only [ho, resolve, invoke, builtin, Sem.run_bind, Sem.run_pure, Result.andThen_ok, List.map_toArray, List.map_cons, List.map_nil, hs, hx, hrun]
    exact hK _ _ (h v w (by simpa using hown) (Below.refl _ _) (Nat.le_refl _) (World.grownBy.refl _ _) (.inl rfl))
  · obtain ⟨ht, ⟨i, hi, hz, hsize, hbytes⟩, hzs, hsz, hby⟩ := E
    obtain ⟨v', w', hrun, hown', hg, _, hblk⟩ := run_append_own_at (P := P) w base t o.type e i z size bytes ht hi hz hsize hbytes hzs hsz v n xs hown ad m c cs hlen hcell h1 (by unfold maxLen; omega) hbnd hbase
    refine wpList_plain hgd fun K hK => ?_
    unfold Oper.wp execOp
    simp only [ho, resolve, invoke, builtin, Sem.run_bind, Sem.run_pure, Result.andThen_ok, List.map_toArray, List.map_cons, List.map_nil, hs, hx, hrun]
    exact hK _ _ (h v' w' hown' ((Below.refl _ _).grown hg hbase fun k hk => (hlt k hk).1) hg.size hg (hblk.imp id fun h => ⟨_, h, Nat.le_refl _⟩))
theorem max_run (P : Program) (ts : Array TypeId) (t : TypeId) (x y : Int) (w : World) : (Builtin.max_ ts t #[.int .i64 x, .int .i64 y]).run P w = .ok (.int .i64 (max x y)) w := by
  rw [run_max_int2]
  have : (if y > x then y else x) = max x y := by split <;> omega
  rw [this]
theorem min_run (P : Program) (ts : Array TypeId) (t : TypeId) (x y : Int) (w : World) : (Builtin.min_ ts t #[.int .i64 x, .int .i64 y]).run P w = .ok (.int .i64 (min x y)) w := by
  rw [run_min_int2]
  have : (if y < x then y else x) = min x y := by split <;> omega
  rw [this]
theorem ret_int {k : IntKind} {a b : Int} (h : a = b) : Ending.returned (.int k a) = .returned (.int k b) := by rw [h]
theorem ret_bool {a b : Bool} (h : a = b) : Ending.returned (.bool a) = .returned (.bool b) := by rw [h]
/-- a slice value's cells, when it has any: the elements xs, k cells each, below block B -/
def Sl {α : Type} (w : World) (B k : Nat) (enc : α → List Value) (A : Option Addr) (xs : List α) : Prop :=
  0 < xs.length → ∃ b off, A = some ⟨b, off, none⟩ ∧ b < B ∧ ∀ i (h : i < xs.length) j v, (enc xs[i])[j]? = some v → w.cell? ⟨b, off + i * k + j, none⟩ = some v
section
variable {α : Type} {w w' : World} {B B' k : Nat} {enc : α → List Value} {A : Option Addr} {xs : List α}
theorem Sl.below (h : Sl w B k enc A xs) (hb : Below B w w') : Sl w' B k enc A xs := fun h0 => by
  obtain ⟨b, off, e, hB, hc⟩ := h h0
  exact ⟨b, off, e, hB, fun i hi j v hv => (hb.cell (p := ⟨b, off + i * k + j, none⟩) hB).trans (hc i hi j v hv)⟩
theorem Sl.mono (h : Sl w B k enc A xs) (hB : B ≤ B') : Sl w B' k enc A xs := fun h0 => by
  obtain ⟨b, off, e, hb, hc⟩ := h h0
  exact ⟨b, off, e, Nat.lt_of_lt_of_le hb hB, hc⟩
theorem Sl.below_le (h : Sl w B k enc A xs) (hb : Below B' w w') (hB : B ≤ B') : Sl w' B k enc A xs := h.below (hb.mono hB)
theorem Sl.take (h : Sl w B k enc A xs) (n : Nat) : Sl w B k enc A (xs.take n) := fun h0 => by
  obtain ⟨b, off, e, hb, hc⟩ := h (by simp at h0; omega)
  refine ⟨b, off, e, hb, fun i hi j v hv => hc i (by simp at hi; omega) j v ?_⟩
  simpa using hv
theorem Sl.nil : Sl w B k enc A [] := fun h0 => absurd h0 (by simp)
end
/-- the first place at which a predicate holds, or -1 -/
def idxB {α : Type} (p : α → Bool) (xs : List α) : Int := match xs.findIdx? p with
  | some i => (i : Int)
  | none => -1
section
variable {α : Type} {p : α → Bool} {xs : List α}
theorem idxB_hit {k : Nat} (hk : k < xs.length) (hno : (xs.take k).any p = false) (h : p xs[k] = true) : idxB p xs = k := by
  have : xs.findIdx? p = some k := by
    rw [List.findIdx?_eq_some_iff_getElem]
    refine ⟨hk, h, fun j hj => ?_⟩
    rw [List.any_eq_false] at hno
    have := hno (xs[j]'(by omega)) (List.mem_take_iff_getElem.2 ⟨j, by omega, rfl⟩)
    simpa using this
  simp [idxB, this]
theorem idxB_none (hno : xs.any p = false) : idxB p xs = -1 := by
  have : xs.findIdx? p = none := by
    rw [List.findIdx?_eq_none_iff]
    intro x hx
    rw [List.any_eq_false] at hno
    simpa using hno x hx
  simp [idxB, this]
theorem idxB_any : decide ((0 : Int) ≤ idxB p xs) = xs.any p := by
  unfold idxB
  cases h : xs.findIdx? p with
  | none =>
    rw [List.findIdx?_eq_none_iff] at h
    have : xs.any p = false := by rw [List.any_eq_false]; intro x hx; simpa using h x hx
    rw [this]; rfl
  | some i =>
    rw [List.findIdx?_eq_some_iff_getElem] at h
    obtain ⟨hi, hp, _⟩ := h
    have : xs.any p = true := by rw [List.any_eq_true]; exact ⟨xs[i], List.getElem_mem _, hp⟩
    rw [this]; simp
theorem any_take_succ {k : Nat} (hk : k < xs.length) (hno : (xs.take k).any p = false) (h : p xs[k] = false) : (xs.take (k + 1)).any p = false := by
  rw [List.take_succ_eq_append_getElem hk, List.any_append, hno]
  simp [h]
end
/-- the first error among n numbered ones; 0: none -/
def firstErr (f : Nat → Int) : Nat → Int
  | 0 => 0
  | n + 1 => if firstErr f n = 0 then f n else firstErr f n
theorem firstErr_succ {f : Nat → Int} {k : Nat} (h : firstErr f k = 0) : firstErr f (k + 1) = f k := by simp [firstErr, h]
theorem firstErr_at {f : Nat → Int} {k n : Nat} (h : firstErr f k = 0) (hk : f k ≠ 0) (hn : k < n) : firstErr f n = f k := by
  induction n with
  | zero => omega
  | succ n ih =>
    rcases Nat.lt_or_ge k n with h1 | h1
    · rw [firstErr, ih h1, if_neg hk]
    · obtain rfl : k = n := by omega
      exact firstErr_succ h
theorem bcell {W w1 : World} (hb : Below W.heap.size W w1) : (∀ b o, b < W.heap.size → w1.cell? ⟨b, o, none⟩ = W.cell? ⟨b, o, none⟩) ∧ (∀ b o, b < W.heap.size → w1.frozen? ⟨b, o, none⟩ = W.frozen? ⟨b, o, none⟩) :=
  ⟨fun b o h => hb.cell (p := ⟨b, o, none⟩) h, fun b o h => hb.frozen (p := ⟨b, o, none⟩) h⟩
theorem alloc_cell {w : World} {cs : Array Value} {e : TypeId} {j : Nat} {v : Value} (h : cs[j]? = some v) : (w.alloc (.cells cs e)).cell? ⟨w.heap.size, j, none⟩ = some v := by
  have h1 : (w.alloc (.cells cs e)).heap[w.heap.size]? = some (.cells cs e (0, 0)) := heap_alloc_new w _
  simp only [World.cell?, h1]
  simpa using h
theorem alloc_free {w : World} {cs : Array Value} {e : TypeId} {j : Nat} : (w.alloc (.cells cs e)).frozen? ⟨w.heap.size, j, none⟩ = false := by
  have h1 : (w.alloc (.cells cs e)).heap[w.heap.size]? = some (.cells cs e (0, 0)) := heap_alloc_new w _
  simp only [World.frozen?, h1]
  simp
def strEq (a b : ByteArray) : Bool := a.toList == b.toList
end W7
