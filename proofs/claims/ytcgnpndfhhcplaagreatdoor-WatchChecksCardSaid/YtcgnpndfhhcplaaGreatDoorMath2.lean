/-
  Plain laws on nodes as they lie in a row, step by step: the run forwards and the run backwards. No program.
-/
import Derived.Test.YtcgnpndfhhcplaaGreatDoorMath
namespace W7
open Go
theorem flatMap_get {α : Type} {enc : α → List Value} {k : Nat} (hk : ∀ x, (enc x).length = k) : ∀ (l : List α) (i j : Nat) (hi : i < l.length), j < k → (l.flatMap enc)[i * k + j]? = (enc l[i])[j]?
  | [], i, j, hi, _ => absurd hi (by simp)
  | a :: l, 0, j, _, hj => by
    rw [List.flatMap_cons, List.getElem?_append_left (by rw [hk]; omega)]
    simp
  | a :: l, i + 1, j, hi, hj => by
    rw [List.flatMap_cons, List.getElem?_append_right (by rw [hk, Nat.add_mul]; omega), hk]
    have : (i + 1) * k + j - k = i * k + j := by rw [Nat.add_mul]; omega
    rw [this, flatMap_get hk l i j (by simpa using hi) hj]
    rfl
theorem flatMap_len {α : Type} {enc : α → List Value} {k : Nat} (hk : ∀ x, (enc x).length = k) (l : List α) : (l.flatMap enc).length = l.length * k := by
  induction l with
  | nil => simp
  | cons a l ih => rw [List.flatMap_cons, List.length_append, hk, ih, List.length_cons, Nat.add_mul]; omega
def encKs (l : List K) : List Value := l.flatMap encK
theorem encKs_len (l : List K) : (encKs l).length = l.length * 3 := flatMap_len (enc := encK) (k := 3) (fun _ => rfl) l
theorem encKs_0 {l : List K} {i : Nat} (hi : i < l.length) : (encKs l)[i * 3]? = some (.int .i64 l[i].t) := flatMap_get (enc := encK) (k := 3) (fun _ => rfl) l i 0 hi (by omega)
theorem encKs_1 {l : List K} {i : Nat} (hi : i < l.length) : (encKs l)[i * 3 + 1]? = some (.int .i64 l[i].lo) := flatMap_get (enc := encK) (k := 3) (fun _ => rfl) l i 1 hi (by omega)
theorem encKs_2 {l : List K} {i : Nat} (hi : i < l.length) : (encKs l)[i * 3 + 2]? = some (.int .i64 l[i].hi) := flatMap_get (enc := encK) (k := 3) (fun _ => rfl) l i 2 hi (by omega)
theorem encKs_set : ∀ (l : List K) (i : Nat) (hi : i < l.length) (a b : Int), ((encKs l).set (i * 3 + 1) (.int .i64 a)).set (i * 3 + 2) (.int .i64 b) = encKs (l.set i ⟨l[i].t, a, b⟩)
  | [], i, hi, _, _ => absurd hi (by simp)
  | x :: l, 0, _, a, b => by simp [encKs, encK]
  | x :: l, i + 1, hi, a, b => by
    have ih := encKs_set l i (by simpa using hi) a b
    have e : encKs (x :: l) = .int .i64 x.t :: .int .i64 x.lo :: .int .i64 x.hi :: encKs l := by simp [encKs, encK]
    have e1 : (i + 1) * 3 + 1 = (i * 3 + 1) + 3 := by omega
    have e2 : (i + 1) * 3 + 2 = (i * 3 + 2) + 3 := by omega
    rw [e, e1, e2]
    simp only [List.set_cons_succ, List.getElem_cons_succ]
    rw [ih]
    simp [encKs, encK]
section
variable {r f : Int}
theorem fwdKGo_get : ∀ (l : List K) (p : K) (k : Nat) (hk : k + 1 < l.length) (h1 : k + 1 < (fwdKGo r f p l).length) (h0 : k < (fwdKGo r f p l).length),
    (fwdKGo r f p l)[k + 1] = l[k + 1].meet ((fwdKGo r f p l)[k].lo - f * (l[k + 1].t - (fwdKGo r f p l)[k].t)) ((fwdKGo r f p l)[k].hi + r * (l[k + 1].t - (fwdKGo r f p l)[k].t))
  | [], _, _, hk, _, _ => absurd hk (by simp)
  | [a], _, _, hk, _, _ => absurd hk (by simp)
  | a :: b :: l, p, 0, _, _, _ => rfl
  | a :: b :: l, p, k + 1, hk, h1, h0 => by
    have := fwdKGo_get (b :: l) (a.meet (p.lo - f * (a.t - p.t)) (p.hi + r * (a.t - p.t))) k (by simpa using hk) (by simpa [fwdKGo] using h1) (by simpa [fwdKGo] using h0)
    simpa [fwdKGo] using this
theorem fwdK_get (l : List K) (k : Nat) (hk : k + 1 < l.length) :
    (fwdK r f l)[k + 1]'(by rw [fwdK_length]; exact hk) = l[k + 1].meet (((fwdK r f l)[k]'(by rw [fwdK_length]; omega)).lo - f * (l[k + 1].t - ((fwdK r f l)[k]'(by rw [fwdK_length]; omega)).t)) (((fwdK r f l)[k]'(by rw [fwdK_length]; omega)).hi + r * (l[k + 1].t - ((fwdK r f l)[k]'(by rw [fwdK_length]; omega)).t)) := by
  match l, k, hk with
  | a :: b :: l, 0, _ => rfl
  | a :: b :: l, k + 1, hk =>
    have := fwdKGo_get (r := r) (f := f) (b :: l) a k (by simpa using hk) (by rw [fwdKGo_length]; simpa using hk) (by rw [fwdKGo_length]; simp at hk ⊢; omega)
    simpa [fwdK] using this
theorem fwdK_zero (l : List K) (h : 0 < l.length) : (fwdK r f l)[0]'(by rw [fwdK_length]; exact h) = l[0] := by
  match l, h with
  | a :: l, _ => rfl
theorem bwdK_last (l : List K) (h : 0 < l.length) : (bwdK r f l)[l.length - 1]'(by rw [bwdK_length]; omega) = l[l.length - 1] := by
  induction l with
  | nil => exact absurd h (by simp)
  | cons a l ih =>
    match l, ih with
    | [], _ => rfl
    | b :: l, ih =>
      have ih' := ih (by simp)
      have e2 : bwdK r f (a :: b :: l) = match bwdK r f (b :: l) with
        | [] => []
        | x :: l' => a.meet (x.lo - r * (x.t - a.t)) (x.hi + f * (x.t - a.t)) :: x :: l' := rfl
      have hl := bwdK_length (r := r) (f := f) (b :: l)
      cases hb : bwdK r f (b :: l) with
      | nil => rw [hb] at hl; simp at hl
      | cons x l' =>
        simp only [hb] at e2 ih' hl
        simp only [e2, List.length_cons, Nat.add_sub_cancel] at ih' ⊢
        simp only [List.getElem_cons_succ]
        exact ih'
theorem bwdK_get (l : List K) (k : Nat) (hk : k + 1 < l.length) :
    (bwdK r f l)[k]'(by rw [bwdK_length]; omega) = l[k].meet (((bwdK r f l)[k + 1]'(by rw [bwdK_length]; exact hk)).lo - r * (((bwdK r f l)[k + 1]'(by rw [bwdK_length]; exact hk)).t - l[k].t)) (((bwdK r f l)[k + 1]'(by rw [bwdK_length]; exact hk)).hi + f * (((bwdK r f l)[k + 1]'(by rw [bwdK_length]; exact hk)).t - l[k].t)) := by
  induction l generalizing k with
  | nil => exact absurd hk (by simp)
  | cons a l ih =>
    match l, ih, hk with
    | [], _, hk => exact absurd hk (by simp)
    | b :: l, ih, hk =>
      have e2 : bwdK r f (a :: b :: l) = match bwdK r f (b :: l) with
        | [] => []
        | x :: l' => a.meet (x.lo - r * (x.t - a.t)) (x.hi + f * (x.t - a.t)) :: x :: l' := rfl
      have hl := bwdK_length (r := r) (f := f) (b :: l)
      cases hb : bwdK r f (b :: l) with
      | nil => rw [hb] at hl; simp at hl
      | cons x l' =>
        simp only [hb] at e2 ih hl
        cases k with
        | zero => simp only [e2]; rfl
        | succ k =>
          have := ih k (by simpa using hk)
          simp only [e2, List.getElem_cons_succ]
          exact this
/-- bounds -/
def BndK (M : Int) (x : K) : Prop := -M ≤ x.lo ∧ x.lo ≤ M ∧ -M ≤ x.hi ∧ x.hi ≤ M ∧ 0 ≤ x.t ∧ x.t ≤ 100000
theorem meet_bnd {M : Int} {x p : K} {a b : Int} (hx : BndK M x) (hp : BndK M p) (ha : 0 ≤ a) (hb : 0 ≤ b) : BndK M (x.meet (p.lo - a) (p.hi + b)) := by
  unfold BndK K.meet at *
  simp only
  omega
theorem fwdK_t (l : List K) (k : Nat) (hk : k < l.length) : ((fwdK r f l)[k]'(by rw [fwdK_length]; exact hk)).t = l[k].t := by
  match k, hk with
  | 0, hk => rw [fwdK_zero l hk]
  | k + 1, hk => rw [fwdK_get l k hk]; rfl
theorem bwdK_t (l : List K) (k : Nat) (hk : k < l.length) : ((bwdK r f l)[k]'(by rw [bwdK_length]; exact hk)).t = l[k].t := by
  by_cases h : k + 1 < l.length
  · rw [bwdK_get l k h]; rfl
  · obtain rfl : k = l.length - 1 := by omega
    rw [bwdK_last l (by omega)]
theorem fwdK_bnd {M : Int} (hr : 0 ≤ r) (hf : 0 ≤ f) (l : List K) (hs : SortedK l) (hl : ∀ x ∈ l, BndK M x) : ∀ k (hk : k < l.length), BndK M ((fwdK r f l)[k]'(by rw [fwdK_length]; exact hk)) := by
  intro k
  induction k with
  | zero => intro hk; rw [fwdK_zero l hk]; exact hl _ (List.getElem_mem _)
  | succ k ih =>
    intro hk
    rw [fwdK_get l k hk, fwdK_t l k (by omega)]
    have ht : l[k].t ≤ l[k + 1].t := (List.pairwise_iff_getElem.1 hs) k (k + 1) (by omega) hk (by omega)
    exact meet_bnd (hl _ (List.getElem_mem _)) (ih (by omega)) (Int.mul_nonneg hf (by omega)) (Int.mul_nonneg hr (by omega))
/-- weaker bounds: an empty span may lie far off -/
def BndW (M : Int) (x : K) : Prop := -M ≤ x.lo ∧ x.hi ≤ M ∧ 0 ≤ x.t ∧ x.t ≤ 100000
theorem BndK.w {M : Int} {x : K} (h : BndK M x) : BndW M x := by unfold BndK at h; unfold BndW; omega
theorem BndW.k {M : Int} {x : K} (h : BndW M x) (hv : x.lo ≤ x.hi) : BndK M x := by unfold BndW at h; unfold BndK; omega
theorem fwdK_bndW {M : Int} (l : List K) (hl : ∀ x ∈ l, BndW M x) : ∀ k (hk : k < l.length), BndW M ((fwdK r f l)[k]'(by rw [fwdK_length]; exact hk)) := by
  intro k
  induction k with
  | zero => intro hk; rw [fwdK_zero l hk]; exact hl _ (List.getElem_mem _)
  | succ k ih =>
    intro hk
    rw [fwdK_get l k hk]
    have h1 := hl l[k + 1] (List.getElem_mem _)
    unfold BndW K.meet at *
    simp only
    omega
theorem bwdK_bnd {M : Int} (hr : 0 ≤ r) (hf : 0 ≤ f) (l : List K) (hs : SortedK l) (hl : ∀ x ∈ l, BndK M x) : ∀ j k (hk : k < l.length), k + j + 1 = l.length → BndK M ((bwdK r f l)[k]'(by rw [bwdK_length]; exact hk)) := by
  intro j
  induction j with
  | zero =>
    intro k hk he
    obtain rfl : k = l.length - 1 := by omega
    rw [bwdK_last l (by omega)]; exact hl _ (List.getElem_mem _)
  | succ j ih =>
    intro k hk he
    rw [bwdK_get l k (by omega), bwdK_t l (k + 1) (by omega)]
    have ht : l[k].t ≤ l[k + 1].t := (List.pairwise_iff_getElem.1 hs) k (k + 1) (by omega) (by omega) (by omega)
    exact meet_bnd (hl _ (List.getElem_mem _)) (ih (k + 1) (by omega) (by omega)) (Int.mul_nonneg hr (by omega)) (Int.mul_nonneg hf (by omega))
theorem fwdK_sorted (l : List K) (hs : SortedK l) : SortedK (fwdK r f l) := by
  unfold SortedK
  rw [List.pairwise_iff_getElem]
  intro a b ha hb hab
  rw [fwdK_length] at ha hb
  rw [fwdK_t l a ha, fwdK_t l b hb]
  exact (List.pairwise_iff_getElem.1 hs) a b _ _ hab
/-- the row behind k steps forwards -/
def fwdAt (r f : Int) (l : List K) (k : Nat) : List K := (fwdK r f l).take k ++ l.drop k
theorem fwdAt_len (l : List K) (k : Nat) (hk : k ≤ l.length) : (fwdAt r f l k).length = l.length := by
  simp [fwdAt, fwdK_length]; omega
theorem fwdAt_old (l : List K) (k i : Nat) (hk : k ≤ l.length) (hi : i < k) (h : i < (fwdAt r f l k).length) : (fwdAt r f l k)[i] = (fwdK r f l)[i]'(by rw [fwdK_length]; omega) := by
  have h2 : i < ((fwdK r f l).take k).length := by simp [fwdK_length]; omega
  simp only [fwdAt]
  rw [List.getElem_append_left h2, List.getElem_take]
theorem fwdAt_new (l : List K) (k i : Nat) (hk : k ≤ l.length) (hi : k ≤ i) (hl : i < l.length) (h : i < (fwdAt r f l k).length) : (fwdAt r f l k)[i] = l[i] := by
  have h2 : ((fwdK r f l).take k).length = k := by simp [fwdK_length]; omega
  simp only [fwdAt]
  rw [List.getElem_append_right (by omega)]
  simp only [h2, List.getElem_drop]
  congr 1; omega
theorem fwdAt_succ (l : List K) (k : Nat) (hk : k < l.length) : (fwdAt r f l k).set k ((fwdK r f l)[k]'(by rw [fwdK_length]; exact hk)) = fwdAt r f l (k + 1) := by
  have h2 : ((fwdK r f l).take k).length = k := by simp [fwdK_length]; omega
  unfold fwdAt
  rw [List.set_append_right _ _ (by omega), h2, Nat.sub_self, List.take_succ_eq_append_getElem (by rw [fwdK_length]; exact hk), List.append_assoc]
  congr 1
  rw [List.drop_eq_getElem_cons hk]
  rfl
/-- the row ahead of the step at k - 1 backwards -/
def bwdAt (r f : Int) (l : List K) (k : Nat) : List K := l.take k ++ (bwdK r f l).drop k
theorem bwdAt_len (l : List K) (k : Nat) (hk : k ≤ l.length) : (bwdAt r f l k).length = l.length := by
  simp [bwdAt, bwdK_length]; omega
theorem bwdAt_new (l : List K) (k i : Nat) (hk : k ≤ l.length) (hi : k ≤ i) (hl : i < l.length) (h : i < (bwdAt r f l k).length) : (bwdAt r f l k)[i] = (bwdK r f l)[i]'(by rw [bwdK_length]; exact hl) := by
  have h2 : (l.take k).length = k := by simp; omega
  simp only [bwdAt]
  rw [List.getElem_append_right (by omega)]
  simp only [h2, List.getElem_drop]
  congr 1; omega
theorem bwdAt_old (l : List K) (k i : Nat) (hk : k ≤ l.length) (hi : i < k) (h : i < (bwdAt r f l k).length) : (bwdAt r f l k)[i] = l[i]'(by omega) := by
  have h2 : i < (l.take k).length := by simp; omega
  simp only [bwdAt]
  rw [List.getElem_append_left h2, List.getElem_take]
theorem bwdAt_succ (l : List K) (k : Nat) (hk : k < l.length) : (bwdAt r f l (k + 1)).set k ((bwdK r f l)[k]'(by rw [bwdK_length]; exact hk)) = bwdAt r f l k := by
  unfold bwdAt
  have h2 : (l.take (k + 1)).length = k + 1 := by simp; omega
  rw [List.set_append_left _ _ (by omega), List.take_succ_eq_append_getElem hk, List.set_append_right _ _ (by simp; omega)]
  have h3 : k - (l.take k).length = 0 := by simp; omega
  rw [h3, List.append_assoc]
  congr 1
  rw [List.drop_eq_getElem_cons (show k < (bwdK r f l).length by rw [bwdK_length]; exact hk)]
  rfl
end
end W7
