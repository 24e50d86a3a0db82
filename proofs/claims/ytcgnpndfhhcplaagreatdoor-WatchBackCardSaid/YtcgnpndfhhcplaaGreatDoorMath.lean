/-
  The plain laws on histories: what spans at times say together of a value at a time. No program.
  Plain laws on nodes as they lie in a row, step by step: the run forwards and the run backwards. No program.
  Plain laws on nodes that are gathered: those of one time become one, their spans met. No program.
  Between an owned row and the sort's own words: what a row of k cells an element holds, ahead of the library's sort and behind it. Over any program.
-/
import Derived.Test.YtcgnpndfhhcplaaGreatDoorSpec
import Derived.Shelf.SlSortCmp.WholeK
namespace W7
/-- A span of numbers that is known at a time. -/
structure K where
  t : Int
  lo : Int
  hi : Int
deriving Inhabited
/-- by how much a value may fall from the time s to the time t (either may be first) -/
def dn (rise fall s t : Int) : Int := if s ≤ t then fall * (t - s) else rise * (s - t)
theorem dn_self (r f s : Int) : dn r f s s = 0 := by simp [dn]
theorem dn_le (r f s t : Int) (h : s ≤ t) : dn r f s t = f * (t - s) := by simp [dn, h]
theorem dn_ge (r f s t : Int) (h : t ≤ s) : dn r f s t = r * (s - t) := by
  unfold dn
  by_cases h' : s ≤ t
  · have : s = t := by omega
    subst this; simp
  · rw [if_neg h']
theorem dn_nonneg (r f s t : Int) (hr : 0 ≤ r) (hf : 0 ≤ f) : 0 ≤ dn r f s t := by
  unfold dn
  split
  · exact Int.mul_nonneg hf (by omega)
  · exact Int.mul_nonneg hr (by omega)
theorem mul_split (a x y z : Int) : a * (z - x) = a * (y - x) + a * (z - y) := by
  rw [← Int.mul_add]; congr 1; omega
theorem dn_tri (r f s t u : Int) (hr : 0 ≤ r) (hf : 0 ≤ f) : dn r f s u ≤ dn r f s t + dn r f t u := by
  rcases Int.le_total s t with h1 | h1 <;> rcases Int.le_total t u with h2 | h2 <;> rcases Int.le_total s u with h3 | h3
  · rw [dn_le r f s u h3, dn_le r f s t h1, dn_le r f t u h2, mul_split f s t u]; omega
  · have : s = u := by omega
    subst this
    have : s = t := by omega
    subst this
    simp [dn_self]
  · rw [dn_le r f s u h3, dn_le r f s t h1, dn_ge r f t u h2]
    have e := mul_split f s u t
    have := Int.mul_nonneg hf (show 0 ≤ t - u by omega)
    have := Int.mul_nonneg hr (show 0 ≤ t - u by omega)
    omega
  · rw [dn_ge r f s u h3, dn_le r f s t h1, dn_ge r f t u h2]
    have e := mul_split r u s t
    have := Int.mul_nonneg hf (show 0 ≤ t - s by omega)
    have := Int.mul_nonneg hr (show 0 ≤ t - s by omega)
    omega
  · rw [dn_le r f s u h3, dn_ge r f s t h1, dn_le r f t u h2]
    have e := mul_split f t s u
    have := Int.mul_nonneg hf (show 0 ≤ s - t by omega)
    have := Int.mul_nonneg hr (show 0 ≤ s - t by omega)
    omega
  · rw [dn_ge r f s u h3, dn_ge r f s t h1, dn_le r f t u h2]
    have e := mul_split r t u s
    have := Int.mul_nonneg hf (show 0 ≤ u - t by omega)
    have := Int.mul_nonneg hr (show 0 ≤ u - t by omega)
    omega
  · have : s = u := by omega
    subst this
    have : s = t := by omega
    subst this
    simp [dn_self]
  · rw [dn_ge r f s u h3, dn_ge r f s t h1, dn_ge r f t u h2, mul_split r u t s]; omega

section
variable (r f : Int)
/-- some history goes through all spans -/
def Agree (l : List K) : Prop := ∀ a ∈ l, ∀ b ∈ l, a.lo - dn r f a.t b.t ≤ b.hi
/-- the least value at a time -/
def IsLo (l : List K) (t x : Int) : Prop := (∃ a ∈ l, x = a.lo - dn r f a.t t) ∧ ∀ a ∈ l, a.lo - dn r f a.t t ≤ x
def IsHi (l : List K) (t x : Int) : Prop := (∃ a ∈ l, x = a.hi + dn r f t a.t) ∧ ∀ a ∈ l, x ≤ a.hi + dn r f t a.t
theorem IsLo.unique {l : List K} {t x y : Int} (h : IsLo r f l t x) (h' : IsLo r f l t y) : x = y := by
  obtain ⟨⟨a, ha, rfl⟩, h1⟩ := h
  obtain ⟨⟨b, hb, rfl⟩, h2⟩ := h'
  have := h1 b hb
  have := h2 a ha
  omega
theorem IsHi.unique {l : List K} {t x y : Int} (h : IsHi r f l t x) (h' : IsHi r f l t y) : x = y := by
  obtain ⟨⟨a, ha, rfl⟩, h1⟩ := h
  obtain ⟨⟨b, hb, rfl⟩, h2⟩ := h'
  have := h1 b hb
  have := h2 a ha
  omega
end
end W7
namespace W7
/-- one side: a time and a least value there -/
structure V where
  t : Int
  v : Int
section
variable (r f : Int)
def fwdGo (p : V) : List V → List V
  | [] => []
  | n :: l => let m : V := ⟨n.t, max n.v (p.v - f * (n.t - p.t))⟩; m :: fwdGo m l
def fwd1 : List V → List V
  | [] => []
  | n :: l => n :: fwdGo f n l
def bwd1 : List V → List V
  | [] => []
  | [n] => [n]
  | n :: m :: l => match bwd1 (m :: l) with
    | [] => []
    | b :: l' => ⟨n.t, max n.v (b.v - r * (b.t - n.t))⟩ :: b :: l'
/-- the greatest of what values say of a time -/
def Top (l : List V) (t x : Int) : Prop := (∃ a ∈ l, x = a.v - dn r f a.t t) ∧ ∀ a ∈ l, a.v - dn r f a.t t ≤ x
variable {r f}
theorem Top.unique {l : List V} {t x y : Int} (h : Top r f l t x) (h' : Top r f l t y) : x = y := by
  obtain ⟨⟨a, ha, rfl⟩, h1⟩ := h
  obtain ⟨⟨b, hb, rfl⟩, h2⟩ := h'
  have := h1 b hb
  have := h2 a ha
  omega
theorem Top.one (a : V) : Top r f [a] a.t a.v := by
  constructor
  · exact ⟨a, by simp, by rw [dn_self]; omega⟩
  · intro b hb
    simp at hb; subst hb
    rw [dn_self]; omega
theorem Top.append {l l' : List V} {t x y : Int} (h : Top r f l t x) (h' : Top r f l' t y) : Top r f (l ++ l') t (max x y) := by
  obtain ⟨⟨a, ha, hx⟩, h1⟩ := h
  obtain ⟨⟨b, hb, hy⟩, h2⟩ := h'
  constructor
  · rcases Int.le_total x y with h | h
    · exact ⟨b, by simp [hb], by omega⟩
    · exact ⟨a, by simp [ha], by omega⟩
  · intro c hc
    rcases List.mem_append.1 hc with hc | hc
    · have := h1 c hc; omega
    · have := h2 c hc; omega
theorem Top.later {l : List V} {s t x : Int} (h : Top r f l s x) (hl : ∀ a ∈ l, a.t ≤ s) (hst : s ≤ t) : Top r f l t (x - f * (t - s)) := by
  have key : ∀ a ∈ l, dn r f a.t t = dn r f a.t s + f * (t - s) := by
    intro a ha
    have := hl a ha
    rw [dn_le _ _ _ _ (by omega), dn_le _ _ _ _ (by omega)]
    exact mul_split f a.t s t
  obtain ⟨⟨a, ha, hx⟩, h1⟩ := h
  refine ⟨⟨a, ha, by rw [key a ha]; omega⟩, fun b hb => ?_⟩
  rw [key b hb]
  have := h1 b hb
  omega
theorem Top.sooner {l : List V} {s t x : Int} (h : Top r f l s x) (hl : ∀ a ∈ l, s ≤ a.t) (hst : t ≤ s) : Top r f l t (x - r * (s - t)) := by
  have key : ∀ a ∈ l, dn r f a.t t = dn r f a.t s + r * (s - t) := by
    intro a ha
    have := hl a ha
    rw [dn_ge _ _ _ _ (by omega), dn_ge _ _ _ _ (by omega)]
    have := mul_split r t s a.t
    omega
  obtain ⟨⟨a, ha, hx⟩, h1⟩ := h
  refine ⟨⟨a, ha, by rw [key a ha]; omega⟩, fun b hb => ?_⟩
  rw [key b hb]
  have := h1 b hb
  omega
def Sorted (l : List V) : Prop := l.Pairwise fun a b => a.t ≤ b.t
theorem fwdGo_length (p : V) (l : List V) : (fwdGo f p l).length = l.length := by
  induction l generalizing p with
  | nil => rfl
  | cons n l ih => simp [fwdGo, ih]
theorem fwd1_length (l : List V) : (fwd1 f l).length = l.length := by
  cases l with
  | nil => rfl
  | cons n l => simp [fwd1, fwdGo_length]
/-- forward: at each place the greatest of what those up to it say -/
theorem fwdGo_top (l : List V) : ∀ (pre : List V) (p : V), Top r f pre p.t p.v → (∀ a ∈ pre, a.t ≤ p.t) → Sorted (p :: l) →
    ∀ i (hi : i < l.length), ((fwdGo f p l)[i]'(by rw [fwdGo_length]; exact hi)).t = l[i].t ∧
      Top r f (pre ++ l.take (i + 1)) l[i].t ((fwdGo f p l)[i]'(by rw [fwdGo_length]; exact hi)).v := by
  induction l with
  | nil => intro _ _ _ _ _ i hi; exact absurd hi (by simp)
  | cons n l ih =>
    intro pre p hp hpre hs i hi
    have hpn : p.t ≤ n.t := by
      unfold Sorted at hs
      rw [List.pairwise_cons] at hs
      exact hs.1 n (by simp)
    have hnew : Top r f (pre ++ [n]) n.t (max n.v (p.v - f * (n.t - p.t))) := by
      have h1 := hp.later hpre hpn
      have h2 := Top.one (r := r) (f := f) n
      have := h1.append h2
      rwa [Int.max_comm] at this
    cases i with
    | zero =>
      simp only [fwdGo, List.getElem_cons_zero, List.take_succ_cons, List.take_zero]
      exact ⟨trivial, hnew⟩
    | succ i =>
      simp only [fwdGo, List.getElem_cons_succ, List.take_succ_cons]
      have hs' : Sorted (n :: l) := by unfold Sorted at hs ⊢; exact (List.pairwise_cons.1 hs).2
      have := ih (pre ++ [n]) ⟨n.t, max n.v (p.v - f * (n.t - p.t))⟩ hnew (by
        intro a ha
        rcases List.mem_append.1 ha with ha | ha
        · have := hpre a ha; simp; omega
        · simp at ha; subst ha; simp) (by
        unfold Sorted at hs' ⊢
        rw [List.pairwise_cons] at hs' ⊢
        exact ⟨fun a ha => hs'.1 a ha, hs'.2⟩) i (by simpa using hi)
      rw [List.append_assoc] at this
      exact this
theorem fwd1_top (l : List V) (hs : Sorted l) (i : Nat) (hi : i < l.length) :
    ((fwd1 f l)[i]'(by rw [fwd1_length]; exact hi)).t = l[i].t ∧ Top r f (l.take (i + 1)) l[i].t ((fwd1 f l)[i]'(by rw [fwd1_length]; exact hi)).v := by
  cases l with
  | nil => exact absurd hi (by simp)
  | cons n l =>
    cases i with
    | zero => simp only [fwd1, List.getElem_cons_zero, List.take_succ_cons, List.take_zero]; exact ⟨trivial, Top.one n⟩
    | succ i =>
      have := fwdGo_top (r := r) (f := f) l [n] n (Top.one n) (by simp) hs i (by simpa using hi)
      simpa [fwd1] using this
theorem bwd1_length (l : List V) : (bwd1 r l).length = l.length := by
  induction l with
  | nil => rfl
  | cons n l ih =>
    cases l with
    | nil => rfl
    | cons m l =>
      unfold bwd1
      cases hb : bwd1 r (m :: l) with
      | nil => rw [hb] at ih; simp at ih
      | cons b l' => rw [hb] at ih; simp at ih ⊢; exact ih
theorem bwd1_top (l : List V) (hs : Sorted l) : ∀ i (hi : i < l.length),
    ((bwd1 r l)[i]'(by rw [bwd1_length]; exact hi)).t = l[i].t ∧ Top r f (l.drop i) l[i].t ((bwd1 r l)[i]'(by rw [bwd1_length]; exact hi)).v := by
  induction l with
  | nil => intro i hi; exact absurd hi (by simp)
  | cons n l ih =>
    intro i hi
    cases l with
    | nil =>
      have : i = 0 := by simp at hi; exact hi
      subst this
      exact ⟨rfl, Top.one n⟩
    | cons m l =>
      have hs' : Sorted (m :: l) := by unfold Sorted at hs ⊢; exact (List.pairwise_cons.1 hs).2
      have ih' := ih hs'
      have hlen := bwd1_length (r := r) (m :: l)
      have e : bwd1 r (n :: m :: l) = match bwd1 r (m :: l) with
        | [] => []
        | b :: l' => ⟨n.t, max n.v (b.v - r * (b.t - n.t))⟩ :: b :: l' := rfl
      cases hb : bwd1 r (m :: l) with
      | nil => rw [hb] at hlen; simp at hlen
      | cons b l' =>
        simp only [hb] at e ih'
        have h0 := ih' 0 (by simp)
        simp only [List.getElem_cons_zero, List.drop_zero] at h0
        cases i with
        | zero =>
          simp only [e, List.getElem_cons_zero, List.drop_zero]
          refine ⟨trivial, ?_⟩
          have hall := (List.pairwise_cons.1 hs).1
          have h2 : Top r f (m :: l) n.t (b.v - r * (b.t - n.t)) := by
            rw [h0.1]
            refine h0.2.sooner (fun a ha => ?_) (hall m (by simp))
            rcases List.mem_cons.1 ha with rfl | ha
            · omega
            · exact (List.pairwise_cons.1 hs').1 a ha
          exact (Top.one n).append h2
        | succ i =>
          have := ih' i (by simpa using hi)
          simp only [e, List.getElem_cons_succ, List.drop_succ_cons]
          exact this
/-- forward, then backward: at each place the greatest of what all say -/
theorem both_top (hr : 0 ≤ r) (hf : 0 ≤ f) (l : List V) (hs : Sorted l) (i : Nat) (hi : i < l.length) (h1 : i < (bwd1 r (fwd1 f l)).length) :
    (bwd1 r (fwd1 f l))[i].t = l[i].t ∧ Top r f l l[i].t (bwd1 r (fwd1 f l))[i].v := by
  have hF := fwd1_top (r := r) (f := f) l hs
  have hlen := fwd1_length (f := f) l
  have hsF : Sorted (fwd1 f l) := by
    unfold Sorted
    rw [List.pairwise_iff_getElem]
    intro a b ha hb hab
    rw [(hF a (by omega)).1, (hF b (by omega)).1]
    exact (List.pairwise_iff_getElem.1 hs) a b _ _ hab
  have hB := bwd1_top (r := r) (f := f) (fwd1 f l) hsF i (by omega)
  obtain ⟨hBt, ⟨c, hc, hcx⟩, hBm⟩ := hB
  have hFt := (hF i hi).1
  refine ⟨hBt.trans hFt, ?_⟩
  rw [hFt] at hcx hBm
  have upper : ∀ a ∈ l, a.v - dn r f a.t l[i].t ≤ (bwd1 r (fwd1 f l))[i].v := by
    intro a ha
    obtain ⟨k, hk, rfl⟩ := List.mem_iff_getElem.1 ha
    rcases Nat.lt_or_ge i k with hik | hik
    · have h2 := (hF k hk).2.2 l[k] (List.mem_take_iff_getElem.2 ⟨k, by omega, rfl⟩)
      rw [dn_self] at h2
      have h3 := hBm ((fwd1 f l)[k]'(by omega)) (List.mem_drop_iff_getElem.2 ⟨k - i, by omega, by congr 1; omega⟩)
      rw [(hF k hk).1] at h3
      omega
    · have h2 := (hF i hi).2.2 l[k] (List.mem_take_iff_getElem.2 ⟨k, by omega, rfl⟩)
      have h3 := hBm ((fwd1 f l)[i]'(by omega)) (List.mem_drop_iff_getElem.2 ⟨0, by omega, rfl⟩)
      rw [(hF i hi).1, dn_self] at h3
      omega
  refine ⟨?_, upper⟩
  obtain ⟨j, hj, rfl⟩ := List.mem_drop_iff_getElem.1 hc
  have hj' : i + j < l.length := by omega
  obtain ⟨⟨a, ha, hav⟩, _⟩ := (hF (i + j) hj').2
  have hal : a ∈ l := List.mem_of_mem_take ha
  refine ⟨a, hal, ?_⟩
  have h2 := upper a hal
  rw [(hF (i + j) hj').1] at hcx
  have h3 := dn_tri r f a.t l[i + j].t l[i].t hr hf
  omega
end
end W7
namespace W7
def K.meet (a : K) (lo hi : Int) : K := ⟨a.t, max a.lo lo, min a.hi hi⟩
def fwdKGo (r f : Int) (p : K) : List K → List K
  | [] => []
  | n :: l => let m := n.meet (p.lo - f * (n.t - p.t)) (p.hi + r * (n.t - p.t)); m :: fwdKGo r f m l
def fwdK (r f : Int) : List K → List K
  | [] => []
  | n :: l => n :: fwdKGo r f n l
def bwdK (r f : Int) : List K → List K
  | [] => []
  | [n] => [n]
  | n :: m :: l => match bwdK r f (m :: l) with
    | [] => []
    | b :: l' => n.meet (b.lo - r * (b.t - n.t)) (b.hi + f * (b.t - n.t)) :: b :: l'
def loV (l : List K) : List V := l.map fun k => ⟨k.t, k.lo⟩
def hiV (l : List K) : List V := l.map fun k => ⟨k.t, -k.hi⟩
section
variable {r f : Int}
theorem loV_fwdGo (l : List K) : ∀ p : K, loV (fwdKGo r f p l) = fwdGo f ⟨p.t, p.lo⟩ (loV l) := by
  induction l with
  | nil => intro p; rfl
  | cons n l ih => intro p; simp only [fwdKGo, loV, List.map_cons, fwdGo, K.meet] at ih ⊢; congr 1; exact ih _
theorem hiV_fwdGo (l : List K) : ∀ p : K, hiV (fwdKGo r f p l) = fwdGo r ⟨p.t, -p.hi⟩ (hiV l) := by
  induction l with
  | nil => intro p; rfl
  | cons n l ih =>
    intro p
    simp only [fwdKGo, hiV, List.map_cons, fwdGo, K.meet] at ih ⊢
    rw [show max (-n.hi) (-p.hi - r * (n.t - p.t)) = -(min n.hi (p.hi + r * (n.t - p.t))) by omega]
    congr 1; exact ih _
theorem loV_fwd (l : List K) : loV (fwdK r f l) = fwd1 f (loV l) := by
  cases l with
  | nil => rfl
  | cons n l => simp only [fwdK, fwd1, loV, List.map_cons]; congr 1; exact loV_fwdGo l n
theorem hiV_fwd (l : List K) : hiV (fwdK r f l) = fwd1 r (hiV l) := by
  cases l with
  | nil => rfl
  | cons n l => simp only [fwdK, fwd1, hiV, List.map_cons]; congr 1; exact hiV_fwdGo l n
theorem loV_bwd (l : List K) : loV (bwdK r f l) = bwd1 r (loV l) := by
  induction l with
  | nil => rfl
  | cons n l ih =>
    cases l with
    | nil => rfl
    | cons m l =>
      have e1 : bwd1 r (loV (n :: m :: l)) = match bwd1 r (loV (m :: l)) with
        | [] => []
        | b :: l' => ⟨n.t, max n.lo (b.v - r * (b.t - n.t))⟩ :: b :: l' := rfl
      have e2 : bwdK r f (n :: m :: l) = match bwdK r f (m :: l) with
        | [] => []
        | b :: l' => n.meet (b.lo - r * (b.t - n.t)) (b.hi + f * (b.t - n.t)) :: b :: l' := rfl
      rw [e1, e2, ← ih]
      cases bwdK r f (m :: l) with
      | nil => rfl
      | cons b l' => rfl
theorem hiV_bwd (l : List K) : hiV (bwdK r f l) = bwd1 f (hiV l) := by
  induction l with
  | nil => rfl
  | cons n l ih =>
    cases l with
    | nil => rfl
    | cons m l =>
      have e1 : bwd1 f (hiV (n :: m :: l)) = match bwd1 f (hiV (m :: l)) with
        | [] => []
        | b :: l' => ⟨n.t, max (-n.hi) (b.v - f * (b.t - n.t))⟩ :: b :: l' := rfl
      have e2 : bwdK r f (n :: m :: l) = match bwdK r f (m :: l) with
        | [] => []
        | b :: l' => n.meet (b.lo - r * (b.t - n.t)) (b.hi + f * (b.t - n.t)) :: b :: l' := rfl
      rw [e1, e2, ← ih]
      cases bwdK r f (m :: l) with
      | nil => rfl
      | cons b l' =>
        simp only [hiV, List.map_cons, K.meet]
        rw [show max (-n.hi) (-b.hi - f * (b.t - n.t)) = -(min n.hi (b.hi + f * (b.t - n.t))) by omega]
theorem fwdKGo_length (l : List K) : ∀ p : K, (fwdKGo r f p l).length = l.length := by
  induction l with
  | nil => intro p; rfl
  | cons n l ih => intro p; simp [fwdKGo, ih]
theorem fwdK_length (l : List K) : (fwdK r f l).length = l.length := by
  cases l with
  | nil => rfl
  | cons n l => simp [fwdK, fwdKGo_length]
theorem bwdK_length (l : List K) : (bwdK r f l).length = l.length := by
  have := bwd1_length (r := r) (loV l)
  rw [← loV_bwd (f := f)] at this
  simpa [loV] using this
theorem dn_swap (s t : Int) : dn f r s t = dn r f t s := by
  rcases Int.le_total s t with h | h
  · rw [dn_le _ _ _ _ h, dn_ge _ _ _ _ h]
  · rw [dn_ge _ _ _ _ h, dn_le _ _ _ _ h]
def SortedK (l : List K) : Prop := l.Pairwise fun a b => a.t ≤ b.t
theorem SortedK.lo {l : List K} (h : SortedK l) : Sorted (loV l) := by
  unfold Sorted loV; rw [List.pairwise_map]; exact h
theorem SortedK.hi {l : List K} (h : SortedK l) : Sorted (hiV l) := by
  unfold Sorted hiV; rw [List.pairwise_map]; exact h
theorem Top.isLo {l : List K} {t x : Int} (h : Top r f (loV l) t x) : IsLo r f l t x := by
  obtain ⟨⟨a, ha, hx⟩, h1⟩ := h
  simp only [loV, List.mem_map] at ha h1
  obtain ⟨k, hk, rfl⟩ := ha
  exact ⟨⟨k, hk, hx⟩, fun k hk => h1 _ ⟨k, hk, rfl⟩⟩
theorem Top.isHi {l : List K} {t x : Int} (h : Top f r (hiV l) t (-x)) : IsHi r f l t x := by
  obtain ⟨⟨a, ha, hx⟩, h1⟩ := h
  simp only [hiV, List.mem_map] at ha h1
  obtain ⟨k, hk, rfl⟩ := ha
  refine ⟨⟨k, hk, ?_⟩, fun k hk => ?_⟩
  · simp only at hx; rw [dn_swap] at hx; omega
  · have := h1 _ ⟨k, hk, rfl⟩
    simp only at this; rw [dn_swap] at this; omega
theorem IsLo.top {l : List K} {t x : Int} (h : IsLo r f l t x) : Top r f (loV l) t x := by
  obtain ⟨⟨k, hk, hx⟩, h1⟩ := h
  refine ⟨⟨⟨k.t, k.lo⟩, List.mem_map.2 ⟨k, hk, rfl⟩, hx⟩, fun a ha => ?_⟩
  obtain ⟨k, hk, rfl⟩ := List.mem_map.1 ha
  exact h1 k hk
/-- the values of each place, when all are narrowed -/
theorem narrow_spec (hr : 0 ≤ r) (hf : 0 ≤ f) (l : List K) (hs : SortedK l) (i : Nat) (hi : i < l.length) (h1 : i < (bwdK r f (fwdK r f l)).length) :
    (bwdK r f (fwdK r f l))[i].t = l[i].t ∧ IsLo r f l l[i].t (bwdK r f (fwdK r f l))[i].lo ∧ IsHi r f l l[i].t (bwdK r f (fwdK r f l))[i].hi := by
  have elo : loV (bwdK r f (fwdK r f l)) = bwd1 r (fwd1 f (loV l)) := by rw [loV_bwd, loV_fwd]
  have ehi : hiV (bwdK r f (fwdK r f l)) = bwd1 f (fwd1 r (hiV l)) := by rw [hiV_bwd, hiV_fwd]
  have hlo := both_top (r := r) (f := f) hr hf (loV l) hs.lo i (by simpa [loV] using hi) (by rw [← elo]; simpa [loV] using h1)
  have hhi := both_top (r := f) (f := r) hf hr (hiV l) hs.hi i (by simpa [hiV] using hi) (by rw [← ehi]; simpa [hiV] using h1)
  simp only [← elo] at hlo
  simp only [← ehi] at hhi
  simp only [loV, hiV, List.getElem_map] at hlo hhi
  exact ⟨hlo.1, hlo.2.isLo, hhi.2.isHi⟩
/-- the forward run finds no empty span just if all agree -/
theorem fwd_agree (hr : 0 ≤ r) (hf : 0 ≤ f) (l : List K) (hs : SortedK l) : (∀ n ∈ fwdK r f l, n.lo ≤ n.hi) ↔ Agree r f l := by
  have hlo := fwd1_top (r := r) (f := f) (loV l) hs.lo
  have hhi := fwd1_top (r := f) (f := r) (hiV l) hs.hi
  simp only [← loV_fwd (r := r)] at hlo
  simp only [← hiV_fwd (f := f)] at hhi
  have hlen := fwdK_length (r := r) (f := f) l
  have key : ∀ i (hi : i < l.length), Top r f ((loV l).take (i + 1)) l[i].t ((fwdK r f l)[i]'(by omega)).lo ∧ Top f r ((hiV l).take (i + 1)) l[i].t (-((fwdK r f l)[i]'(by omega)).hi) := by
    intro i hi
    have h1 := (hlo i (by simpa [loV] using hi)).2
    have h2 := (hhi i (by simpa [hiV] using hi)).2
    simp only [loV, hiV, List.getElem_map] at h1 h2
    exact ⟨h1, h2⟩
  constructor
  · intro h a ha b hb
    obtain ⟨j, hj, rfl⟩ := List.mem_iff_getElem.1 ha
    obtain ⟨k, hk, rfl⟩ := List.mem_iff_getElem.1 hb
    have pick : ∀ i (hi : i < l.length), j ≤ i → k ≤ i → l[j].lo - dn r f l[j].t l[i].t ≤ l[k].hi + dn r f l[i].t l[k].t := by
      intro i hi hji hki
      obtain ⟨⟨_, h1⟩, ⟨_, h2⟩⟩ := key i hi
      have h3 := h1 ⟨l[j].t, l[j].lo⟩ (List.mem_take_iff_getElem.2 ⟨j, by simp [loV]; omega, by simp [loV]⟩)
      have h4 := h2 ⟨l[k].t, -l[k].hi⟩ (List.mem_take_iff_getElem.2 ⟨k, by simp [hiV]; omega, by simp [hiV]⟩)
      have h5 := h _ (List.getElem_mem (show i < (fwdK r f l).length by omega))
      simp only at h3 h4
      rw [dn_swap] at h4
      omega
    rcases Nat.le_total j k with hjk | hjk
    · have := pick k hk hjk (Nat.le_refl _)
      rw [dn_self] at this
      omega
    · have := pick j hj (Nat.le_refl _) hjk
      rw [dn_self] at this
      omega
  · intro h n hn
    obtain ⟨i, hi, rfl⟩ := List.mem_iff_getElem.1 hn
    obtain ⟨⟨⟨a, ha, h1⟩, _⟩, ⟨⟨b, hb, h2⟩, _⟩⟩ := key i (by omega)
    obtain ⟨a', ha', rfl⟩ := List.mem_map.1 (List.mem_of_mem_take ha)
    obtain ⟨b', hb', rfl⟩ := List.mem_map.1 (List.mem_of_mem_take hb)
    have h3 := h a' ha' b' hb'
    have h4 := dn_tri r f a'.t (l[i]'(by omega)).t b'.t hr hf
    simp only at h1 h2
    rw [dn_swap] at h2
    omega
/-- one list of what is known says what another one says -/
def Covers (m l : List K) : Prop :=
  (∀ a ∈ l, ∃ b ∈ m, b.t = a.t ∧ a.lo ≤ b.lo ∧ b.hi ≤ a.hi) ∧ ∀ b ∈ m, (∃ a ∈ l, a.t = b.t ∧ a.lo = b.lo) ∧ ∃ a ∈ l, a.t = b.t ∧ a.hi = b.hi
theorem Covers.agree {m l : List K} (h : Covers m l) : Agree r f m ↔ Agree r f l := by
  constructor
  · intro hm a ha b hb
    obtain ⟨a', ha', e1, e2, e3⟩ := h.1 a ha
    obtain ⟨b', hb', f1, f2, f3⟩ := h.1 b hb
    have := hm a' ha' b' hb'
    rw [e1, f1] at this
    omega
  · intro hl a ha b hb
    obtain ⟨⟨a', ha', e1, e2⟩, _⟩ := h.2 a ha
    obtain ⟨_, ⟨b', hb', f1, f2⟩⟩ := h.2 b hb
    have := hl a' ha' b' hb'
    rw [e1, f1] at this
    omega
theorem Covers.isLo {m l : List K} (h : Covers m l) {t x : Int} (hx : IsLo r f m t x) : IsLo r f l t x := by
  obtain ⟨⟨b, hb, rfl⟩, h1⟩ := hx
  obtain ⟨⟨a, ha, e1, e2⟩, _⟩ := h.2 b hb
  refine ⟨⟨a, ha, by rw [e1, e2]⟩, fun c hc => ?_⟩
  obtain ⟨d, hd, g1, g2, g3⟩ := h.1 c hc
  have := h1 d hd
  rw [g1] at this
  omega
theorem Covers.isHi {m l : List K} (h : Covers m l) {t x : Int} (hx : IsHi r f m t x) : IsHi r f l t x := by
  obtain ⟨⟨b, hb, rfl⟩, h1⟩ := hx
  obtain ⟨_, ⟨a, ha, e1, e2⟩⟩ := h.2 b hb
  refine ⟨⟨a, ha, by rw [e1, e2]⟩, fun c hc => ?_⟩
  obtain ⟨d, hd, g1, g2, g3⟩ := h.1 c hc
  have := h1 d hd
  rw [g1] at this
  omega
end
end W7

namespace W7
def encK (k : K) : List Go.Value := [.int .i64 k.t, .int .i64 k.lo, .int .i64 k.hi]
end W7
namespace W7
open Go
theorem flatMap_get {α : Type} {enc : α → List Value} {k : Nat} (hk : ∀ x, (enc x).length = k) : ∀ (l : List α) (i j : Nat) (hi : i < l.length), j < k → (l.flatMap enc)[i * k + j]? = (enc l[i])[j]?
  | [], i, j, hi, _ => absurd hi (by simp)
  | a :: l, 0, j, _, hj => by
    rw [List.flatMap_cons, List.getElem?_append_left (by rw [hk]; omega)]
    simp
  | a :: l, i + 1, j, hi, hj => by
    rw [List.flatMap_cons, List.getElem?_append_right (by rw [hk, Nat.add_mul]; omega), hk]
    have : (i + 1) * k + j - k = i * k + j := by rw [Nat.add_mul]; omega
    rw [this, flatMap_get hk l i j (by simpa using hi) hj]
    rfl
theorem flatMap_len {α : Type} {enc : α → List Value} {k : Nat} (hk : ∀ x, (enc x).length = k) (l : List α) : (l.flatMap enc).length = l.length * k := by
  induction l with
  | nil => simp
  | cons a l ih => rw [List.flatMap_cons, List.length_append, hk, ih, List.length_cons, Nat.add_mul]; omega
def encKs (l : List K) : List Value := l.flatMap encK
theorem encKs_len (l : List K) : (encKs l).length = l.length * 3 := flatMap_len (enc := encK) (k := 3) (fun _ => rfl) l
theorem encKs_0 {l : List K} {i : Nat} (hi : i < l.length) : (encKs l)[i * 3]? = some (.int .i64 l[i].t) := flatMap_get (enc := encK) (k := 3) (fun _ => rfl) l i 0 hi (by omega)
theorem encKs_1 {l : List K} {i : Nat} (hi : i < l.length) : (encKs l)[i * 3 + 1]? = some (.int .i64 l[i].lo) := flatMap_get (enc := encK) (k := 3) (fun _ => rfl) l i 1 hi (by omega)
theorem encKs_2 {l : List K} {i : Nat} (hi : i < l.length) : (encKs l)[i * 3 + 2]? = some (.int .i64 l[i].hi) := flatMap_get (enc := encK) (k := 3) (fun _ => rfl) l i 2 hi (by omega)
theorem encKs_set : ∀ (l : List K) (i : Nat) (hi : i < l.length) (a b : Int), ((encKs l).set (i * 3 + 1) (.int .i64 a)).set (i * 3 + 2) (.int .i64 b) = encKs (l.set i ⟨l[i].t, a, b⟩)
  | [], i, hi, _, _ => absurd hi (by simp)
  | x :: l, 0, _, a, b => by simp [encKs, encK]
  | x :: l, i + 1, hi, a, b => by
    have ih := encKs_set l i (by simpa using hi) a b
    have e : encKs (x :: l) = .int .i64 x.t :: .int .i64 x.lo :: .int .i64 x.hi :: encKs l := by simp [encKs, encK]
    have e1 : (i + 1) * 3 + 1 = (i * 3 + 1) + 3 := by omega
    have e2 : (i + 1) * 3 + 2 = (i * 3 + 2) + 3 := by omega
    rw [e, e1, e2]
    simp only [List.set_cons_succ, List.getElem_cons_succ]
    rw [ih]
    simp [encKs, encK]
section
variable {r f : Int}
theorem fwdKGo_get : ∀ (l : List K) (p : K) (k : Nat) (hk : k + 1 < l.length) (h1 : k + 1 < (fwdKGo r f p l).length) (h0 : k < (fwdKGo r f p l).length),
    (fwdKGo r f p l)[k + 1] = l[k + 1].meet ((fwdKGo r f p l)[k].lo - f * (l[k + 1].t - (fwdKGo r f p l)[k].t)) ((fwdKGo r f p l)[k].hi + r * (l[k + 1].t - (fwdKGo r f p l)[k].t))
  | [], _, _, hk, _, _ => absurd hk (by simp)
  | [a], _, _, hk, _, _ => absurd hk (by simp)
  | a :: b :: l, p, 0, _, _, _ => rfl
  | a :: b :: l, p, k + 1, hk, h1, h0 => by
    have := fwdKGo_get (b :: l) (a.meet (p.lo - f * (a.t - p.t)) (p.hi + r * (a.t - p.t))) k (by simpa using hk) (by simpa [fwdKGo] using h1) (by simpa [fwdKGo] using h0)
    simpa [fwdKGo] using this
theorem fwdK_get (l : List K) (k : Nat) (hk : k + 1 < l.length) :
    (fwdK r f l)[k + 1]'(by rw [fwdK_length]; exact hk) = l[k + 1].meet (((fwdK r f l)[k]'(by rw [fwdK_length]; omega)).lo - f * (l[k + 1].t - ((fwdK r f l)[k]'(by rw [fwdK_length]; omega)).t)) (((fwdK r f l)[k]'(by rw [fwdK_length]; omega)).hi + r * (l[k + 1].t - ((fwdK r f l)[k]'(by rw [fwdK_length]; omega)).t)) := by
  match l, k, hk with
  | a :: b :: l, 0, _ => rfl
  | a :: b :: l, k + 1, hk =>
    have := fwdKGo_get (r := r) (f := f) (b :: l) a k (by simpa using hk) (by rw [fwdKGo_length]; simpa using hk) (by rw [fwdKGo_length]; simp at hk ⊢; omega)
    simpa [fwdK] using this
theorem fwdK_zero (l : List K) (h : 0 < l.length) : (fwdK r f l)[0]'(by rw [fwdK_length]; exact h) = l[0] := by
  match l, h with
  | a :: l, _ => rfl
theorem bwdK_last (l : List K) (h : 0 < l.length) : (bwdK r f l)[l.length - 1]'(by rw [bwdK_length]; omega) = l[l.length - 1] := by
  induction l with
  | nil => exact absurd h (by simp)
  | cons a l ih =>
    match l, ih with
    | [], _ => rfl
    | b :: l, ih =>
      have ih' := ih (by simp)
      have e2 : bwdK r f (a :: b :: l) = match bwdK r f (b :: l) with
        | [] => []
        | x :: l' => a.meet (x.lo - r * (x.t - a.t)) (x.hi + f * (x.t - a.t)) :: x :: l' := rfl
      have hl := bwdK_length (r := r) (f := f) (b :: l)
      cases hb : bwdK r f (b :: l) with
      | nil => rw [hb] at hl; simp at hl
      | cons x l' =>
        simp only [hb] at e2 ih' hl
        simp only [e2, List.length_cons, Nat.add_sub_cancel] at ih' ⊢
        simp only [List.getElem_cons_succ]
        exact ih'
theorem bwdK_get (l : List K) (k : Nat) (hk : k + 1 < l.length) :
    (bwdK r f l)[k]'(by rw [bwdK_length]; omega) = l[k].meet (((bwdK r f l)[k + 1]'(by rw [bwdK_length]; exact hk)).lo - r * (((bwdK r f l)[k + 1]'(by rw [bwdK_length]; exact hk)).t - l[k].t)) (((bwdK r f l)[k + 1]'(by rw [bwdK_length]; exact hk)).hi + f * (((bwdK r f l)[k + 1]'(by rw [bwdK_length]; exact hk)).t - l[k].t)) := by
  induction l generalizing k with
  | nil => exact absurd hk (by simp)
  | cons a l ih =>
    match l, ih, hk with
    | [], _, hk => exact absurd hk (by simp)
    | b :: l, ih, hk =>
      have e2 : bwdK r f (a :: b :: l) = match bwdK r f (b :: l) with
        | [] => []
        | x :: l' => a.meet (x.lo - r * (x.t - a.t)) (x.hi + f * (x.t - a.t)) :: x :: l' := rfl
      have hl := bwdK_length (r := r) (f := f) (b :: l)
      cases hb : bwdK r f (b :: l) with
      | nil => rw [hb] at hl; simp at hl
      | cons x l' =>
        simp only [hb] at e2 ih hl
        cases k with
        | zero => simp only [e2]; rfl
        | succ k =>
          have := ih k (by simpa using hk)
          simp only [e2, List.getElem_cons_succ]
          exact this
/-- bounds -/
def BndK (M : Int) (x : K) : Prop := -M ≤ x.lo ∧ x.lo ≤ M ∧ -M ≤ x.hi ∧ x.hi ≤ M ∧ 0 ≤ x.t ∧ x.t ≤ 100000
theorem meet_bnd {M : Int} {x p : K} {a b : Int} (hx : BndK M x) (hp : BndK M p) (ha : 0 ≤ a) (hb : 0 ≤ b) : BndK M (x.meet (p.lo - a) (p.hi + b)) := by
  unfold BndK K.meet at *
  simp only
  omega
theorem fwdK_t (l : List K) (k : Nat) (hk : k < l.length) : ((fwdK r f l)[k]'(by rw [fwdK_length]; exact hk)).t = l[k].t := by
  match k, hk with
  | 0, hk => rw [fwdK_zero l hk]
  | k + 1, hk => rw [fwdK_get l k hk]; rfl
theorem bwdK_t (l : List K) (k : Nat) (hk : k < l.length) : ((bwdK r f l)[k]'(by rw [bwdK_length]; exact hk)).t = l[k].t := by
  by_cases h : k + 1 < l.length
  · rw [bwdK_get l k h]; rfl
  · obtain rfl : k = l.length - 1 := by omega
    rw [bwdK_last l (by omega)]
theorem fwdK_bnd {M : Int} (hr : 0 ≤ r) (hf : 0 ≤ f) (l : List K) (hs : SortedK l) (hl : ∀ x ∈ l, BndK M x) : ∀ k (hk : k < l.length), BndK M ((fwdK r f l)[k]'(by rw [fwdK_length]; exact hk)) := by
  intro k
  induction k with
  | zero => intro hk; rw [fwdK_zero l hk]; exact hl _ (List.getElem_mem _)
  | succ k ih =>
    intro hk
    rw [fwdK_get l k hk, fwdK_t l k (by omega)]
    have ht : l[k].t ≤ l[k + 1].t := (List.pairwise_iff_getElem.1 hs) k (k + 1) (by omega) hk (by omega)
    exact meet_bnd (hl _ (List.getElem_mem _)) (ih (by omega)) (Int.mul_nonneg hf (by omega)) (Int.mul_nonneg hr (by omega))
/-- weaker bounds: an empty span may lie far off -/
def BndW (M : Int) (x : K) : Prop := -M ≤ x.lo ∧ x.hi ≤ M ∧ 0 ≤ x.t ∧ x.t ≤ 100000
theorem BndK.w {M : Int} {x : K} (h : BndK M x) : BndW M x := by unfold BndK at h; unfold BndW; omega
theorem BndW.k {M : Int} {x : K} (h : BndW M x) (hv : x.lo ≤ x.hi) : BndK M x := by unfold BndW at h; unfold BndK; omega
theorem fwdK_bndW {M : Int} (l : List K) (hl : ∀ x ∈ l, BndW M x) : ∀ k (hk : k < l.length), BndW M ((fwdK r f l)[k]'(by rw [fwdK_length]; exact hk)) := by
  intro k
  induction k with
  | zero => intro hk; rw [fwdK_zero l hk]; exact hl _ (List.getElem_mem _)
  | succ k ih =>
    intro hk
    rw [fwdK_get l k hk]
    have h1 := hl l[k + 1] (List.getElem_mem _)
    unfold BndW K.meet at *
    simp only
    omega
theorem bwdK_bnd {M : Int} (hr : 0 ≤ r) (hf : 0 ≤ f) (l : List K) (hs : SortedK l) (hl : ∀ x ∈ l, BndK M x) : ∀ j k (hk : k < l.length), k + j + 1 = l.length → BndK M ((bwdK r f l)[k]'(by rw [bwdK_length]; exact hk)) := by
  intro j
  induction j with
  | zero =>
    intro k hk he
    obtain rfl : k = l.length - 1 := by omega
    rw [bwdK_last l (by omega)]; exact hl _ (List.getElem_mem _)
  | succ j ih =>
    intro k hk he
    rw [bwdK_get l k (by omega), bwdK_t l (k + 1) (by omega)]
    have ht : l[k].t ≤ l[k + 1].t := (List.pairwise_iff_getElem.1 hs) k (k + 1) (by omega) (by omega) (by omega)
    exact meet_bnd (hl _ (List.getElem_mem _)) (ih (k + 1) (by omega) (by omega)) (Int.mul_nonneg hr (by omega)) (Int.mul_nonneg hf (by omega))
theorem fwdK_sorted (l : List K) (hs : SortedK l) : SortedK (fwdK r f l) := by
  unfold SortedK
  rw [List.pairwise_iff_getElem]
  intro a b ha hb hab
  rw [fwdK_length] at ha hb
  rw [fwdK_t l a ha, fwdK_t l b hb]
  exact (List.pairwise_iff_getElem.1 hs) a b _ _ hab
/-- the row behind k steps forwards -/
def fwdAt (r f : Int) (l : List K) (k : Nat) : List K := (fwdK r f l).take k ++ l.drop k
theorem fwdAt_len (l : List K) (k : Nat) (hk : k ≤ l.length) : (fwdAt r f l k).length = l.length := by
  simp [fwdAt, fwdK_length]; omega
theorem fwdAt_old (l : List K) (k i : Nat) (hk : k ≤ l.length) (hi : i < k) (h : i < (fwdAt r f l k).length) : (fwdAt r f l k)[i] = (fwdK r f l)[i]'(by rw [fwdK_length]; omega) := by
  have h2 : i < ((fwdK r f l).take k).length := by simp [fwdK_length]; omega
  simp only [fwdAt]
  rw [List.getElem_append_left h2, List.getElem_take]
theorem fwdAt_new (l : List K) (k i : Nat) (hk : k ≤ l.length) (hi : k ≤ i) (hl : i < l.length) (h : i < (fwdAt r f l k).length) : (fwdAt r f l k)[i] = l[i] := by
  have h2 : ((fwdK r f l).take k).length = k := by simp [fwdK_length]; omega
  simp only [fwdAt]
  rw [List.getElem_append_right (by omega)]
  simp only [h2, List.getElem_drop]
  congr 1; omega
theorem fwdAt_succ (l : List K) (k : Nat) (hk : k < l.length) : (fwdAt r f l k).set k ((fwdK r f l)[k]'(by rw [fwdK_length]; exact hk)) = fwdAt r f l (k + 1) := by
  have h2 : ((fwdK r f l).take k).length = k := by simp [fwdK_length]; omega
  unfold fwdAt
  rw [List.set_append_right _ _ (by omega), h2, Nat.sub_self, List.take_succ_eq_append_getElem (by rw [fwdK_length]; exact hk), List.append_assoc]
  congr 1
  rw [List.drop_eq_getElem_cons hk]
  rfl
/-- the row ahead of the step at k - 1 backwards -/
def bwdAt (r f : Int) (l : List K) (k : Nat) : List K := l.take k ++ (bwdK r f l).drop k
theorem bwdAt_len (l : List K) (k : Nat) (hk : k ≤ l.length) : (bwdAt r f l k).length = l.length := by
  simp [bwdAt, bwdK_length]; omega
theorem bwdAt_new (l : List K) (k i : Nat) (hk : k ≤ l.length) (hi : k ≤ i) (hl : i < l.length) (h : i < (bwdAt r f l k).length) : (bwdAt r f l k)[i] = (bwdK r f l)[i]'(by rw [bwdK_length]; exact hl) := by
  have h2 : (l.take k).length = k := by simp; omega
  simp only [bwdAt]
  rw [List.getElem_append_right (by omega)]
  simp only [h2, List.getElem_drop]
  congr 1; omega
theorem bwdAt_old (l : List K) (k i : Nat) (hk : k ≤ l.length) (hi : i < k) (h : i < (bwdAt r f l k).length) : (bwdAt r f l k)[i] = l[i]'(by omega) := by
  have h2 : i < (l.take k).length := by simp; omega
  simp only [bwdAt]
  rw [List.getElem_append_left h2, List.getElem_take]
theorem bwdAt_succ (l : List K) (k : Nat) (hk : k < l.length) : (bwdAt r f l (k + 1)).set k ((bwdK r f l)[k]'(by rw [bwdK_length]; exact hk)) = bwdAt r f l k := by
  unfold bwdAt
  have h2 : (l.take (k + 1)).length = k + 1 := by simp; omega
  rw [List.set_append_left _ _ (by omega), List.take_succ_eq_append_getElem hk, List.set_append_right _ _ (by simp; omega)]
  have h3 : k - (l.take k).length = 0 := by simp; omega
  rw [h3, List.append_assoc]
  congr 1
  rw [List.drop_eq_getElem_cons (show k < (bwdK r f l).length by rw [bwdK_length]; exact hk)]
  rfl
end
end W7
namespace W7
open Go
def mlast (a n : K) : K := ⟨a.t, max a.lo n.lo, min a.hi n.hi⟩
/-- one node more, the nodes ahead in the order of time -/
def mstep (out : List K) (n : K) : List K :=
  if h : 0 < out.length then
    (if (out[out.length - 1]'(by omega)).t = n.t then out.set (out.length - 1) (mlast (out[out.length - 1]'(by omega)) n) else out ++ [n])
  else out ++ [n]
def merged (l : List K) : List K := l.foldl mstep []
def mergedAt (l : List K) (k : Nat) : List K := (l.take k).foldl mstep []
theorem mergedAt_succ (l : List K) (k : Nat) (h : k < l.length) : mergedAt l (k + 1) = mstep (mergedAt l k) l[k] := by
  unfold mergedAt; rw [List.take_succ_eq_append_getElem h, List.foldl_append]; rfl
theorem mergedAt_all (l : List K) : mergedAt l l.length = merged l := by simp [mergedAt, merged]
theorem mstep_len (out : List K) (n : K) : (mstep out n).length ≤ out.length + 1 := by
  unfold mstep; split
  · split <;> simp
  · simp
theorem mergedAt_len (l : List K) (k : Nat) (h : k ≤ l.length) : (mergedAt l k).length ≤ k := by
  induction k with
  | zero => simp [mergedAt]
  | succ k ih => rw [mergedAt_succ l k (by omega)]; have := mstep_len (mergedAt l k) l[k]; have := ih (by omega); omega
theorem mstep_same {out : List K} {n : K} (h : 0 < out.length) (ht : (out[out.length - 1]'(by omega)).t = n.t) : mstep out n = out.set (out.length - 1) (mlast (out[out.length - 1]'(by omega)) n) := by
  simp [mstep, h, ht]
theorem mstep_new {out : List K} {n : K} (h : ∀ h : 0 < out.length, (out[out.length - 1]'(by omega)).t ≠ n.t) : mstep out n = out ++ [n] := by
  unfold mstep
  split
  · rename_i h0; rw [if_neg (h h0)]
  · rfl
/-- what is kept: the nodes so far cover those that came, in strictly rising times, none above the last one's -/
structure MInv (l out : List K) : Prop where
  cov : Covers out l
  pos : 0 < l.length → 0 < out.length
  last : ∀ (h : 0 < out.length) (h' : 0 < l.length), (out[out.length - 1]'(by omega)).t = (l[l.length - 1]'(by omega)).t
  sorted : out.Pairwise fun a b => a.t < b.t
theorem Covers.snoc {m l : List K} (h : Covers m l) (n : K) : Covers (m ++ [n]) (l ++ [n]) := by
  refine ⟨fun a ha => ?_, fun b hb => ?_⟩
  · rcases List.mem_append.1 ha with ha | ha
    · obtain ⟨b, hb, h1, h2, h3⟩ := h.1 a ha; exact ⟨b, by simp [hb], h1, h2, h3⟩
    · simp at ha; subst ha; exact ⟨a, by simp, rfl, Int.le_refl _, Int.le_refl _⟩
  · rcases List.mem_append.1 hb with hb | hb
    · obtain ⟨⟨a, ha, h1, h2⟩, ⟨c, hc, h3, h4⟩⟩ := h.2 b hb; exact ⟨⟨a, by simp [ha], h1, h2⟩, ⟨c, by simp [hc], h3, h4⟩⟩
    · simp at hb; subst hb; exact ⟨⟨b, by simp, rfl, rfl⟩, ⟨b, by simp, rfl, rfl⟩⟩
theorem Covers.meetLast {m l : List K} {a n : K} (h : Covers (m ++ [a]) l) (ht : a.t = n.t) : Covers (m ++ [mlast a n]) (l ++ [n]) := by
  refine ⟨fun x hx => ?_, fun b hb => ?_⟩
  · rcases List.mem_append.1 hx with hx | hx
    · obtain ⟨b, hb, h1, h2, h3⟩ := h.1 x hx
      rcases List.mem_append.1 hb with hb | hb
      · exact ⟨b, by simp [hb], h1, h2, h3⟩
      · simp at hb; subst hb; exact ⟨mlast b n, by simp, h1, by simp [mlast]; omega, by simp [mlast]; omega⟩
    · simp at hx; subst hx; exact ⟨mlast a x, by simp, ht, by simp [mlast]; omega, by simp [mlast]; omega⟩
  · rcases List.mem_append.1 hb with hb | hb
    · obtain ⟨⟨x, hx, h1, h2⟩, ⟨c, hc, h3, h4⟩⟩ := h.2 b (by simp [hb]); exact ⟨⟨x, by simp [hx], h1, h2⟩, ⟨c, by simp [hc], h3, h4⟩⟩
    · simp at hb; subst hb
      obtain ⟨⟨x, hx, h1, h2⟩, ⟨c, hc, h3, h4⟩⟩ := h.2 a (by simp)
      refine ⟨?_, ?_⟩
      · rcases Int.le_total a.lo n.lo with hle | hle
        · exact ⟨n, by simp, by simp [mlast, ht], by simp [mlast]; omega⟩
        · exact ⟨x, by simp [hx], by simp [mlast, h1], by simp [mlast]; omega⟩
      · rcases Int.le_total a.hi n.hi with hle | hle
        · exact ⟨c, by simp [hc], by simp [mlast, h3], by simp [mlast]; omega⟩
        · exact ⟨n, by simp, by simp [mlast, ht], by simp [mlast]; omega⟩
theorem MInv.nil : MInv [] [] := ⟨⟨fun a ha => by simp at ha, fun b hb => by simp at hb⟩, fun h => by simp at h, fun h => by simp at h, List.Pairwise.nil⟩
theorem split_last {out : List K} (h : 0 < out.length) : out = out.take (out.length - 1) ++ [out[out.length - 1]'(by omega)] := by
  have := List.take_succ_eq_append_getElem (l := out) (i := out.length - 1) (by omega)
  rw [← this, List.take_of_length_le (by omega)]
theorem MInv.step {l out : List K} {n : K} (h : MInv l out) (hs : (l ++ [n]).Pairwise fun a b => a.t ≤ b.t) : MInv (l ++ [n]) (mstep out n) := by
  by_cases h0 : 0 < out.length
  · have hl : 0 < l.length := by
      obtain ⟨⟨x, hx, _⟩, _⟩ := h.cov.2 (out[out.length - 1]'(by omega)) (List.getElem_mem _)
      exact List.length_pos_of_mem hx
    have hlast := h.last h0 hl
    have hle : (out[out.length - 1]'(by omega)).t ≤ n.t := by
      rw [hlast]
      rw [List.pairwise_append] at hs
      exact hs.2.2 _ (List.getElem_mem _) n (by simp)
    obtain ⟨a, ha⟩ : ∃ a, a = out[out.length - 1]'(by omega) := ⟨_, rfl⟩
    have hsp := split_last h0
    rw [← ha] at hle hlast hsp
    by_cases ht : a.t = n.t
    · have e : mstep out n = out.take (out.length - 1) ++ [mlast a n] := by
        rw [mstep_same h0 (by rw [← ha]; exact ht), ← ha]
        apply List.ext_getElem (by simp; omega)
        intro i h1 h2
        rw [List.getElem_set]
        simp at h1
        split
        · rename_i hi; subst hi; rw [List.getElem_append_right (by simp)]; simp
        · rw [List.getElem_append_left (by simp; omega), List.getElem_take]
      rw [e]
      have hc := h.cov
      have hp := h.sorted
      rw [hsp] at hc hp
      refine ⟨hc.meetLast ht, fun _ => by simp, fun h1 h2 => ?_, ?_⟩
      · simp [mlast, ht]
      · rw [List.pairwise_append] at hp ⊢
        exact ⟨hp.1, List.pairwise_singleton _ _, fun x hx y hy => by simp at hy; subst hy; exact hp.2.2 x hx a (by simp)⟩
    · rw [mstep_new (fun _ => by rw [← ha]; exact ht)]
      refine ⟨h.cov.snoc n, fun _ => by simp, fun h1 h2 => by simp, ?_⟩
      rw [List.pairwise_append]
      refine ⟨h.sorted, List.pairwise_singleton _ _, fun x hx y hy => ?_⟩
      simp at hy; subst hy
      obtain ⟨i, hi, rfl⟩ := List.mem_iff_getElem.1 hx
      by_cases hil : i = out.length - 1
      · subst hil; rw [← ha]; omega
      · have := (List.pairwise_iff_getElem.1 h.sorted) i (out.length - 1) hi (by omega) (by omega)
        rw [← ha] at this; omega
  · have ho : out = [] := List.eq_nil_of_length_eq_zero (by omega)
    subst ho
    have hl : l = [] := by
      rcases Nat.eq_zero_or_pos l.length with h1 | h1
      · exact List.eq_nil_of_length_eq_zero h1
      · exact absurd (h.pos h1) (by simp)
    subst hl
    have e : mstep [] n = [n] := by simp [mstep]
    rw [e]
    exact ⟨h.cov.snoc n, fun _ => by simp, fun _ _ => by simp, List.pairwise_singleton _ _⟩
theorem merged_inv (l : List K) (hs : SortedK l) : MInv l (merged l) := by
  have : ∀ k, k ≤ l.length → MInv (l.take k) (mergedAt l k) := by
    intro k
    induction k with
    | zero => intro _; simp [mergedAt]; exact MInv.nil
    | succ k ih =>
      intro hk
      rw [mergedAt_succ l k (by omega), List.take_succ_eq_append_getElem (by omega)]
      refine (ih (by omega)).step ?_
      rw [← List.take_succ_eq_append_getElem (by omega)]
      exact hs.sublist (List.take_sublist _ _)
  have := this l.length (Nat.le_refl _)
  rwa [List.take_length, mergedAt_all] at this
theorem Covers.perm {m l l' : List K} (h : Covers m l) (hp : l.Perm l') : Covers m l' :=
  ⟨fun a ha => h.1 a (hp.mem_iff.2 ha), fun b hb => by
    obtain ⟨⟨a, ha, h1⟩, ⟨c, hc, h2⟩⟩ := h.2 b hb
    exact ⟨⟨a, hp.mem_iff.1 ha, h1⟩, ⟨c, hp.mem_iff.1 hc, h2⟩⟩⟩
theorem Covers.bnd {M : Int} {m l : List K} (h : Covers m l) (hl : ∀ x ∈ l, BndK M x) : ∀ x ∈ m, BndK M x := by
  intro x hx
  obtain ⟨⟨a, ha, h1, h2⟩, ⟨c, hc, h3, h4⟩⟩ := h.2 x hx
  have ba := hl a ha
  have bc := hl c hc
  unfold BndK at *
  omega
end W7
namespace W7
open Go Go.RowKit Go.Shelf Go.Sort Go.Proofs
theorem flatK_flatMap {α : Type} [Inhabited α] {enc : α → List Value} {k : Nat} (hk : ∀ x, (enc x).length = k) (h0 : 0 < k) (l : List α) : flatK enc k l.toArray = (l.flatMap enc).toArray := by
  apply ext_get!
  · simp [flatMap_len hk]
  · intro t ht
    simp only [size_flatK, List.size_toArray] at ht
    rw [get_flatK _ _ _ _ (by simpa using ht)]
    have hi : t / k < l.length := Nat.div_lt_of_lt_mul (by rw [Nat.mul_comm]; exact ht)
    have hj : t % k < k := Nat.mod_lt _ h0
    have e := flatMap_get hk l (t / k) (t % k) hi hj
    rw [Nat.mul_comm, Nat.div_add_mod] at e
    have hlt : t < (l.flatMap enc).length := by rw [flatMap_len hk]; exact ht
    have h2 : t % k < (enc l[t / k]).length := by rw [hk]; exact hj
    rw [List.getElem?_eq_getElem hlt, List.getElem?_eq_getElem h2] at e
    have e' := Option.some.inj e
    rw [getElem!_pos l.toArray (t / k) (by simpa using hi), getElem!_pos (l.flatMap enc).toArray t (by simpa using hlt)]
    simp only [List.getElem_toArray]
    rw [getElem!_pos (enc l[t / k]) (t % k) h2]
    exact e'.symm
theorem holdsK_of_own {α : Type} [Inhabited α] {enc : α → List Value} {k : Nat} (hk : ∀ x, (enc x).length = k) (h0 : 0 < k) {w : World} {base g cap n e : Nat} {l : List α}
    (h : w.ownsRow base e k (.slice (some ⟨g, 0, none⟩) n cap) n (l.flatMap enc)) : HoldsK enc k w g 0 l.toArray := by
  intro j hj
  rw [flatK_flatMap hk h0] at hj ⊢
  have hj' : j < (l.flatMap enc).length := by simpa using hj
  have hn : n * k = (l.flatMap enc).length := h.1.symm
  rw [Nat.zero_add]
  refine ⟨?_, h.frozenAt j⟩
  rw [h.cellAt j (by omega), List.getElem?_eq_getElem hj']
  simp [List.getElem?_eq_getElem hj']
theorem own_of_sorted {α : Type} [Inhabited α] {enc : α → List Value} {k : Nat} (hk : ∀ x, (enc x).length = k) (h0 : 0 < k) {w : World} {base g cap n e m : Nat} {os : Array Obj} {l l' : List α}
    (h : w.ownsRow base e k (.slice (some ⟨g, 0, none⟩) n cap) n (l.flatMap enc)) (hl : l'.length = l.length) :
    (sortWorldK enc k w g 0 m l'.toArray os).ownsRow base e k (.slice (some ⟨g, 0, none⟩) n cap) n (l'.flatMap enc) := by
  have hn : n * k = l.length * k := by have := h.1; rw [flatMap_len hk] at this; omega
  rcases h.2 with ⟨e0, _⟩ | ⟨g', cap', cur, e0, hb, hg, hnc, hm, hs, ht⟩
  · cases e0
  · injection e0 with e1 _ e3
    injection e1 with e1
    injection e1 with e1
    subst e1; subst e3
    have hglt : g < w.heap.size := (Array.getElem?_eq_some_iff.1 hg).1
    refine ⟨by rw [flatMap_len hk, hl, hn], .inr ⟨g, cap, putCells id 0 (l'.flatMap enc).toArray cur, rfl, hb, ?_, hnc, hm, by simpa [putCells] using hs, ?_⟩⟩
    · unfold sortWorldK putRowK
      rw [flatK_flatMap hk h0, heap_grow_old _ _ (by simpa using hglt)]
      simp [putRow, mapBlock, Sort.ahead, Array.getElem?_modify, hg, onCells]
    · have hcs : n * k ≤ cur.size := by rw [hs]; exact Nat.mul_le_mul_right _ hnc
      have hll : (l'.flatMap enc).length = n * k := by rw [flatMap_len hk, hl, hn]
      apply List.ext_getElem?
      intro j
      by_cases hj : j < n * k
      · rw [List.getElem?_take_of_lt hj, Array.getElem?_toList]
        simp only [putCells, Array.getElem?_mapIdx, Array.getElem?_eq_getElem (show j < cur.size by omega), Option.map_some]
        have hjl : j < (l'.flatMap enc).length := by omega
        rw [if_pos ⟨Nat.zero_le _, by rw [List.size_toArray]; omega⟩, List.getElem?_eq_getElem hjl]
        simp [List.getElem?_eq_getElem hjl]
      · rw [List.getElem?_take_eq_none (by omega), List.getElem?_eq_none (by omega)]
theorem grown_of_sorted {α : Type} [Inhabited α] {enc : α → List Value} {k : Nat} {w : World} {g m : Nat} {os : Array Obj} {d : Array α} : w.grownBy (sortWorldK enc k w g 0 m d os) (some g) := by
  refine ⟨rfl, rfl, rfl, by simp [sortWorldK, putRowK, putRow, mapBlock, Sort.ahead, grow], fun i hi hne => ?_⟩
  unfold sortWorldK putRowK
  rw [heap_grow_old _ _ (by simpa [putRow, mapBlock, Sort.ahead] using hi)]
  have : g ≠ i := fun e => hne (by rw [e])
  simp [putRow, mapBlock, Sort.ahead, Array.getElem?_modify, this]
end W7
