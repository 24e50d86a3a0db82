/-
  The plain laws on histories: what spans at times say together of a value at a time. No program.
-/
import Derived.Test.YtcgnpndfhhcplaaGreatDoorSpec
namespace W7
/-- A span of numbers that is known at a time. -/
structure K where
  t : Int
  lo : Int
  hi : Int
deriving Inhabited
/-- by how much a value may fall from the time s to the time t (either may be first) -/
def dn (rise fall s t : Int) : Int := if s ≤ t then fall * (t - s) else rise * (s - t)
theorem dn_self (r f s : Int) : dn r f s s = 0 := by simp [dn]
theorem dn_le (r f s t : Int) (h : s ≤ t) : dn r f s t = f * (t - s) := by simp [dn, h]
theorem dn_ge (r f s t : Int) (h : t ≤ s) : dn r f s t = r * (s - t) := by
  unfold dn
  by_cases h' : s ≤ t
  · have : s = t := by omega
    subst this; simp
  · rw [if_neg h']
theorem dn_nonneg (r f s t : Int) (hr : 0 ≤ r) (hf : 0 ≤ f) : 0 ≤ dn r f s t := by
  unfold dn
  split
  · exact Int.mul_nonneg hf (by omega)
  · exact Int.mul_nonneg hr (by omega)
theorem mul_split (a x y z : Int) : a * (z - x) = a * (y - x) + a * (z - y) := by
  rw [← Int.mul_add]; congr 1; omega
theorem dn_tri (r f s t u : Int) (hr : 0 ≤ r) (hf : 0 ≤ f) : dn r f s u ≤ dn r f s t + dn r f t u := by
  rcases Int.le_total s t with h1 | h1 <;> rcases Int.le_total t u with h2 | h2 <;> rcases Int.le_total s u with h3 | h3
  · rw [dn_le r f s u h3, dn_le r f s t h1, dn_le r f t u h2, mul_split f s t u]; omega
  · have : s = u := by omega
    subst this
    have : s = t := by omega
    subst this
    simp [dn_self]
  · rw [dn_le r f s u h3, dn_le r f s t h1, dn_ge r f t u h2]
    have e := mul_split f s u t
    have := Int.mul_nonneg hf (show 0 ≤ t - u by omega)
    have := Int.mul_nonneg hr (show 0 ≤ t - u by omega)
    omega
  · rw [dn_ge r f s u h3, dn_le r f s t h1, dn_ge r f t u h2]
    have e := mul_split r u s t
    have := Int.mul_nonneg hf (show 0 ≤ t - s by omega)
    have := Int.mul_nonneg hr (show 0 ≤ t - s by omega)
    omega
  · rw [dn_le r f s u h3, dn_ge r f s t h1, dn_le r f t u h2]
    have e := mul_split f t s u
    have := Int.mul_nonneg hf (show 0 ≤ s - t by omega)
    have := Int.mul_nonneg hr (show 0 ≤ s - t by omega)
    omega
  · rw [dn_ge r f s u h3, dn_ge r f s t h1, dn_le r f t u h2]
    have e := mul_split r t u s
    have := Int.mul_nonneg hf (show 0 ≤ u - t by omega)
    have := Int.mul_nonneg hr (show 0 ≤ u - t by omega)
    omega
  · have : s = u := by omega
    subst this
    have : s = t := by omega
    subst this
    simp [dn_self]
  · rw [dn_ge r f s u h3, dn_ge r f s t h1, dn_ge r f t u h2, mul_split r u t s]; omega

section
variable (r f : Int)
/-- some history goes through all spans -/
def Agree (l : List K) : Prop := ∀ a ∈ l, ∀ b ∈ l, a.lo - dn r f a.t b.t ≤ b.hi
/-- the least value at a time -/
def IsLo (l : List K) (t x : Int) : Prop := (∃ a ∈ l, x = a.lo - dn r f a.t t) ∧ ∀ a ∈ l, a.lo - dn r f a.t t ≤ x
def IsHi (l : List K) (t x : Int) : Prop := (∃ a ∈ l, x = a.hi + dn r f t a.t) ∧ ∀ a ∈ l, x ≤ a.hi + dn r f t a.t
theorem IsLo.unique {l : List K} {t x y : Int} (h : IsLo r f l t x) (h' : IsLo r f l t y) : x = y := by
  obtain ⟨⟨a, ha, rfl⟩, h1⟩ := h
  obtain ⟨⟨b, hb, rfl⟩, h2⟩ := h'
  have := h1 b hb
  have := h2 a ha
  omega
theorem IsHi.unique {l : List K} {t x y : Int} (h : IsHi r f l t x) (h' : IsHi r f l t y) : x = y := by
  obtain ⟨⟨a, ha, rfl⟩, h1⟩ := h
  obtain ⟨⟨b, hb, rfl⟩, h2⟩ := h'
  have := h1 b hb
  have := h2 a ha
  omega
end
end W7
namespace W7
/-- one side: a time and a least value there -/
structure V where
  t : Int
  v : Int
section
variable (r f : Int)
def fwdGo (p : V) : List V → List V
  | [] => []
  | n :: l => let m : V := ⟨n.t, max n.v (p.v - f * (n.t - p.t))⟩; m :: fwdGo m l
def fwd1 : List V → List V
  | [] => []
  | n :: l => n :: fwdGo f n l
def bwd1 : List V → List V
  | [] => []
  | [n] => [n]
  | n :: m :: l => match bwd1 (m :: l) with
    | [] => []
    | b :: l' => ⟨n.t, max n.v (b.v - r * (b.t - n.t))⟩ :: b :: l'
/-- the greatest of what values say of a time -/
def Top (l : List V) (t x : Int) : Prop := (∃ a ∈ l, x = a.v - dn r f a.t t) ∧ ∀ a ∈ l, a.v - dn r f a.t t ≤ x
variable {r f}
theorem Top.unique {l : List V} {t x y : Int} (h : Top r f l t x) (h' : Top r f l t y) : x = y := by
  obtain ⟨⟨a, ha, rfl⟩, h1⟩ := h
  obtain ⟨⟨b, hb, rfl⟩, h2⟩ := h'
  have := h1 b hb
  have := h2 a ha
  omega
theorem Top.one (a : V) : Top r f [a] a.t a.v := by
  constructor
  · exact ⟨a, by simp, by rw [dn_self]; omega⟩
  · intro b hb
    simp at hb; subst hb
    rw [dn_self]; omega
theorem Top.append {l l' : List V} {t x y : Int} (h : Top r f l t x) (h' : Top r f l' t y) : Top r f (l ++ l') t (max x y) := by
  obtain ⟨⟨a, ha, hx⟩, h1⟩ := h
  obtain ⟨⟨b, hb, hy⟩, h2⟩ := h'
  constructor
  · rcases Int.le_total x y with h | h
    · exact ⟨b, by simp [hb], by omega⟩
    · exact ⟨a, by simp [ha], by omega⟩
  · intro c hc
    rcases List.mem_append.1 hc with hc | hc
    · have := h1 c hc; omega
    · have := h2 c hc; omega
theorem Top.later {l : List V} {s t x : Int} (h : Top r f l s x) (hl : ∀ a ∈ l, a.t ≤ s) (hst : s ≤ t) : Top r f l t (x - f * (t - s)) := by
  have key : ∀ a ∈ l, dn r f a.t t = dn r f a.t s + f * (t - s) := by
    intro a ha
    have := hl a ha
    rw [dn_le _ _ _ _ (by omega), dn_le _ _ _ _ (by omega)]
    exact mul_split f a.t s t
  obtain ⟨⟨a, ha, hx⟩, h1⟩ := h
  refine ⟨⟨a, ha, by rw [key a ha]; omega⟩, fun b hb => ?_⟩
  rw [key b hb]
  have := h1 b hb
  omega
theorem Top.sooner {l : List V} {s t x : Int} (h : Top r f l s x) (hl : ∀ a ∈ l, s ≤ a.t) (hst : t ≤ s) : Top r f l t (x - r * (s - t)) := by
  have key : ∀ a ∈ l, dn r f a.t t = dn r f a.t s + r * (s - t) := by
    intro a ha
    have := hl a ha
    rw [dn_ge _ _ _ _ (by omega), dn_ge _ _ _ _ (by omega)]
    have := mul_split r t s a.t
    omega
  obtain ⟨⟨a, ha, hx⟩, h1⟩ := h
  refine ⟨⟨a, ha, by rw [key a ha]; omega⟩, fun b hb => ?_⟩
  rw [key b hb]
  have := h1 b hb
  omega
def Sorted (l : List V) : Prop := l.Pairwise fun a b => a.t ≤ b.t
theorem fwdGo_length (p : V) (l : List V) : (fwdGo f p l).length = l.length := by
  induction l generalizing p with
  | nil => rfl
  | cons n l ih => simp [fwdGo, ih]
theorem fwd1_length (l : List V) : (fwd1 f l).length = l.length := by
  cases l with
  | nil => rfl
  | cons n l => simp [fwd1, fwdGo_length]
/-- forward: at each place the greatest of what those up to it say -/
theorem fwdGo_top (l : List V) : ∀ (pre : List V) (p : V), Top r f pre p.t p.v → (∀ a ∈ pre, a.t ≤ p.t) → Sorted (p :: l) →
    ∀ i (hi : i < l.length), ((fwdGo f p l)[i]'(by rw [fwdGo_length]; exact hi)).t = l[i].t ∧
      Top r f (pre ++ l.take (i + 1)) l[i].t ((fwdGo f p l)[i]'(by rw [fwdGo_length]; exact hi)).v := by
  induction l with
  | nil => intro _ _ _ _ _ i hi; exact absurd hi (by simp)
  | cons n l ih =>
    intro pre p hp hpre hs i hi
    have hpn : p.t ≤ n.t := by
      unfold Sorted at hs
      rw [List.pairwise_cons] at hs
      exact hs.1 n (by simp)
    have hnew : Top r f (pre ++ [n]) n.t (max n.v (p.v - f * (n.t - p.t))) := by
      have h1 := hp.later hpre hpn
      have h2 := Top.one (r := r) (f := f) n
      have := h1.append h2
      rwa [Int.max_comm] at this
    cases i with
    | zero =>
      simp only [fwdGo, List.getElem_cons_zero, List.take_succ_cons, List.take_zero]
      exact ⟨trivial, hnew⟩
    | succ i =>
      simp only [fwdGo, List.getElem_cons_succ, List.take_succ_cons]
      have hs' : Sorted (n :: l) := by unfold Sorted at hs ⊢; exact (List.pairwise_cons.1 hs).2
      have := ih (pre ++ [n]) ⟨n.t, max n.v (p.v - f * (n.t - p.t))⟩ hnew (by
        intro a ha
        rcases List.mem_append.1 ha with ha | ha
        · have := hpre a ha; simp; omega
        · simp at ha; subst ha; simp) (by
        unfold Sorted at hs' ⊢
        rw [List.pairwise_cons] at hs' ⊢
        exact ⟨fun a ha => hs'.1 a ha, hs'.2⟩) i (by simpa using hi)
      rw [List.append_assoc] at this
      exact this
theorem fwd1_top (l : List V) (hs : Sorted l) (i : Nat) (hi : i < l.length) :
    ((fwd1 f l)[i]'(by rw [fwd1_length]; exact hi)).t = l[i].t ∧ Top r f (l.take (i + 1)) l[i].t ((fwd1 f l)[i]'(by rw [fwd1_length]; exact hi)).v := by
  cases l with
  | nil => exact absurd hi (by simp)
  | cons n l =>
    cases i with
    | zero => simp only [fwd1, List.getElem_cons_zero, List.take_succ_cons, List.take_zero]; exact ⟨trivial, Top.one n⟩
    | succ i =>
      have := fwdGo_top (r := r) (f := f) l [n] n (Top.one n) (by simp) hs i (by simpa using hi)
      simpa [fwd1] using this
theorem bwd1_length (l : List V) : (bwd1 r l).length = l.length := by
  induction l with
  | nil => rfl
  | cons n l ih =>
    cases l with
    | nil => rfl
    | cons m l =>
      unfold bwd1
      cases hb : bwd1 r (m :: l) with
      | nil => rw [hb] at ih; simp at ih
      | cons b l' => rw [hb] at ih; simp at ih ⊢; exact ih
theorem bwd1_top (l : List V) (hs : Sorted l) : ∀ i (hi : i < l.length),
    ((bwd1 r l)[i]'(by rw [bwd1_length]; exact hi)).t = l[i].t ∧ Top r f (l.drop i) l[i].t ((bwd1 r l)[i]'(by rw [bwd1_length]; exact hi)).v := by
  induction l with
  | nil => intro i hi; exact absurd hi (by simp)
  | cons n l ih =>
    intro i hi
    cases l with
    | nil =>
      have : i = 0 := by simp at hi; exact hi
      subst this
      exact ⟨rfl, Top.one n⟩
    | cons m l =>
      have hs' : Sorted (m :: l) := by unfold Sorted at hs ⊢; exact (List.pairwise_cons.1 hs).2
      have ih' := ih hs'
      have hlen := bwd1_length (r := r) (m :: l)
      have e : bwd1 r (n :: m :: l) = match bwd1 r (m :: l) with
        | [] => []
        | b :: l' => ⟨n.t, max n.v (b.v - r * (b.t - n.t))⟩ :: b :: l' := rfl
      cases hb : bwd1 r (m :: l) with
      | nil => rw [hb] at hlen; simp at hlen
      | cons b l' =>
        simp only [hb] at e ih'
        have h0 := ih' 0 (by simp)
        simp only [List.getElem_cons_zero, List.drop_zero] at h0
        cases i with
        | zero =>
          simp only [e, List.getElem_cons_zero, List.drop_zero]
          refine ⟨trivial, ?_⟩
          have hall := (List.pairwise_cons.1 hs).1
          have h2 : Top r f (m :: l) n.t (b.v - r * (b.t - n.t)) := by
            rw [h0.1]
            refine h0.2.sooner (fun a ha => ?_) (hall m (by simp))
            rcases List.mem_cons.1 ha with rfl | ha
            · omega
            · exact (List.pairwise_cons.1 hs').1 a ha
          exact (Top.one n).append h2
        | succ i =>
          have := ih' i (by simpa using hi)
          simp only [e, List.getElem_cons_succ, List.drop_succ_cons]
          exact this
/-- forward, then backward: at each place the greatest of what all say -/
theorem both_top (hr : 0 ≤ r) (hf : 0 ≤ f) (l : List V) (hs : Sorted l) (i : Nat) (hi : i < l.length) (h1 : i < (bwd1 r (fwd1 f l)).length) :
    (bwd1 r (fwd1 f l))[i].t = l[i].t ∧ Top r f l l[i].t (bwd1 r (fwd1 f l))[i].v := by
  have hF := fwd1_top (r := r) (f := f) l hs
  have hlen := fwd1_length (f := f) l
  have hsF : Sorted (fwd1 f l) := by
    unfold Sorted
    rw [List.pairwise_iff_getElem]
    intro a b ha hb hab
    rw [(hF a (by omega)).1, (hF b (by omega)).1]
    exact (List.pairwise_iff_getElem.1 hs) a b _ _ hab
  have hB := bwd1_top (r := r) (f := f) (fwd1 f l) hsF i (by omega)
  obtain ⟨hBt, ⟨c, hc, hcx⟩, hBm⟩ := hB
  have hFt := (hF i hi).1
  refine ⟨hBt.trans hFt, ?_⟩
  rw [hFt] at hcx hBm
  have upper : ∀ a ∈ l, a.v - dn r f a.t l[i].t ≤ (bwd1 r (fwd1 f l))[i].v := by
    intro a ha
    obtain ⟨k, hk, rfl⟩ := List.mem_iff_getElem.1 ha
    rcases Nat.lt_or_ge i k with hik | hik
    · have h2 := (hF k hk).2.2 l[k] (List.mem_take_iff_getElem.2 ⟨k, by omega, rfl⟩)
      rw [dn_self] at h2
      have h3 := hBm ((fwd1 f l)[k]'(by omega)) (List.mem_drop_iff_getElem.2 ⟨k - i, by omega, by congr 1; omega⟩)
      rw [(hF k hk).1] at h3
      omega
    · have h2 := (hF i hi).2.2 l[k] (List.mem_take_iff_getElem.2 ⟨k, by omega, rfl⟩)
      have h3 := hBm ((fwd1 f l)[i]'(by omega)) (List.mem_drop_iff_getElem.2 ⟨0, by omega, rfl⟩)
      rw [(hF i hi).1, dn_self] at h3
      omega
  refine ⟨?_, upper⟩
  obtain ⟨j, hj, rfl⟩ := List.mem_drop_iff_getElem.1 hc
  have hj' : i + j < l.length := by omega
  obtain ⟨⟨a, ha, hav⟩, _⟩ := (hF (i + j) hj').2
  have hal : a ∈ l := List.mem_of_mem_take ha
  refine ⟨a, hal, ?_⟩
  have h2 := upper a hal
  rw [(hF (i + j) hj').1] at hcx
  have h3 := dn_tri r f a.t l[i + j].t l[i].t hr hf
  omega
end
end W7
namespace W7
def K.meet (a : K) (lo hi : Int) : K := ⟨a.t, max a.lo lo, min a.hi hi⟩
def fwdKGo (r f : Int) (p : K) : List K → List K
  | [] => []
  | n :: l => let m := n.meet (p.lo - f * (n.t - p.t)) (p.hi + r * (n.t - p.t)); m :: fwdKGo r f m l
def fwdK (r f : Int) : List K → List K
  | [] => []
  | n :: l => n :: fwdKGo r f n l
def bwdK (r f : Int) : List K → List K
  | [] => []
  | [n] => [n]
  | n :: m :: l => match bwdK r f (m :: l) with
    | [] => []
    | b :: l' => n.meet (b.lo - r * (b.t - n.t)) (b.hi + f * (b.t - n.t)) :: b :: l'
def loV (l : List K) : List V := l.map fun k => ⟨k.t, k.lo⟩
def hiV (l : List K) : List V := l.map fun k => ⟨k.t, -k.hi⟩
section
variable {r f : Int}
theorem loV_fwdGo (l : List K) : ∀ p : K, loV (fwdKGo r f p l) = fwdGo f ⟨p.t, p.lo⟩ (loV l) := by
  induction l with
  | nil => intro p; rfl
  | cons n l ih => intro p; simp only [fwdKGo, loV, List.map_cons, fwdGo, K.meet] at ih ⊢; congr 1; exact ih _
theorem hiV_fwdGo (l : List K) : ∀ p : K, hiV (fwdKGo r f p l) = fwdGo r ⟨p.t, -p.hi⟩ (hiV l) := by
  induction l with
  | nil => intro p; rfl
  | cons n l ih =>
    intro p
    simp only [fwdKGo, hiV, List.map_cons, fwdGo, K.meet] at ih ⊢
    rw [show max (-n.hi) (-p.hi - r * (n.t - p.t)) = -(min n.hi (p.hi + r * (n.t - p.t))) by omega]
    congr 1; exact ih _
theorem loV_fwd (l : List K) : loV (fwdK r f l) = fwd1 f (loV l) := by
  cases l with
  | nil => rfl
  | cons n l => simp only [fwdK, fwd1, loV, List.map_cons]; congr 1; exact loV_fwdGo l n
theorem hiV_fwd (l : List K) : hiV (fwdK r f l) = fwd1 r (hiV l) := by
  cases l with
  | nil => rfl
  | cons n l => simp only [fwdK, fwd1, hiV, List.map_cons]; congr 1; exact hiV_fwdGo l n
theorem loV_bwd (l : List K) : loV (bwdK r f l) = bwd1 r (loV l) := by
  induction l with
  | nil => rfl
  | cons n l ih =>
    cases l with
    | nil => rfl
    | cons m l =>
      have e1 : bwd1 r (loV (n :: m :: l)) = match bwd1 r (loV (m :: l)) with
        | [] => []
        | b :: l' => ⟨n.t, max n.lo (b.v - r * (b.t - n.t))⟩ :: b :: l' := rfl
      have e2 : bwdK r f (n :: m :: l) = match bwdK r f (m :: l) with
        | [] => []
        | b :: l' => n.meet (b.lo - r * (b.t - n.t)) (b.hi + f * (b.t - n.t)) :: b :: l' := rfl
      rw [e1, e2, ← ih]
      cases bwdK r f (m :: l) with
      | nil => rfl
      | cons b l' => rfl
theorem hiV_bwd (l : List K) : hiV (bwdK r f l) = bwd1 f (hiV l) := by
  induction l with
  | nil => rfl
  | cons n l ih =>
    cases l with
    | nil => rfl
    | cons m l =>
      have e1 : bwd1 f (hiV (n :: m :: l)) = match bwd1 f (hiV (m :: l)) with
        | [] => []
        | b :: l' => ⟨n.t, max (-n.hi) (b.v - f * (b.t - n.t))⟩ :: b :: l' := rfl
      have e2 : bwdK r f (n :: m :: l) = match bwdK r f (m :: l) with
        | [] => []
        | b :: l' => n.meet (b.lo - r * (b.t - n.t)) (b.hi + f * (b.t - n.t)) :: b :: l' := rfl
      rw [e1, e2, ← ih]
      cases bwdK r f (m :: l) with
      | nil => rfl
      | cons b l' =>
        simp only [hiV, List.map_cons, K.meet]
        rw [show max (-n.hi) (-b.hi - f * (b.t - n.t)) = -(min n.hi (b.hi + f * (b.t - n.t))) by omega]
theorem fwdKGo_length (l : List K) : ∀ p : K, (fwdKGo r f p l).length = l.length := by
  induction l with
  | nil => intro p; rfl
  | cons n l ih => intro p; simp [fwdKGo, ih]
theorem fwdK_length (l : List K) : (fwdK r f l).length = l.length := by
  cases l with
  | nil => rfl
  | cons n l => simp [fwdK, fwdKGo_length]
theorem bwdK_length (l : List K) : (bwdK r f l).length = l.length := by
  have := bwd1_length (r := r) (loV l)
  rw [← loV_bwd (f := f)] at this
  simpa [loV] using this
theorem dn_swap (s t : Int) : dn f r s t = dn r f t s := by
  rcases Int.le_total s t with h | h
  · rw [dn_le _ _ _ _ h, dn_ge _ _ _ _ h]
  · rw [dn_ge _ _ _ _ h, dn_le _ _ _ _ h]
def SortedK (l : List K) : Prop := l.Pairwise fun a b => a.t ≤ b.t
theorem SortedK.lo {l : List K} (h : SortedK l) : Sorted (loV l) := by
  unfold Sorted loV; rw [List.pairwise_map]; exact h
theorem SortedK.hi {l : List K} (h : SortedK l) : Sorted (hiV l) := by
  unfold Sorted hiV; rw [List.pairwise_map]; exact h
theorem Top.isLo {l : List K} {t x : Int} (h : Top r f (loV l) t x) : IsLo r f l t x := by
  obtain ⟨⟨a, ha, hx⟩, h1⟩ := h
  simp only [loV, List.mem_map] at ha h1
  obtain ⟨k, hk, rfl⟩ := ha
  exact ⟨⟨k, hk, hx⟩, fun k hk => h1 _ ⟨k, hk, rfl⟩⟩
theorem Top.isHi {l : List K} {t x : Int} (h : Top f r (hiV l) t (-x)) : IsHi r f l t x := by
  obtain ⟨⟨a, ha, hx⟩, h1⟩ := h
  simp only [hiV, List.mem_map] at ha h1
  obtain ⟨k, hk, rfl⟩ := ha
  refine ⟨⟨k, hk, ?_⟩, fun k hk => ?_⟩
  · simp only at hx; rw [dn_swap] at hx; omega
  · have := h1 _ ⟨k, hk, rfl⟩
    simp only at this; rw [dn_swap] at this; omega
theorem IsLo.top {l : List K} {t x : Int} (h : IsLo r f l t x) : Top r f (loV l) t x := by
  obtain ⟨⟨k, hk, hx⟩, h1⟩ := h
  refine ⟨⟨⟨k.t, k.lo⟩, List.mem_map.2 ⟨k, hk, rfl⟩, hx⟩, fun a ha => ?_⟩
  obtain ⟨k, hk, rfl⟩ := List.mem_map.1 ha
  exact h1 k hk
/-- the values of each place, when all are narrowed -/
theorem narrow_spec (hr : 0 ≤ r) (hf : 0 ≤ f) (l : List K) (hs : SortedK l) (i : Nat) (hi : i < l.length) (h1 : i < (bwdK r f (fwdK r f l)).length) :
    (bwdK r f (fwdK r f l))[i].t = l[i].t ∧ IsLo r f l l[i].t (bwdK r f (fwdK r f l))[i].lo ∧ IsHi r f l l[i].t (bwdK r f (fwdK r f l))[i].hi := by
  have elo : loV (bwdK r f (fwdK r f l)) = bwd1 r (fwd1 f (loV l)) := by rw [loV_bwd, loV_fwd]
  have ehi : hiV (bwdK r f (fwdK r f l)) = bwd1 f (fwd1 r (hiV l)) := by rw [hiV_bwd, hiV_fwd]
  have hlo := both_top (r := r) (f := f) hr hf (loV l) hs.lo i (by simpa [loV] using hi) (by rw [← elo]; simpa [loV] using h1)
  have hhi := both_top (r := f) (f := r) hf hr (hiV l) hs.hi i (by simpa [hiV] using hi) (by rw [← ehi]; simpa [hiV] using h1)
  simp only [← elo] at hlo
  simp only [← ehi] at hhi
  simp only [loV, hiV, List.getElem_map] at hlo hhi
  exact ⟨hlo.1, hlo.2.isLo, hhi.2.isHi⟩
/-- the forward run finds no empty span just if all agree -/
theorem fwd_agree (hr : 0 ≤ r) (hf : 0 ≤ f) (l : List K) (hs : SortedK l) : (∀ n ∈ fwdK r f l, n.lo ≤ n.hi) ↔ Agree r f l := by
  have hlo := fwd1_top (r := r) (f := f) (loV l) hs.lo
  have hhi := fwd1_top (r := f) (f := r) (hiV l) hs.hi
  simp only [← loV_fwd (r := r)] at hlo
  simp only [← hiV_fwd (f := f)] at hhi
  have hlen := fwdK_length (r := r) (f := f) l
  have key : ∀ i (hi : i < l.length), Top r f ((loV l).take (i + 1)) l[i].t ((fwdK r f l)[i]'(by omega)).lo ∧ Top f r ((hiV l).take (i + 1)) l[i].t (-((fwdK r f l)[i]'(by omega)).hi) := by
    intro i hi
    have h1 := (hlo i (by simpa [loV] using hi)).2
    have h2 := (hhi i (by simpa [hiV] using hi)).2
    simp only [loV, hiV, List.getElem_map] at h1 h2
    exact ⟨h1, h2⟩
  constructor
  · intro h a ha b hb
    obtain ⟨j, hj, rfl⟩ := List.mem_iff_getElem.1 ha
    obtain ⟨k, hk, rfl⟩ := List.mem_iff_getElem.1 hb
    have pick : ∀ i (hi : i < l.length), j ≤ i → k ≤ i → l[j].lo - dn r f l[j].t l[i].t ≤ l[k].hi + dn r f l[i].t l[k].t := by
      intro i hi hji hki
      obtain ⟨⟨_, h1⟩, ⟨_, h2⟩⟩ := key i hi
      have h3 := h1 ⟨l[j].t, l[j].lo⟩ (List.mem_take_iff_getElem.2 ⟨j, by simp [loV]; omega, by simp [loV]⟩)
      have h4 := h2 ⟨l[k].t, -l[k].hi⟩ (List.mem_take_iff_getElem.2 ⟨k, by simp [hiV]; omega, by simp [hiV]⟩)
      have h5 := h _ (List.getElem_mem (show i < (fwdK r f l).length by omega))
      simp only at h3 h4
      rw [dn_swap] at h4
      omega
    rcases Nat.le_total j k with hjk | hjk
    · have := pick k hk hjk (Nat.le_refl _)
      rw [dn_self] at this
      omega
    · have := pick j hj (Nat.le_refl _) hjk
      rw [dn_self] at this
      omega
  · intro h n hn
    obtain ⟨i, hi, rfl⟩ := List.mem_iff_getElem.1 hn
    obtain ⟨⟨⟨a, ha, h1⟩, _⟩, ⟨⟨b, hb, h2⟩, _⟩⟩ := key i (by omega)
    obtain ⟨a', ha', rfl⟩ := List.mem_map.1 (List.mem_of_mem_take ha)
    obtain ⟨b', hb', rfl⟩ := List.mem_map.1 (List.mem_of_mem_take hb)
    have h3 := h a' ha' b' hb'
    have h4 := dn_tri r f a'.t (l[i]'(by omega)).t b'.t hr hf
    simp only at h1 h2
    rw [dn_swap] at h2
    omega
/-- one list of what is known says what another one says -/
def Covers (m l : List K) : Prop :=
  (∀ a ∈ l, ∃ b ∈ m, b.t = a.t ∧ a.lo ≤ b.lo ∧ b.hi ≤ a.hi) ∧ ∀ b ∈ m, (∃ a ∈ l, a.t = b.t ∧ a.lo = b.lo) ∧ ∃ a ∈ l, a.t = b.t ∧ a.hi = b.hi
theorem Covers.agree {m l : List K} (h : Covers m l) : Agree r f m ↔ Agree r f l := by
  constructor
  · intro hm a ha b hb
    obtain ⟨a', ha', e1, e2, e3⟩ := h.1 a ha
    obtain ⟨b', hb', f1, f2, f3⟩ := h.1 b hb
    have := hm a' ha' b' hb'
    rw [e1, f1] at this
    omega
  · intro hl a ha b hb
    obtain ⟨⟨a', ha', e1, e2⟩, _⟩ := h.2 a ha
    obtain ⟨_, ⟨b', hb', f1, f2⟩⟩ := h.2 b hb
    have := hl a' ha' b' hb'
    rw [e1, f1] at this
    omega
theorem Covers.isLo {m l : List K} (h : Covers m l) {t x : Int} (hx : IsLo r f m t x) : IsLo r f l t x := by
  obtain ⟨⟨b, hb, rfl⟩, h1⟩ := hx
  obtain ⟨⟨a, ha, e1, e2⟩, _⟩ := h.2 b hb
  refine ⟨⟨a, ha, by rw [e1, e2]⟩, fun c hc => ?_⟩
  obtain ⟨d, hd, g1, g2, g3⟩ := h.1 c hc
  have := h1 d hd
  rw [g1] at this
  omega
theorem Covers.isHi {m l : List K} (h : Covers m l) {t x : Int} (hx : IsHi r f m t x) : IsHi r f l t x := by
  obtain ⟨⟨b, hb, rfl⟩, h1⟩ := hx
  obtain ⟨_, ⟨a, ha, e1, e2⟩⟩ := h.2 b hb
  refine ⟨⟨a, ha, by rw [e1, e2]⟩, fun c hc => ?_⟩
  obtain ⟨d, hd, g1, g2, g3⟩ := h.1 c hc
  have := h1 d hd
  rw [g1] at this
  omega
end
end W7

namespace W7
def encK (k : K) : List Go.Value := [.int .i64 k.t, .int .i64 k.lo, .int .i64 k.hi]
end W7
