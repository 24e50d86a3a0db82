/-
  Plain laws on spans in the order of their least values that are joined. No program.
-/
import Derived.Test.YtcgnpndfhhcplaaGreatDoorSpec
namespace W7
def jlast (a s : Span) : Span := ⟨a.lo, max a.hi s.hi⟩
/-- one span more, the spans ahead in the order of their least values -/
def jstep (out : List Span) (s : Span) : List Span :=
  if h : 0 < out.length then
    (if s.lo ≤ (out[out.length - 1]'(by omega)).hi + 1 then out.set (out.length - 1) (jlast (out[out.length - 1]'(by omega)) s) else out ++ [s])
  else out ++ [s]
def joinAt (l : List Span) (k : Nat) : List Span := (l.take k).foldl jstep []
def joinL (l : List Span) : List Span := l.foldl jstep []
theorem joinAt_succ (l : List Span) (k : Nat) (h : k < l.length) : joinAt l (k + 1) = jstep (joinAt l k) l[k] := by
  unfold joinAt; rw [List.take_succ_eq_append_getElem h, List.foldl_append]; rfl
theorem joinAt_all (l : List Span) : joinAt l l.length = joinL l := by simp [joinAt, joinL]
theorem jstep_len (out : List Span) (s : Span) : (jstep out s).length ≤ out.length + 1 := by
  unfold jstep; split
  · split <;> simp
  · simp
theorem joinAt_len (l : List Span) (k : Nat) (h : k ≤ l.length) : (joinAt l k).length ≤ k := by
  induction k with
  | zero => simp [joinAt]
  | succ k ih => rw [joinAt_succ l k (by omega)]; have := jstep_len (joinAt l k) l[k]; have := ih (by omega); omega
theorem jstep_join {out : List Span} {s : Span} (h : 0 < out.length) (ht : s.lo ≤ (out[out.length - 1]'(by omega)).hi + 1) : jstep out s = out.set (out.length - 1) (jlast (out[out.length - 1]'(by omega)) s) := by
  simp [jstep, h, ht]
theorem jstep_new {out : List Span} {s : Span} (h : ∀ h : 0 < out.length, ¬ s.lo ≤ (out[out.length - 1]'(by omega)).hi + 1) : jstep out s = out ++ [s] := by
  unfold jstep
  split
  · rename_i h0; rw [if_neg (h h0)]
  · rfl
/-- bounds that all spans keep -/
theorem joinAt_bnd {M : Int} (l : List Span) (hb : ∀ s ∈ l, -M ≤ s.lo ∧ s.lo ≤ M ∧ -M ≤ s.hi ∧ s.hi ≤ M) (k : Nat) (hk : k ≤ l.length) : ∀ x ∈ joinAt l k, -M ≤ x.lo ∧ x.lo ≤ M ∧ -M ≤ x.hi ∧ x.hi ≤ M := by
  induction k with
  | zero => intro x hx; simp [joinAt] at hx
  | succ k ih =>
    rw [joinAt_succ l k (by omega)]
    have ih' := ih (by omega)
    have hs := hb l[k] (List.getElem_mem _)
    revert ih'
    generalize joinAt l k = out
    intro ih' x hx
    unfold jstep at hx
    split at hx
    · rename_i h0
      have h1 := ih' (out[out.length - 1]'(by omega)) (List.getElem_mem _)
      split at hx
      · rcases List.mem_or_eq_of_mem_set hx with h | rfl
        · exact ih' x h
        · unfold jlast; simp only; omega
      · rcases List.mem_append.1 hx with h | h
        · exact ih' x h
        · simp at h; subst h; exact hs
    · rcases List.mem_append.1 hx with h | h
      · exact ih' x h
      · simp at h; subst h; exact hs
/-- is a number in one of some spans? -/
def InS (l : List Span) (x : Int) : Prop := ∃ s ∈ l, s.lo ≤ x ∧ x ≤ s.hi
/-- spans that are increasing, as few as can be -/
def Canon : List Span → Prop
  | [] => True
  | s :: l => s.lo ≤ s.hi ∧ (∀ u ∈ l, s.hi + 1 < u.lo) ∧ Canon l
theorem InS.cons {s : Span} {l : List Span} {x : Int} : InS (s :: l) x ↔ (s.lo ≤ x ∧ x ≤ s.hi) ∨ InS l x := by simp [InS]
theorem InS.append {l l' : List Span} {x : Int} : InS (l ++ l') x ↔ InS l x ∨ InS l' x := by
  simp only [InS, List.mem_append]
  constructor
  · rintro ⟨s, h | h, h1⟩
    · exact .inl ⟨s, h, h1⟩
    · exact .inr ⟨s, h, h1⟩
  · rintro (⟨s, h, h1⟩ | ⟨s, h, h1⟩)
    · exact ⟨s, .inl h, h1⟩
    · exact ⟨s, .inr h, h1⟩
theorem InS.nil {x : Int} : ¬ InS [] x := by simp [InS]
theorem Canon.le {l : List Span} (h : Canon l) : ∀ s ∈ l, s.lo ≤ s.hi := by
  induction l with
  | nil => simp
  | cons a l ih =>
    intro s hs
    rcases List.mem_cons.1 hs with rfl | hs
    · exact h.1
    · exact ih h.2.2 s hs
/-- as few as can be: told by the numbers alone -/
theorem Canon.unique : ∀ {a b : List Span}, Canon a → Canon b → (∀ x, InS a x ↔ InS b x) → a = b
  | [], [], _, _, _ => rfl
  | [], s :: b, _, hb, h => absurd ((h s.lo).2 (InS.cons.2 (.inl ⟨Int.le_refl _, hb.1⟩))) InS.nil
  | s :: a, [], ha, _, h => absurd ((h s.lo).1 (InS.cons.2 (.inl ⟨Int.le_refl _, ha.1⟩))) InS.nil
  | s :: a, u :: b, ha, hb, h => by
    have low : ∀ {s : Span} {a : List Span}, Canon (s :: a) → ∀ x, InS (s :: a) x → s.lo ≤ x := by
      intro s a ha x hx
      rcases InS.cons.1 hx with h | ⟨v, hv, h1, _⟩
      · exact h.1
      · have := ha.2.1 v hv; have := ha.1; omega
    have l1 := low ha u.lo ((h _).2 (InS.cons.2 (.inl ⟨Int.le_refl _, hb.1⟩)))
    have l2 := low hb s.lo ((h _).1 (InS.cons.2 (.inl ⟨Int.le_refl _, ha.1⟩)))
    have elo : s.lo = u.lo := by omega
    have gap : ∀ {s : Span} {a : List Span}, Canon (s :: a) → ¬ InS (s :: a) (s.hi + 1) := by
      intro s a ha hx
      rcases InS.cons.1 hx with h | ⟨v, hv, h1, _⟩
      · omega
      · have := ha.2.1 v hv; omega
    have ehi : s.hi = u.hi := by
      rcases Int.lt_trichotomy s.hi u.hi with h1 | h1 | h1
      · exact absurd ((h _).2 (InS.cons.2 (.inl ⟨by have := ha.1; omega, by omega⟩))) (gap ha)
      · exact h1
      · exact absurd ((h _).1 (InS.cons.2 (.inl ⟨by have := hb.1; omega, by omega⟩))) (gap hb)
    have e : s = u := by cases s; cases u; simp_all
    subst e
    rw [Canon.unique ha.2.2 hb.2.2 fun x => ?_]
    constructor
    · rintro ⟨v, hv, h1, h2⟩
      rcases InS.cons.1 ((h x).1 (InS.cons.2 (.inr ⟨v, hv, h1, h2⟩))) with h3 | h3
      · have := ha.2.1 v hv; omega
      · exact h3
    · rintro ⟨v, hv, h1, h2⟩
      rcases InS.cons.1 ((h x).2 (InS.cons.2 (.inr ⟨v, hv, h1, h2⟩))) with h3 | h3
      · have := hb.2.1 v hv; omega
      · exact h3
theorem Canon.snoc {a : List Span} {s : Span} (ha : Canon a) (hs : s.lo ≤ s.hi) (h : ∀ u ∈ a, u.hi + 1 < s.lo) : Canon (a ++ [s]) := by
  induction a with
  | nil => exact ⟨hs, by simp, trivial⟩
  | cons u a ih =>
    refine ⟨ha.1, fun v hv => ?_, ih ha.2.2 fun v hv => h v (by simp [hv])⟩
    rcases List.mem_append.1 hv with hv | hv
    · exact ha.2.1 v hv
    · simp at hv; subst hv; exact h u (by simp)
theorem Canon.init {a : List Span} {s : Span} (h : Canon (a ++ [s])) : Canon a ∧ s.lo ≤ s.hi ∧ ∀ u ∈ a, u.hi + 1 < s.lo := by
  induction a with
  | nil => exact ⟨trivial, h.1, by simp⟩
  | cons u a ih =>
    obtain ⟨h1, h2, h3⟩ := ih h.2.2
    refine ⟨⟨h.1, fun v hv => h.2.1 v (by simp [hv]), h1⟩, h2, fun v hv => ?_⟩
    rcases List.mem_cons.1 hv with rfl | hv
    · exact h.2.1 s (by simp)
    · exact h3 v hv
theorem set_last (a : List Span) (s u : Span) : (a ++ [s]).set a.length u = a ++ [u] := by
  rw [List.set_append_right _ _ (Nat.le_refl _)]; simp
/-- one step: what is ahead lies not above the new one -/
theorem jstep_canon {out : List Span} {s : Span} (hc : Canon out) (hs : s.lo ≤ s.hi) (hlo : ∀ u ∈ out, u.lo ≤ s.lo) :
    Canon (jstep out s) ∧ (∀ x, InS (jstep out s) x ↔ InS out x ∨ (s.lo ≤ x ∧ x ≤ s.hi)) ∧ ∀ u ∈ jstep out s, u.lo ≤ s.lo := by
  rcases List.eq_nil_or_concat out with rfl | ⟨a, u, rfl⟩
  · have e : jstep [] s = [s] := by simp [jstep]
    rw [e]
    exact ⟨⟨hs, by simp, trivial⟩, fun x => by simp [InS], by simp⟩
  · simp only [List.concat_eq_append] at *
    obtain ⟨h1, h2, h3⟩ := hc.init
    have hl : (a ++ [u])[(a ++ [u]).length - 1]'(by simp) = u := by simp
    have hu := hlo u (by simp)
    by_cases ht : s.lo ≤ u.hi + 1
    · have e : jstep (a ++ [u]) s = a ++ [jlast u s] := by
        rw [jstep_join (by simp) (by rw [hl]; exact ht), hl, ← set_last a u (jlast u s)]; simp
      rw [e]
      refine ⟨h1.snoc (by simp [jlast]; omega) fun v hv => h3 v hv, fun x => ?_, fun v hv => ?_⟩
      · rw [InS.append, InS.append]
        have e1 : InS [jlast u s] x ↔ (u.lo ≤ x ∧ x ≤ max u.hi s.hi) := by simp [InS, jlast]
        have e2 : InS [u] x ↔ (u.lo ≤ x ∧ x ≤ u.hi) := by simp [InS]
        rw [e1, e2, or_assoc]
        refine or_congr_right ?_
        omega
      · rcases List.mem_append.1 hv with hv | hv
        · exact hlo v (by simp [hv])
        · simp at hv; subst hv; exact hu
    · have e : jstep (a ++ [u]) s = (a ++ [u]) ++ [s] := jstep_new fun h => by rw [hl]; exact ht
      rw [e]
      refine ⟨hc.snoc hs fun v hv => ?_, fun x => ?_, fun v hv => ?_⟩
      · rcases List.mem_append.1 hv with hv | hv
        · have := h3 v hv; omega
        · simp at hv; subst hv; omega
      · rw [InS.append (l := a ++ [u])]
        have e1 : InS [s] x ↔ (s.lo ≤ x ∧ x ≤ s.hi) := by simp [InS]
        rw [e1]
      · rcases List.mem_append.1 hv with hv | hv
        · exact hlo v hv
        · simp at hv; subst hv; omega
/-- the spans joined: as few as can be, of the same numbers -/
theorem joinL_canon (l : List Span) (hs : l.Pairwise fun a b => a.lo ≤ b.lo) (hv : ∀ s ∈ l, s.lo ≤ s.hi) : Canon (joinL l) ∧ ∀ x, InS (joinL l) x ↔ InS l x := by
  have key : ∀ (l : List Span) (out : List Span), Canon out → (l.Pairwise fun a b => a.lo ≤ b.lo) → (∀ s ∈ l, s.lo ≤ s.hi) → (∀ u ∈ out, ∀ s ∈ l, u.lo ≤ s.lo) →
      Canon (l.foldl jstep out) ∧ ∀ x, InS (l.foldl jstep out) x ↔ InS out x ∨ InS l x := by
    intro l
    induction l with
    | nil => intro out hc _ _ _; exact ⟨hc, fun x => by simp [InS]⟩
    | cons s l ih =>
      intro out hc hp hv hlo
      rw [List.pairwise_cons] at hp
      obtain ⟨h1, h2, h3⟩ := jstep_canon hc (hv s (by simp)) fun u hu => hlo u hu s (by simp)
      obtain ⟨h4, h5⟩ := ih (jstep out s) h1 hp.2 (fun u hu => hv u (by simp [hu])) fun u hu v hv' => Int.le_trans (h3 u hu) (hp.1 v hv')
      refine ⟨h4, fun x => ?_⟩
      rw [List.foldl_cons, h5, h2, InS.cons, or_assoc]
  obtain ⟨h1, h2⟩ := key l [] trivial hs hv (by simp)
  exact ⟨h1, fun x => by rw [joinL, h2]; simp [InS.nil]⟩
end W7
