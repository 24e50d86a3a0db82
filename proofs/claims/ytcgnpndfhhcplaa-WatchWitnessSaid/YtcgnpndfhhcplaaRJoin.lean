/-
  Plain: a span joined to spans, as the specification does it. No program.
-/
import Derived.Test.YtcgnpndfhhcplaaJoin
namespace W7
def jnStep (st : List Span × Span × Bool) (u : Span) : List Span × Span × Bool :=
  if u.hi + 1 < st.2.1.lo then (st.1 ++ [u], st.2.1, st.2.2)
  else if st.2.1.hi + 1 < u.lo then ((if st.2.2 then st.1 else st.1 ++ [st.2.1]) ++ [u], st.2.1, true)
  else (st.1, ⟨min st.2.1.lo u.lo, max st.2.1.hi u.hi⟩, st.2.2)
def jnAt (l : List Span) (x : Span) (k : Nat) : List Span × Span × Bool := (l.take k).foldl jnStep ([], x, false)
def jnEnd (st : List Span × Span × Bool) : List Span := if st.2.2 then st.1 else st.1 ++ [st.2.1]
/-- spans with one more -/
def jnL (l : List Span) (x : Span) : List Span := jnEnd (jnAt l x l.length)
theorem jnAt_succ (l : List Span) (x : Span) (k : Nat) (h : k < l.length) : jnAt l x (k + 1) = jnStep (jnAt l x k) l[k] := by
  unfold jnAt; rw [List.take_succ_eq_append_getElem h, List.foldl_append]; rfl
theorem jnStep_len (st : List Span × Span × Bool) (u : Span) : (jnStep st u).1.length ≤ st.1.length + 2 := by
  unfold jnStep
  split
  · simp
  · split
    · split <;> simp
    · simp
theorem jn_key : ∀ (l out : List Span) (x : Span) (put : Bool), Canon l → Canon out → x.lo ≤ x.hi →
    (put = false → (∀ v ∈ out, v.hi + 1 < x.lo) ∧ ∀ v ∈ out, ∀ u ∈ l, v.hi + 1 < u.lo) → (put = true → (∀ v ∈ out, ∀ u ∈ l, v.hi + 1 < u.lo) ∧ ∀ u ∈ l, x.hi + 1 < u.lo) →
    Canon (jnEnd (l.foldl jnStep (out, x, put))) ∧ ∀ y, InS (jnEnd (l.foldl jnStep (out, x, put))) y ↔ (InS out y ∨ (put = false ∧ x.lo ≤ y ∧ y ≤ x.hi)) ∨ InS l y
  | [], out, x, put, _, ho, hx, h0, h1 => by
    simp only [List.foldl_nil]
    unfold jnEnd
    cases put
    · simp only [Bool.false_eq_true, if_false]
      refine ⟨ho.snoc hx (h0 rfl).1, fun y => ?_⟩
      rw [InS.append]
      have : InS [x] y ↔ (x.lo ≤ y ∧ y ≤ x.hi) := by simp [InS]
      rw [this]
      simp [InS]
    · simp only [if_true]
      exact ⟨ho, fun y => by simp [InS]⟩
  | u :: l, out, x, put, hl, ho, hx, h0, h1 => by
    rw [List.foldl_cons]
    have hu : u.lo ≤ u.hi := hl.1
    have hul : ∀ v ∈ l, u.hi + 1 < v.lo := hl.2.1
    have e1 : ∀ y, InS [u] y ↔ (u.lo ≤ y ∧ y ≤ u.hi) := fun y => by simp [InS]
    have e2 : ∀ y, InS [x] y ↔ (x.lo ≤ y ∧ y ≤ x.hi) := fun y => by simp [InS]
    have hout : ∀ v ∈ out, ∀ w ∈ u :: l, v.hi + 1 < w.lo := by
      cases put
      · exact (h0 rfl).2
      · exact (h1 rfl).1
    have key2 : ∀ v ∈ out ++ [u], ∀ w ∈ l, v.hi + 1 < w.lo := by
      intro v hv w hw
      rcases List.mem_append.1 hv with hv | hv
      · exact hout v hv w (by simp [hw])
      · simp at hv; subst hv; exact hul w hw
    by_cases c1 : u.hi + 1 < x.lo
    · have hp : put = false := by
        cases put
        · rfl
        · have := (h1 rfl).2 u (by simp); omega
      subst hp
      have e : jnStep (out, x, false) u = (out ++ [u], x, false) := by simp [jnStep, c1]
      rw [e]
      obtain ⟨r1, r2⟩ := jn_key l (out ++ [u]) x false hl.2.2 (ho.snoc hu fun v hv => hout v hv u (by simp)) hx (fun _ => ⟨fun v hv => by
        rcases List.mem_append.1 hv with hv | hv
        · exact (h0 rfl).1 v hv
        · simp at hv; subst hv; exact c1, key2⟩) (fun h => by cases h)
      refine ⟨r1, fun y => ?_⟩
      rw [r2, InS.append, e1, InS.cons]
      constructor
      · rintro (((h | h) | h) | h)
        · exact .inl (.inl h)
        · exact .inr (.inl h)
        · exact .inl (.inr h)
        · exact .inr (.inr h)
      · rintro ((h | h) | (h | h))
        · exact .inl (.inl (.inl h))
        · exact .inl (.inr h)
        · exact .inl (.inl (.inr h))
        · exact .inr h
    · by_cases c2 : x.hi + 1 < u.lo
      · cases put
        · have e : jnStep (out, x, false) u = (out ++ [x] ++ [u], x, true) := by simp [jnStep, c1, c2]
          rw [e]
          have ho2 : Canon (out ++ [x]) := ho.snoc hx (h0 rfl).1
          have hx2 : ∀ v ∈ out ++ [x], v.hi + 1 < u.lo := fun v hv => by
            rcases List.mem_append.1 hv with hv | hv
            · exact hout v hv u (by simp)
            · simp at hv; subst hv; exact c2
          obtain ⟨r1, r2⟩ := jn_key l (out ++ [x] ++ [u]) x true hl.2.2 (ho2.snoc hu hx2) hx (fun h => by cases h) (fun _ => ⟨fun v hv w hw => by
            have := hul w hw
            rcases List.mem_append.1 hv with hv | hv
            · have := hx2 v hv; omega
            · simp at hv; subst hv; exact hul w hw, fun w hw => by have := hul w hw; omega⟩)
          refine ⟨r1, fun y => ?_⟩
          rw [r2, InS.append, InS.append, e1, e2, InS.cons]
          simp only [Bool.true_eq_false, false_and, or_false, true_and]
          constructor
          · rintro (((h | h) | h) | h)
            · exact .inl (.inl h)
            · exact .inl (.inr h)
            · exact .inr (.inl h)
            · exact .inr (.inr h)
          · rintro ((h | h) | (h | h))
            · exact .inl (.inl (.inl h))
            · exact .inl (.inl (.inr h))
            · exact .inl (.inr h)
            · exact .inr h
        · have e : jnStep (out, x, true) u = (out ++ [u], x, true) := by simp [jnStep, c1, c2]
          rw [e]
          obtain ⟨r1, r2⟩ := jn_key l (out ++ [u]) x true hl.2.2 (ho.snoc hu fun v hv => hout v hv u (by simp)) hx (fun h => by cases h) (fun _ => ⟨key2, fun w hw => (h1 rfl).2 w (by simp [hw])⟩)
          refine ⟨r1, fun y => ?_⟩
          rw [r2, InS.append, e1, InS.cons]
          simp only [Bool.true_eq_false, false_and, or_false]
          rw [or_assoc]
      · have hp : put = false := by
          cases put
          · rfl
          · have := (h1 rfl).2 u (by simp); omega
        subst hp
        have e : jnStep (out, x, false) u = (out, ⟨min x.lo u.lo, max x.hi u.hi⟩, false) := by simp [jnStep, c1, c2]
        rw [e]
        obtain ⟨r1, r2⟩ := jn_key l out ⟨min x.lo u.lo, max x.hi u.hi⟩ false hl.2.2 ho (by simp only; omega) (fun _ => ⟨fun v hv => by
          have := (h0 rfl).1 v hv
          have := hout v hv u (by simp)
          simp only; omega, fun v hv w hw => hout v hv w (by simp [hw])⟩) (fun h => by cases h)
        refine ⟨r1, fun y => ?_⟩
        rw [r2, InS.cons]
        simp only [true_and]
        have : (min x.lo u.lo ≤ y ∧ y ≤ max x.hi u.hi) ↔ (x.lo ≤ y ∧ y ≤ x.hi) ∨ (u.lo ≤ y ∧ y ≤ u.hi) := by omega
        rw [this]
        constructor
        · rintro ((h | (h | h)) | h)
          · exact .inl (.inl h)
          · exact .inl (.inr h)
          · exact .inr (.inl h)
          · exact .inr (.inr h)
        · rintro ((h | h) | (h | h))
          · exact .inl (.inl h)
          · exact .inl (.inr (.inl h))
          · exact .inl (.inr (.inr h))
          · exact .inr h
/-- joined: as few as can be, of the numbers of both -/
theorem jnL_canon {l : List Span} {x : Span} (hl : Canon l) (hx : x.lo ≤ x.hi) : Canon (jnL l x) ∧ ∀ y, InS (jnL l x) y ↔ InS l y ∨ (x.lo ≤ y ∧ y ≤ x.hi) := by
  obtain ⟨h1, h2⟩ := jn_key l [] x false hl trivial hx (fun _ => ⟨by simp, by simp⟩) (fun h => by cases h)
  unfold jnL jnAt
  rw [List.take_length]
  refine ⟨h1, fun y => (h2 y).trans ?_⟩
  simp [InS.nil]
  exact or_comm
end W7
