/-
  Plain: what may be at a time, worked out. No program.
-/
import Derived.Test.YtcgnpndfhhcplaaGreatDoorPoss
namespace Go.Proofs.YtcgnpndfhhcplaaGreatDoor
open Go.RowKit W7
/-- the least value at a time, worked out -/
def loX (r f : Int) (l : List K) (t : Int) : Int := l.tail.foldl (fun x a => max x (a.lo - dn r f a.t t)) ((l.headD default).lo - dn r f (l.headD default).t t)
def hiX (r f : Int) (l : List K) (t : Int) : Int := l.tail.foldl (fun x a => min x (a.hi + dn r f t a.t)) ((l.headD default).hi + dn r f t (l.headD default).t)
theorem foldl_top (g : K → Int) : ∀ (l : List K) (x : Int), (l.foldl (fun x a => max x (g a)) x = x ∨ ∃ a ∈ l, l.foldl (fun x a => max x (g a)) x = g a) ∧ x ≤ l.foldl (fun x a => max x (g a)) x ∧ ∀ a ∈ l, g a ≤ l.foldl (fun x a => max x (g a)) x
  | [], x => ⟨.inl rfl, Int.le_refl _, by simp⟩
  | b :: l, x => by
    obtain ⟨h1, h2, h3⟩ := foldl_top g l (max x (g b))
    simp only [List.foldl_cons]
    refine ⟨?_, by omega, fun a ha => ?_⟩
    · rcases h1 with h1 | ⟨a, ha, h1⟩
      · rw [h1]
        rcases Int.le_total x (g b) with h | h
        · exact .inr ⟨b, by simp, by omega⟩
        · exact .inl (by omega)
      · exact .inr ⟨a, by simp [ha], h1⟩
    · rcases List.mem_cons.1 ha with rfl | ha
      · omega
      · exact h3 a ha
theorem foldl_bot (g : K → Int) : ∀ (l : List K) (x : Int), (l.foldl (fun x a => min x (g a)) x = x ∨ ∃ a ∈ l, l.foldl (fun x a => min x (g a)) x = g a) ∧ l.foldl (fun x a => min x (g a)) x ≤ x ∧ ∀ a ∈ l, l.foldl (fun x a => min x (g a)) x ≤ g a
  | [], x => ⟨.inl rfl, Int.le_refl _, by simp⟩
  | b :: l, x => by
    obtain ⟨h1, h2, h3⟩ := foldl_bot g l (min x (g b))
    simp only [List.foldl_cons]
    refine ⟨?_, by omega, fun a ha => ?_⟩
    · rcases h1 with h1 | ⟨a, ha, h1⟩
      · rw [h1]
        rcases Int.le_total x (g b) with h | h
        · exact .inl (by omega)
        · exact .inr ⟨b, by simp, by omega⟩
      · exact .inr ⟨a, by simp [ha], h1⟩
    · rcases List.mem_cons.1 ha with rfl | ha
      · omega
      · exact h3 a ha
theorem loX_is {r f : Int} {l : List K} {t : Int} (h : l ≠ []) : IsLo r f l t (loX r f l t) := by
  cases l with
  | nil => exact absurd rfl h
  | cons b l =>
    obtain ⟨h1, h2, h3⟩ := foldl_top (fun a => a.lo - dn r f a.t t) l (b.lo - dn r f b.t t)
    refine ⟨?_, fun a ha => ?_⟩
    · rcases h1 with h1 | ⟨a, ha, h1⟩
      · exact ⟨b, by simp, h1⟩
      · exact ⟨a, by simp [ha], h1⟩
    · rcases List.mem_cons.1 ha with rfl | ha
      · exact h2
      · exact h3 a ha
theorem hiX_is {r f : Int} {l : List K} {t : Int} (h : l ≠ []) : IsHi r f l t (hiX r f l t) := by
  cases l with
  | nil => exact absurd rfl h
  | cons b l =>
    obtain ⟨h1, h2, h3⟩ := foldl_bot (fun a => a.hi + dn r f t a.t) l (b.hi + dn r f t b.t)
    refine ⟨?_, fun a ha => ?_⟩
    · rcases h1 with h1 | ⟨a, ha, h1⟩
      · exact ⟨b, by simp, h1⟩
      · exact ⟨a, by simp [ha], h1⟩
    · rcases List.mem_cons.1 ha with rfl | ha
      · exact h2
      · exact h3 a ha
instance (r f : Int) (l : List K) : Decidable (Agree r f l) := by unfold Agree; infer_instance
def moreT (t : Int) : List K := [⟨t, -4000000000, 4000000000⟩]
def spX (q : Quantity) (l : List Reading) (t : Int) (F : List Int) : Option Span :=
  if Agree q.rise q.fall (allK q l F (moreT t)) then some ⟨loX q.rise q.fall (allK q l F (moreT t)) t, hiX q.rise q.fall (allK q l F (moreT t)) t⟩ else none
/-- one span more, in the order of the least values -/
def insLo (s : Span) : List Span → List Span
  | [] => [s]
  | u :: l => if s.lo ≤ u.lo then s :: u :: l else u :: insLo s l
def sortLo (l : List Span) : List Span := l.foldr insLo []
theorem insLo_mem (s : Span) (l : List Span) (x : Span) : x ∈ insLo s l ↔ x = s ∨ x ∈ l := by
  induction l with
  | nil => simp [insLo]
  | cons u l ih =>
    unfold insLo
    split
    · simp
    · rw [List.mem_cons, ih, List.mem_cons]
      constructor
      · rintro (h | h | h)
        · exact .inr (.inl h)
        · exact .inl h
        · exact .inr (.inr h)
      · rintro (h | h | h)
        · exact .inr (.inl h)
        · exact .inl h
        · exact .inr (.inr h)
theorem insLo_sorted (s : Span) (l : List Span) (h : l.Pairwise fun a b => a.lo ≤ b.lo) : (insLo s l).Pairwise fun a b => a.lo ≤ b.lo := by
  induction l with
  | nil => simp [insLo]
  | cons u l ih =>
    rw [List.pairwise_cons] at h
    unfold insLo
    split
    · rename_i hs
      refine List.pairwise_cons.2 ⟨fun x hx => ?_, List.pairwise_cons.2 h⟩
      rcases List.mem_cons.1 hx with rfl | hx
      · exact hs
      · exact Int.le_trans hs (h.1 x hx)
    · rename_i hs
      refine List.pairwise_cons.2 ⟨fun x hx => ?_, ih h.2⟩
      rcases (insLo_mem s l x).1 hx with rfl | hx
      · omega
      · exact h.1 x hx
theorem sortLo_mem (l : List Span) (x : Span) : x ∈ sortLo l ↔ x ∈ l := by
  induction l with
  | nil => simp [sortLo]
  | cons u l ih => unfold sortLo at ih ⊢; rw [List.foldr_cons, insLo_mem, ih, List.mem_cons]
theorem sortLo_sorted (l : List Span) : (sortLo l).Pairwise fun a b => a.lo ≤ b.lo := by
  induction l with
  | nil => simp [sortLo]
  | cons u l ih => unfold sortLo at ih ⊢; rw [List.foldr_cons]; exact insLo_sorted u _ ih
def possX (q : Quantity) (l : List Reading) (t : Int) (many : Nat) : List Span := joinL (sortLo ((subsN many q.gs.length 0 []).filterMap (spX q l t)))
theorem spX_some {q : Quantity} {l : List Reading} {t : Int} {F : List Int} {s : Span} : spX q l t F = some s ↔ SOk q l t F s := by
  have hne : allK q l F (moreT t) ≠ [] := by simp [allK]
  unfold spX SOk
  show (if Agree q.rise q.fall (allK q l F (moreT t)) then _ else _) = _ ↔ Agree q.rise q.fall (allK q l F (moreT t)) ∧ IsLo q.rise q.fall (allK q l F (moreT t)) t s.lo ∧ IsHi q.rise q.fall (allK q l F (moreT t)) t s.hi
  constructor
  · intro h
    split at h
    · rename_i ha
      cases h
      exact ⟨ha, loX_is hne, hiX_is hne⟩
    · cases h
  · rintro ⟨ha, h1, h2⟩
    have e1 := h1.unique _ _ (loX_is hne)
    have e2 := h2.unique _ _ (hiX_is hne)
    rw [if_pos ha, ← e1, ← e2]
theorem possX_is {q : Quantity} {l : List Reading} {t : Int} {many : Nat} (hr : 0 ≤ q.rise) (hf : 0 ≤ q.fall) : PossV q l t many (possX q l t many) := by
  obtain ⟨h1, h2⟩ := joinL_canon (sortLo ((subsN many q.gs.length 0 []).filterMap (spX q l t))) (sortLo_sorted _) fun s hs => by
    rw [sortLo_mem, List.mem_filterMap] at hs
    obtain ⟨F, _, h⟩ := hs
    exact (spX_some.1 h).le hr hf
  refine ⟨h1, fun x => (h2 x).trans ⟨?_, ?_⟩⟩
  · rintro ⟨s, hs, hx⟩
    rw [sortLo_mem, List.mem_filterMap] at hs
    obtain ⟨F, hF, h⟩ := hs
    exact ⟨F, hF, s, spX_some.1 h, hx⟩
  · rintro ⟨F, hF, s, h, hx⟩
    exact ⟨s, by rw [sortLo_mem, List.mem_filterMap]; exact ⟨F, hF, spX_some.2 h⟩, hx⟩
theorem PossV.unique {q : Quantity} {l : List Reading} {t : Int} {many : Nat} {a b : List Span} (ha : PossV q l t many a) (hb : PossV q l t many b) : a = b :=
  Canon.unique ha.1 hb.1 fun x => (ha.2 x).trans (hb.2 x).symm
end Go.Proofs.YtcgnpndfhhcplaaGreatDoor
