/-
  Plain: the least history explains all readings; a value is possible just if some set explains the readings with it. No program.
-/
import Derived.Test.YtcgnpndfhhcplaaShr
namespace Go.Proofs.Ytcgnpndfhhcplaa
open Go.RowKit W7
theorem lo_tri {r f : Int} {L : List K} (hr : 0 ≤ r) (hf : 0 ≤ f) (hne : L ≠ []) (s t : Int) : loX r f L s - dn r f s t ≤ loX r f L t := by
  obtain ⟨⟨a, ha, e⟩, _⟩ := loX_is (r := r) (f := f) (t := s) hne
  have h2 := (loX_is (r := r) (f := f) (t := t) hne).2 a ha
  have := dn_tri r f a.t s t hr hf
  omega
theorem lo_keeps {r f : Int} {L : List K} (h : Agree r f L) : ∀ a ∈ L, a.lo ≤ loX r f L a.t ∧ loX r f L a.t ≤ a.hi := by
  intro a ha
  have hne : L ≠ [] := List.ne_nil_of_mem ha
  obtain ⟨⟨b, hb, e⟩, h2⟩ := loX_is (r := r) (f := f) (t := a.t) hne
  have h3 := h2 a ha
  rw [dn_self] at h3
  have := h b hb a ha
  omega
/-- points of the least history agree -/
theorem lo_agree {r f : Int} {L P : List K} (hr : 0 ≤ r) (hf : 0 ≤ f) (hne : L ≠ []) (h : ∀ p ∈ P, p.lo ≤ loX r f L p.t ∧ loX r f L p.t ≤ p.hi) : Agree r f P := by
  intro a ha b hb
  have h1 := h a ha
  have h2 := h b hb
  have := lo_tri hr hf hne a.t b.t
  omega
/-- the nodes of a witness: a value at a time -/
def moreX (t x : Int) : List K := [⟨t, x, x⟩, ⟨t, -4000000000, 4000000000⟩]
/-- the value of the least history with a value at a time -/
def witV (q : Quantity) (l : List Reading) (t x : Int) (F : List Int) (s : Int) : Int := loX q.rise q.fall (allK q l F (moreX t x)) s
def WitOk (q : Quantity) (l : List Reading) (t x : Int) (F : List Int) : Prop := Agree q.rise q.fall (allK q l F (moreX t x))
theorem wit_core {q : Quantity} {l : List Reading} {t x : Int} {F : List Int} (hg : Good q l) (ht : 0 ≤ t ∧ t ≤ 100000) :
    WitOk q l t x F ↔ Agree q.rise q.fall (coreK q l F) ∧ loX q.rise q.fall (coreK q l F) t ≤ x ∧ x ≤ hiX q.rise q.fall (coreK q l F) t := by
  have hne : coreK q l F ≠ [] := by simp [coreK]
  have hlo := loX_is (r := q.rise) (f := q.fall) (t := t) hne
  have hhi := hiX_is (r := q.rise) (f := q.fall) (t := t) hne
  have hq0 : (⟨0, q.lo, q.hi⟩ : K) ∈ coreK q l F := by simp [coreK]
  have hql := hg.lo
  have hqh := hg.hi
  unfold WitOk
  constructor
  · intro h
    have hx : (⟨t, x, x⟩ : K) ∈ allK q l F (moreX t x) := by simp [allK, moreX]
    refine ⟨fun a ha b hb => h a (core_sub a ha) b (core_sub b hb), ?_, ?_⟩
    · obtain ⟨⟨a, ha, e⟩, _⟩ := hlo
      have := h a (core_sub a ha) _ hx
      simp only at this
      omega
    · obtain ⟨⟨a, ha, e⟩, _⟩ := hhi
      have := h _ hx a (core_sub a ha)
      simp only at this
      omega
  · rintro ⟨h1, h2, h3⟩
    have hxb : -2000000000 ≤ x ∧ x ≤ 2000000000 := by
      have k1 := hlo.2 _ hq0
      have k2 := hhi.2 _ hq0
      have d1 := dn_bnd (s := 0) (t := t) hg.rise hg.fall ⟨by omega, by omega⟩ ht
      have d2 := dn_bnd (s := t) (t := 0) hg.rise hg.fall ht ⟨by omega, by omega⟩
      simp only at k1 k2
      omega
    have hor : ∀ a ∈ allK q l F (moreX t x), a ∈ coreK q l F ∨ a = ⟨t, x, x⟩ ∨ AnyT a := by
      intro a ha
      unfold allK moreX at ha
      simp only [List.mem_cons, List.mem_append, List.not_mem_nil, or_false] at ha
      rcases ha with rfl | (rfl | rfl) | ha
      · exact .inl hq0
      · exact .inr (.inl rfl)
      · exact .inr (.inr ⟨ht.1, ht.2, rfl, rfl⟩)
      · rcases core_or (F := F) (more := []) hg (by simp) a (by unfold allK; simp only [List.nil_append]; exact List.mem_cons.2 (.inr ha)) with h | h
        · exact .inl h
        · exact .inr (.inr h)
    have hb : ∀ a ∈ coreK q l F, a.lo ≤ 2000000000 ∧ -2000000000 ≤ a.hi := by
      intro a ha
      have ta := core_t hg a ha
      have k1 := h1 a ha _ hq0
      have k2 := h1 _ hq0 a ha
      have d1 := dn_bnd (s := a.t) (t := 0) hg.rise hg.fall ta ⟨by omega, by omega⟩
      have d2 := dn_bnd (s := 0) (t := a.t) hg.rise hg.fall ⟨by omega, by omega⟩ ta
      simp only at k1 k2
      omega
    intro a ha b hb'
    rcases hor a ha with ka | rfl | ka <;> rcases hor b hb' with kb | rfl | kb
    · exact h1 a ka b kb
    · have := hlo.2 a ka; simp only; omega
    · have ba := hb a ka
      have d := dn_bnd (s := a.t) (t := b.t) hg.rise hg.fall (core_t hg a ka) ⟨kb.1, kb.2.1⟩
      have := kb.2.2.2
      omega
    · have := hhi.2 b kb; simp only; omega
    · have := dn_self q.rise q.fall t; simp only; omega
    · have d := dn_bnd (s := t) (t := b.t) hg.rise hg.fall ht ⟨kb.1, kb.2.1⟩
      have := kb.2.2.2
      simp only; omega
    · have bb := hb b kb
      have d := dn_bnd (s := a.t) (t := b.t) hg.rise hg.fall ⟨ka.1, ka.2.1⟩ (core_t hg b kb)
      have := ka.2.2.1
      omega
    · have d := dn_bnd (s := a.t) (t := t) hg.rise hg.fall ⟨ka.1, ka.2.1⟩ ht
      have := ka.2.2.1
      simp only; omega
    · have d := dn_bnd (s := a.t) (t := b.t) hg.rise hg.fall ⟨ka.1, ka.2.1⟩ ⟨kb.1, kb.2.1⟩
      have := ka.2.2.1
      have := kb.2.2.2
      omega
/-- A VALUE IS POSSIBLE JUST IF SOME SET EXPLAINS THE READINGS WITH IT. -/
theorem wit_iff {q : Quantity} {l : List Reading} {t x : Int} {many : Nat} {sp : List Span} (hg : Good q l) (ht : 0 ≤ t ∧ t ≤ 100000) (h : PossV q l t many sp) : InS sp x ↔ ∃ F ∈ subsN many q.gs.length 0 [], WitOk q l t x F := by
  rw [maybe_iff hg ht h]
  unfold MayBe SOkC
  constructor
  · rintro ⟨F, hF, s, ⟨h1, h2, h3⟩, h4, h5⟩
    have hne : coreK q l F ≠ [] := by simp [coreK]
    have e1 := IsLo.unique q.rise q.fall h2 (loX_is hne)
    have e2 := IsHi.unique q.rise q.fall h3 (hiX_is hne)
    exact ⟨F, hF, (wit_core hg ht).2 ⟨h1, by omega, by omega⟩⟩
  · rintro ⟨F, hF, h0⟩
    have hne : coreK q l F ≠ [] := by simp [coreK]
    obtain ⟨h1, h2, h3⟩ := (wit_core hg ht).1 h0
    exact ⟨F, hF, ⟨loX q.rise q.fall (coreK q l F) t, hiX q.rise q.fall (coreK q l F) t⟩, ⟨h1, loX_is hne, hiX_is hne⟩, h2, h3⟩
/-- the points that the specification looks at -/
def ptsX (q : Quantity) (l : List Reading) (t x : Int) (v : List Int) : List K := ⟨0, q.lo, q.hi⟩ :: ⟨t, x, x⟩ :: (l.zip v).map fun p => ⟨p.1.t, p.2, p.2⟩
/-- THE LEAST HISTORY EXPLAINS ALL READINGS. -/
theorem wit_explains {q : Quantity} {l : List Reading} {t x : Int} {F : List Int} (hg : Good q l) (h : WitOk q l t x F) :
    Agree q.rise q.fall (ptsX q l t x (l.map fun r => witV q l t x F r.t)) ∧ ∀ r ∈ l, -4000000000 ≤ witV q l t x F r.t ∧ witV q l t x F r.t ≤ 4000000000 ∧
      (F.any (fun y => r.g == y) = false → r.v - devi (q.gs.getD r.g.toNat default) r.t ≤ witV q l t x F r.t ∧ witV q l t x F r.t ≤ r.v + devi (q.gs.getD r.g.toNat default) r.t) := by
  have hne : allK q l F (moreX t x) ≠ [] := by simp [allK]
  have hk := lo_keeps h
  have hq0 : (⟨0, q.lo, q.hi⟩ : K) ∈ allK q l F (moreX t x) := by simp [allK]
  refine ⟨lo_agree hg.rise.1 hg.fall.1 hne ?_, fun r hr => ?_⟩
  · intro p hp
    unfold ptsX at hp
    simp only [List.mem_cons, List.mem_map] at hp
    rcases hp with rfl | rfl | ⟨⟨r, v⟩, hr, rfl⟩
    · exact hk _ hq0
    · exact hk ⟨t, x, x⟩ (by simp [allK, moreX])
    · have : v = witV q l t x F r.t := by
        rw [List.zip_map_right, List.mem_map] at hr
        obtain ⟨⟨a, b⟩, hab, e⟩ := hr
        simp only [Prod.map_apply, id_eq, Prod.mk.injEq] at e
        have hab' : a = b := by
          obtain ⟨i, hi, e2⟩ := List.mem_iff_getElem.1 hab
          rw [List.getElem_zip] at e2
          cases e2; rfl
        rw [← e.2, ← e.1, hab']
      subst this
      exact ⟨Int.le_refl _, Int.le_refl _⟩
  · have hrr := hg.r r hr
    have hrk : rk q F r ∈ allK q l F (moreX t x) := by
      unfold allK
      exact List.mem_cons.2 (.inr (List.mem_append.2 (.inr (List.mem_map.2 ⟨r, hr, rfl⟩))))
    have k0 := hk _ hq0
    have t1 := lo_tri (f := q.fall) hg.rise.1 hg.fall.1 hne 0 r.t
    have t2 := lo_tri (f := q.fall) hg.rise.1 hg.fall.1 hne r.t 0
    have d1 := dn_bnd (s := 0) (t := r.t) hg.rise hg.fall ⟨by omega, by omega⟩ ⟨hrr.2.2.1, hrr.2.2.2.1⟩
    have d2 := dn_bnd (s := r.t) (t := 0) hg.rise hg.fall ⟨hrr.2.2.1, hrr.2.2.2.1⟩ ⟨by omega, by omega⟩
    have hql := hg.lo
    have hqh := hg.hi
    simp only at k0
    unfold witV
    refine ⟨by omega, by omega, fun hF => ?_⟩
    have := hk _ hrk
    rw [rk_core hF] at this
    unfold spR at this
    simp only at this
    exact this
end Go.Proofs.Ytcgnpndfhhcplaa
