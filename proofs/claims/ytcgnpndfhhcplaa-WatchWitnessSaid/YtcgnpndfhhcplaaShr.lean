/-
  Plain: what may be grows with fewer readings, more failed gauges, worse gauges. No program.
-/
import Derived.Test.YtcgnpndfhhcplaaPossX
import Derived.Test.YtcgnpndfhhcplaaGood
namespace Go.Proofs.Ytcgnpndfhhcplaa
open Go.RowKit W7
/-- each span of the second list has one in the first that lies inside it -/
def Wid (L L' : List K) : Prop := ∀ b ∈ L', ∃ a ∈ L, a.t = b.t ∧ b.lo ≤ a.lo ∧ a.hi ≤ b.hi
theorem Wid.agree {r f : Int} {L L' : List K} (h : Wid L L') (ha : Agree r f L) : Agree r f L' := by
  intro b hb c hc
  obtain ⟨a, h1, h2, h3, _⟩ := h b hb
  obtain ⟨d, k1, k2, _, k4⟩ := h c hc
  have := ha a h1 d k1
  rw [h2, k2] at this
  omega
theorem Wid.lo {r f t x y : Int} {L L' : List K} (h : Wid L L') (hx : IsLo r f L t x) (hy : IsLo r f L' t y) : y ≤ x := by
  obtain ⟨⟨b, hb, rfl⟩, _⟩ := hy
  obtain ⟨a, h1, h2, h3, _⟩ := h b hb
  have := hx.2 a h1
  rw [h2] at this
  omega
theorem Wid.hi {r f t x y : Int} {L L' : List K} (h : Wid L L') (hx : IsHi r f L t x) (hy : IsHi r f L' t y) : x ≤ y := by
  obtain ⟨⟨b, hb, rfl⟩, _⟩ := hy
  obtain ⟨a, h1, h2, _, h4⟩ := h b hb
  have := hx.2 a h1
  rw [h2] at this
  omega
/-- what a reading of a gauge that has not failed says -/
def spR (q : Quantity) (r : Reading) : K := ⟨r.t, r.v - devi (q.gs.getD r.g.toNat default) r.t, r.v + devi (q.gs.getD r.g.toNat default) r.t⟩
/-- what is known if the gauges of a set have failed -/
def coreK (q : Quantity) (l : List Reading) (F : List Int) : List K := ⟨0, q.lo, q.hi⟩ :: (l.filter (fun r => !(F.any (fun y => r.g == y)))).map (spR q)
theorem rk_core {q : Quantity} {F : List Int} {r : Reading} (h : F.any (fun y => r.g == y) = false) : rk q F r = spR q r := by unfold rk spR; rw [if_neg (by rw [h]; decide)]
theorem rk_any {q : Quantity} {F : List Int} {r : Reading} (h : F.any (fun y => r.g == y) = true) : rk q F r = ⟨r.t, -4000000000, 4000000000⟩ := by unfold rk; rw [if_pos h]
def AnyT (y : K) : Prop := 0 ≤ y.t ∧ y.t ≤ 100000 ∧ y.lo = -4000000000 ∧ y.hi = 4000000000
theorem core_sub {q : Quantity} {l : List Reading} {F : List Int} {more : List K} : ∀ a ∈ coreK q l F, a ∈ allK q l F more := by
  intro a ha
  unfold coreK at ha
  unfold allK
  rcases List.mem_cons.1 ha with rfl | ha
  · simp
  · obtain ⟨r, hr, rfl⟩ := List.mem_map.1 ha
    rw [List.mem_filter] at hr
    refine List.mem_cons.2 (.inr (List.mem_append.2 (.inr (List.mem_map.2 ⟨r, hr.1, rk_core (by simpa using hr.2)⟩))))
theorem core_or {q : Quantity} {l : List Reading} {F : List Int} {more : List K} (hg : Good q l) (hm : ∀ y ∈ more, AnyT y) : ∀ a ∈ allK q l F more, a ∈ coreK q l F ∨ AnyT a := by
  intro a ha
  unfold allK at ha
  rcases List.mem_cons.1 ha with rfl | ha
  · exact .inl (by simp [coreK])
  · rcases List.mem_append.1 ha with ha | ha
    · exact .inr (hm a ha)
    · obtain ⟨r, hr, rfl⟩ := List.mem_map.1 ha
      cases h : F.any (fun y => r.g == y)
      · rw [rk_core h]
        exact .inl (List.mem_cons.2 (.inr (List.mem_map.2 ⟨r, List.mem_filter.2 ⟨hr, by rw [h]; rfl⟩, rfl⟩)))
      · rw [rk_any h]
        have := hg.r r hr
        exact .inr ⟨by simp only; omega, by simp only; omega, rfl, rfl⟩
theorem core_t {q : Quantity} {l : List Reading} {F : List Int} (hg : Good q l) : ∀ a ∈ coreK q l F, 0 ≤ a.t ∧ a.t ≤ 100000 := by
  intro a ha
  rcases List.mem_cons.1 ha with rfl | ha
  · simp
  · obtain ⟨r, hr, rfl⟩ := List.mem_map.1 ha
    have := hg.r r (List.mem_filter.1 hr).1
    unfold spR; simp only; omega
theorem core_agree {q : Quantity} {l : List Reading} {F : List Int} {more : List K} (hg : Good q l) (hm : ∀ y ∈ more, AnyT y) : Agree q.rise q.fall (allK q l F more) ↔ Agree q.rise q.fall (coreK q l F) := by
  constructor
  · intro h a ha b hb
    exact h a (core_sub a ha) b (core_sub b hb)
  · intro h a ha b hb
    have h0 : (⟨0, q.lo, q.hi⟩ : K) ∈ coreK q l F := by simp [coreK]
    have hlo := hg.lo
    have hhi := hg.hi
    rcases core_or hg hm a ha with h1 | h1 <;> rcases core_or hg hm b hb with h2 | h2
    · exact h a h1 b h2
    · have e1 := h a h1 _ h0
      have ta := core_t hg a h1
      have d1 := dn_bnd (s := a.t) (t := 0) hg.rise hg.fall ta ⟨by omega, by omega⟩
      have d2 := dn_bnd (s := a.t) (t := b.t) hg.rise hg.fall ta ⟨h2.1, h2.2.1⟩
      have := h2.2.2.2
      simp only at e1
      omega
    · have e1 := h _ h0 b h2
      have tb := core_t hg b h2
      have d1 := dn_bnd (s := 0) (t := b.t) hg.rise hg.fall ⟨by omega, by omega⟩ tb
      have d2 := dn_bnd (s := a.t) (t := b.t) hg.rise hg.fall ⟨h1.1, h1.2.1⟩ tb
      have := h1.2.2.1
      simp only at e1
      omega
    · have d2 := dn_bnd (s := a.t) (t := b.t) hg.rise hg.fall ⟨h1.1, h1.2.1⟩ ⟨h2.1, h2.2.1⟩
      have := h1.2.2.1
      have := h2.2.2.2
      omega
theorem core_lo {q : Quantity} {l : List Reading} {F : List Int} {more : List K} {t x : Int} (hg : Good q l) (ht : 0 ≤ t ∧ t ≤ 100000) (hm : ∀ y ∈ more, AnyT y) : IsLo q.rise q.fall (allK q l F more) t x ↔ IsLo q.rise q.fall (coreK q l F) t x := by
  have h0 : (⟨0, q.lo, q.hi⟩ : K) ∈ coreK q l F := by simp [coreK]
  have hlo := hg.lo
  have d0 := dn_bnd (s := 0) (t := t) hg.rise hg.fall ⟨by omega, by omega⟩ ht
  constructor
  · rintro ⟨⟨a, ha, e⟩, h⟩
    refine ⟨?_, fun b hb => h b (core_sub b hb)⟩
    rcases core_or hg hm a ha with h1 | h1
    · exact ⟨a, h1, e⟩
    · have e1 := h _ (core_sub _ h0)
      have d2 := dn_bnd (s := a.t) (t := t) hg.rise hg.fall ⟨h1.1, h1.2.1⟩ ht
      have := h1.2.2.1
      simp only at e1
      omega
  · rintro ⟨⟨a, ha, e⟩, h⟩
    refine ⟨⟨a, core_sub a ha, e⟩, fun b hb => ?_⟩
    rcases core_or hg hm b hb with h1 | h1
    · exact h b h1
    · have e1 := h _ h0
      have d2 := dn_bnd (s := b.t) (t := t) hg.rise hg.fall ⟨h1.1, h1.2.1⟩ ht
      have := h1.2.2.1
      simp only at e1
      omega
theorem core_hi {q : Quantity} {l : List Reading} {F : List Int} {more : List K} {t x : Int} (hg : Good q l) (ht : 0 ≤ t ∧ t ≤ 100000) (hm : ∀ y ∈ more, AnyT y) : IsHi q.rise q.fall (allK q l F more) t x ↔ IsHi q.rise q.fall (coreK q l F) t x := by
  have h0 : (⟨0, q.lo, q.hi⟩ : K) ∈ coreK q l F := by simp [coreK]
  have hhi := hg.hi
  have d0 := dn_bnd (s := t) (t := 0) hg.rise hg.fall ht ⟨by omega, by omega⟩
  constructor
  · rintro ⟨⟨a, ha, e⟩, h⟩
    refine ⟨?_, fun b hb => h b (core_sub b hb)⟩
    rcases core_or hg hm a ha with h1 | h1
    · exact ⟨a, h1, e⟩
    · have e1 := h _ (core_sub _ h0)
      have d2 := dn_bnd (s := t) (t := a.t) hg.rise hg.fall ht ⟨h1.1, h1.2.1⟩
      have := h1.2.2.2
      simp only at e1
      omega
  · rintro ⟨⟨a, ha, e⟩, h⟩
    refine ⟨⟨a, core_sub a ha, e⟩, fun b hb => ?_⟩
    rcases core_or hg hm b hb with h1 | h1
    · exact h b h1
    · have e1 := h _ h0
      have d2 := dn_bnd (s := t) (t := b.t) hg.rise hg.fall ht ⟨h1.1, h1.2.1⟩
      have := h1.2.2.2
      simp only at e1
      omega
/-- what may be at a time if a set has failed, by what is known alone -/
def SOkC (q : Quantity) (l : List Reading) (t : Int) (F : List Int) (s : Span) : Prop :=
  Agree q.rise q.fall (coreK q l F) ∧ IsLo q.rise q.fall (coreK q l F) t s.lo ∧ IsHi q.rise q.fall (coreK q l F) t s.hi
theorem sok_core {q : Quantity} {l : List Reading} {t : Int} {F : List Int} {s : Span} (hg : Good q l) (ht : 0 ≤ t ∧ t ≤ 100000) : SOk q l t F s ↔ SOkC q l t F s := by
  have hm : ∀ y ∈ ([⟨t, -4000000000, 4000000000⟩] : List K), AnyT y := fun y hy => by simp at hy; subst hy; exact ⟨ht.1, ht.2, rfl, rfl⟩
  unfold SOk SOkC
  rw [core_agree hg hm, core_lo hg ht hm, core_hi hg ht hm]
/-- a value that may be at a time -/
def MayBe (q : Quantity) (l : List Reading) (t : Int) (many : Nat) (x : Int) : Prop := ∃ F ∈ subsN many q.gs.length 0 [], ∃ s, SOkC q l t F s ∧ s.lo ≤ x ∧ x ≤ s.hi
theorem maybe_iff {q : Quantity} {l : List Reading} {t : Int} {many : Nat} {sp : List Span} (hg : Good q l) (ht : 0 ≤ t ∧ t ≤ 100000) (h : PossV q l t many sp) (x : Int) : InS sp x ↔ MayBe q l t many x := by
  rw [h.2 x]
  unfold MayBe
  constructor
  · rintro ⟨F, hF, s, h1, h2⟩; exact ⟨F, hF, s, (sok_core hg ht).1 h1, h2⟩
  · rintro ⟨F, hF, s, h1, h2⟩; exact ⟨F, hF, s, (sok_core hg ht).2 h1, h2⟩
theorem sokC_wid {q q' : Quantity} {l l' : List Reading} {t : Int} {F F' : List Int} {s : Span} (hr : q'.rise = q.rise) (hf : q'.fall = q.fall) (hw : Wid (coreK q l F) (coreK q' l' F')) (h : SOkC q l t F s) : ∃ s', SOkC q' l' t F' s' ∧ s'.lo ≤ s.lo ∧ s.hi ≤ s'.hi := by
  obtain ⟨h1, h2, h3⟩ := h
  have hne : coreK q' l' F' ≠ [] := by simp [coreK]
  unfold SOkC
  rw [hr, hf]
  exact ⟨⟨loX q.rise q.fall (coreK q' l' F') t, hiX q.rise q.fall (coreK q' l' F') t⟩, ⟨hw.agree h1, loX_is hne, hiX_is hne⟩, hw.lo h2 (loX_is hne), hw.hi h3 (hiX_is hne)⟩
/-- A READING LESS. -/
theorem maybe_less {q : Quantity} {l l' : List Reading} {t : Int} {many : Nat} {x : Int} (hl : ∀ r ∈ l', r ∈ l) (h : MayBe q l t many x) : MayBe q l' t many x := by
  obtain ⟨F, hF, s, hs, h1, h2⟩ := h
  obtain ⟨s', hs', h3, h4⟩ := sokC_wid (q' := q) (l' := l') (F' := F) rfl rfl (fun b hb => ⟨b, by
    rcases List.mem_cons.1 hb with rfl | hb
    · simp [coreK]
    · obtain ⟨r, hr, rfl⟩ := List.mem_map.1 hb
      rw [List.mem_filter] at hr
      exact List.mem_cons.2 (.inr (List.mem_map.2 ⟨r, List.mem_filter.2 ⟨hl r hr.1, hr.2⟩, rfl⟩)), rfl, Int.le_refl _, Int.le_refl _⟩) hs
  exact ⟨F, hF, s', hs', by omega, by omega⟩
/-- A GAUGE THAT IS MORE ACCURATE. -/
theorem maybe_fine {q q' : Quantity} {l : List Reading} {t : Int} {many : Nat} {x : Int} (hr : q.rise = q'.rise) (hf : q.fall = q'.fall) (hlo : q.lo = q'.lo) (hhi : q.hi = q'.hi) (hn : q.gs.length = q'.gs.length)
    (hd : ∀ r ∈ l, devi (q'.gs.getD r.g.toNat default) r.t ≤ devi (q.gs.getD r.g.toNat default) r.t) (h : MayBe q' l t many x) : MayBe q l t many x := by
  obtain ⟨F, hF, s, hs, h1, h2⟩ := h
  obtain ⟨s', hs', h3, h4⟩ := sokC_wid (q' := q) (l' := l) (F' := F) hr hf (fun b hb => by
    rcases List.mem_cons.1 hb with rfl | hb
    · exact ⟨⟨0, q'.lo, q'.hi⟩, by simp [coreK], rfl, by simp only; omega, by simp only; omega⟩
    · obtain ⟨r, hr, rfl⟩ := List.mem_map.1 hb
      have := hd r (List.mem_filter.1 hr).1
      exact ⟨spR q' r, List.mem_cons.2 (.inr (List.mem_map.2 ⟨r, hr, rfl⟩)), rfl, by unfold spR; simp only; omega, by unfold spR; simp only; omega⟩) hs
  exact ⟨F, by rw [hn]; exact hF, s', hs', by omega, by omega⟩
/-- the numbers from a on, k of them -/
def nums (a : Nat) : Nat → List Int
  | 0 => []
  | k + 1 => (a : Int) :: nums (a + 1) k
theorem nums_len (a k : Nat) : (nums a k).length = k := by
  induction k generalizing a with
  | zero => rfl
  | succ k ih => simp [nums, ih]
/-- the subsets, by what they are -/
theorem subsN_mem (many : Nat) : ∀ (k a : Nat) (h F : List Int), h.length ≤ many → (F ∈ subsN many k a h ↔ ∃ G, F = h ++ G ∧ G.Sublist (nums a k) ∧ F.length = many)
  | 0, a, h, F, hl => by
    unfold subsN
    split
    · rename_i e
      simp only [List.mem_singleton, nums, List.sublist_nil]
      constructor
      · rintro rfl; exact ⟨[], by simp, rfl, e⟩
      · rintro ⟨G, h1, rfl, _⟩; simpa using h1
    · rename_i e
      simp only [List.not_mem_nil, nums, List.sublist_nil, false_iff]
      rintro ⟨G, h1, rfl, h2⟩
      rw [h1, List.append_nil] at h2; exact e h2
  | k + 1, a, h, F, hl => by
    unfold subsN
    split
    · rename_i e
      simp only [List.mem_singleton]
      constructor
      · rintro rfl; exact ⟨[], by simp, List.nil_sublist _, e⟩
      · rintro ⟨G, rfl, _, h2⟩
        rw [List.length_append] at h2
        have : G = [] := List.eq_nil_of_length_eq_zero (by omega)
        subst this; simp
    · rename_i e
      rw [List.mem_append, subsN_mem many k (a + 1) (h ++ [(a : Int)]) F (by simp; omega), subsN_mem many k (a + 1) h F hl]
      constructor
      · rintro (⟨G, h1, h2, h3⟩ | ⟨G, h1, h2, h3⟩)
        · exact ⟨(a : Int) :: G, by rw [h1]; simp, h2.cons_cons _, h3⟩
        · exact ⟨G, h1, h2.cons _, h3⟩
      · rintro ⟨G, h1, h2, h3⟩
        unfold nums at h2
        cases h2 with
        | cons _ h2 => exact .inr ⟨G, h1, h2, h3⟩
        | cons_cons _ h2 => exact .inl ⟨_, by rw [h1]; simp, h2, h3⟩
theorem subsN_iff {many n : Nat} {F : List Int} : F ∈ subsN many n 0 [] ↔ F.Sublist (nums 0 n) ∧ F.length = many := by
  rw [subsN_mem many n 0 [] F (by simp)]
  constructor
  · rintro ⟨G, h1, h2, h3⟩; simp at h1; subst h1; exact ⟨h2, h3⟩
  · rintro ⟨h1, h2⟩; exact ⟨F, by simp, h1, h2⟩
/-- one more -/
theorem sub_more {α : Type} {F L : List α} (h : F.Sublist L) (hl : F.length < L.length) : ∃ F', F.Sublist F' ∧ F'.Sublist L ∧ F'.length = F.length + 1 := by
  induction h with
  | slnil => simp at hl
  | @cons F L a h ih =>
    by_cases hc : F.length < L.length
    · obtain ⟨F', h1, h2, h3⟩ := ih hc
      exact ⟨F', h1, h2.cons a, h3⟩
    · have : F = L := h.eq_of_length (by have := h.length_le; omega)
      subst this
      exact ⟨a :: F, List.sublist_cons_self _ _, List.Sublist.refl _, rfl⟩
  | @cons_cons F L a h ih =>
    obtain ⟨F', h1, h2, h3⟩ := ih (by simpa using hl)
    exact ⟨a :: F', h1.cons_cons a, h2.cons_cons a, by simp [h3]⟩
/-- A GAUGE MORE THAT MAY HAVE FAILED. -/
theorem maybe_more {q q' : Quantity} {l : List Reading} {t : Int} {many : Nat} {x : Int} (hr : q'.rise = q.rise) (hf : q'.fall = q.fall) (hlo : q'.lo = q.lo) (hhi : q'.hi = q.hi) (hgs : q'.gs = q.gs) (hm : many < q.gs.length) (h : MayBe q l t many x) : MayBe q' l t (many + 1) x := by
  obtain ⟨F, hF, s, hs, h1, h2⟩ := h
  obtain ⟨k1, k2⟩ := subsN_iff.1 hF
  obtain ⟨F', e1, e2, e3⟩ := sub_more k1 (by rw [nums_len]; omega)
  obtain ⟨s', hs', h3, h4⟩ := sokC_wid (q' := q') (l' := l) (F' := F') hr hf (fun b hb => ⟨b, by
    rcases List.mem_cons.1 hb with rfl | hb
    · rw [hlo, hhi]; simp [coreK]
    · obtain ⟨r, hr, rfl⟩ := List.mem_map.1 hb
      rw [List.mem_filter] at hr
      refine List.mem_cons.2 (.inr (List.mem_map.2 ⟨r, List.mem_filter.2 ⟨hr.1, ?_⟩, by unfold spR; rw [hgs]⟩))
      have h5 := hr.2
      simp only [Bool.not_eq_true', List.any_eq_false] at h5 ⊢
      exact fun y hy => h5 y (e1.subset hy), rfl, Int.le_refl _, Int.le_refl _⟩) hs
  exact ⟨F', subsN_iff.2 ⟨by rw [hgs]; exact e2, by omega⟩, s', hs', by omega, by omega⟩
theorem canon_pair {l : List Span} (h : Canon l) : l.Pairwise fun a b => a.hi + 1 < b.lo := by
  induction l with
  | nil => exact List.Pairwise.nil
  | cons a l ih => exact List.pairwise_cons.2 ⟨h.2.1, ih h.2.2⟩
/-- a span whose numbers all lie in spans, as few as can be, lies in one of them -/
theorem canon_span {b : List Span} {lo hi : Int} (h : Canon b) (hl : lo ≤ hi) (hx : ∀ x, lo ≤ x → x ≤ hi → InS b x) : ∃ u ∈ b, u.lo ≤ lo ∧ hi ≤ u.hi := by
  obtain ⟨u, hu, h1, h2⟩ := hx lo (Int.le_refl _) hl
  refine ⟨u, hu, h1, ?_⟩
  rcases Int.lt_or_le u.hi hi with h3 | h3
  · exfalso
    obtain ⟨v, hv, h4, h5⟩ := hx (u.hi + 1) (by omega) (by omega)
    obtain ⟨i, hi', rfl⟩ := List.mem_iff_getElem.1 hu
    obtain ⟨j, hj', rfl⟩ := List.mem_iff_getElem.1 hv
    have hp := List.pairwise_iff_getElem.1 (canon_pair h)
    rcases Nat.lt_trichotomy i j with hij | hij | hij
    · have := hp i j hi' hj' hij; omega
    · subst hij; omega
    · have := hp j i hj' hi' hij; omega
  · exact h3
def insideB (a b : List Span) : Bool := a.all fun s => b.any fun u => decide (u.lo ≤ s.lo) && decide (s.hi ≤ u.hi)
theorem inside_of {a b : List Span} (ha : Canon a) (hb : Canon b) (h : ∀ x, InS a x → InS b x) : insideB a b = true := by
  unfold insideB
  rw [List.all_eq_true]
  intro s hs
  obtain ⟨u, hu, h1, h2⟩ := canon_span hb (ha.le s hs) fun x h1 h2 => h x ⟨s, hs, h1, h2⟩
  rw [List.any_eq_true]
  exact ⟨u, hu, by simp [h1, h2]⟩
theorem nums_snoc (a k : Nat) : nums a (k + 1) = nums a k ++ [((a + k : Nat) : Int)] := by
  induction k generalizing a with
  | zero => simp [nums]
  | succ k ih =>
    have h1 : nums a (k + 1 + 1) = (a : Int) :: nums (a + 1) (k + 1) := rfl
    have h2 : nums a (k + 1) = (a : Int) :: nums (a + 1) k := rfl
    rw [h1, ih, h2, show a + 1 + k = a + (k + 1) by omega]; rfl
theorem nums_mem {a k : Nat} {g : Int} : g ∈ nums a k ↔ ∃ j : Nat, g = (j : Int) ∧ a ≤ j ∧ j < a + k := by
  induction k generalizing a with
  | zero => simp [nums]
  | succ k ih =>
    unfold nums
    rw [List.mem_cons, ih]
    constructor
    · rintro (rfl | ⟨j, rfl, h1, h2⟩)
      · exact ⟨a, rfl, by omega, by omega⟩
      · exact ⟨j, rfl, by omega, by omega⟩
    · rintro ⟨j, rfl, h1, h2⟩
      rcases Nat.eq_or_lt_of_le h1 with h | h
      · subst h; exact .inl rfl
      · exact .inr ⟨j, rfl, by omega, by omega⟩
theorem nums_nodup (a k : Nat) : (nums a k).Nodup := by
  induction k generalizing a with
  | zero => simp [nums]
  | succ k ih =>
    unfold nums
    rw [List.nodup_cons]
    refine ⟨fun h => ?_, ih _⟩
    obtain ⟨j, h1, h2, _⟩ := nums_mem.1 h
    omega
theorem sum_all (g : Int) : ∀ (L : List (List Int)), (∀ F ∈ L, F.Nodup) → ((L.map (fun F => F.count g)).sum = L.length ↔ ∀ F ∈ L, g ∈ F) ∧ (L.map (fun F => F.count g)).sum ≤ L.length ∧ (0 < (L.map (fun F => F.count g)).sum ↔ ∃ F ∈ L, g ∈ F)
  | [], _ => by simp
  | F :: L, h => by
    obtain ⟨h1, h2, h3⟩ := sum_all g L fun G hG => h G (by simp [hG])
    have hc : F.count g ≤ 1 := List.nodup_iff_count.1 (h F (by simp)) g
    have hm : 0 < F.count g ↔ g ∈ F := List.count_pos_iff
    simp only [List.map_cons, List.sum_cons, List.length_cons, List.mem_cons]
    refine ⟨?_, by omega, ?_⟩
    · constructor
      · rintro e G (rfl | hG)
        · exact hm.1 (by omega)
        · exact h1.1 (by omega) G hG
      · intro hall
        have e1 := hm.2 (hall F (.inl rfl))
        have e2 := h1.2 fun G hG => hall G (.inr hG)
        omega
    · constructor
      · intro hp
        rcases Nat.eq_zero_or_pos (F.count g) with h0 | h0
        · obtain ⟨G, hG, hg⟩ := h3.1 (by omega)
          exact ⟨G, .inr hG, hg⟩
        · exact ⟨F, .inl rfl, hm.1 h0⟩
      · rintro ⟨G, rfl | hG, hg⟩
        · have := hm.2 hg; omega
        · have := h3.2 ⟨G, hG, hg⟩; omega
end Go.Proofs.Ytcgnpndfhhcplaa
