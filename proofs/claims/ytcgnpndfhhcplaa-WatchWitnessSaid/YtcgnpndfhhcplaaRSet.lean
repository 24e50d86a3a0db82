/-
  Plain: sets of gauges that are numbers, bit by bit; what may be at a time, as the specification joins it. No program.
-/
import Derived.Test.YtcgnpndfhhcplaaShr
import Derived.Test.YtcgnpndfhhcplaaRJoin
namespace Go.Proofs.Ytcgnpndfhhcplaa
open Go.RowKit W7
/-- the gauges of a set that is a number -/
def bitsF (n s : Nat) : List Int := (nums 0 n).filter (fun g => s.testBit g.toNat)
theorem bitsF_sub (n s : Nat) : (bitsF n s).Sublist (nums 0 n) := List.filter_sublist
theorem bitsF_any {n s : Nat} {g : Int} (h : 0 ≤ g ∧ g < (n : Int)) : (bitsF n s).any (fun y => g == y) = s.testBit g.toNat := by
  cases hb : s.testBit g.toNat
  · rw [List.any_eq_false]
    intro y hy
    have := (List.mem_filter.1 hy).2
    intro e
    simp only [beq_iff_eq] at e
    subst e
    rw [hb] at this; cases this
  · rw [List.any_eq_true]
    exact ⟨g, List.mem_filter.2 ⟨nums_mem.2 ⟨g.toNat, by omega, by omega, by omega⟩, hb⟩, by simp⟩
theorem bits_of : ∀ (k a : Nat) (F : List Int), F.Sublist (nums a k) → ∃ s, s < 2 ^ k ∧ F = (nums a k).filter (fun g => s.testBit (g.toNat - a))
  | 0, a, F, h => by
    unfold nums at h ⊢
    rw [List.sublist_nil] at h
    subst h
    exact ⟨0, by simp, rfl⟩
  | k + 1, a, F, h => by
    unfold nums at h ⊢
    have key : ∀ (s c : Nat), c < 2 → (nums (a + 1) k).filter (fun g => (2 * s + c).testBit (g.toNat - a)) = (nums (a + 1) k).filter (fun g => s.testBit (g.toNat - (a + 1))) := by
      intro s c hc
      apply List.filter_congr
      intro g hg
      obtain ⟨j, rfl, h1, _⟩ := nums_mem.1 hg
      have e : (j : Int).toNat - a = ((j : Int).toNat - (a + 1)) + 1 := by simp; omega
      rw [e, Nat.testBit_succ]
      congr 1
      omega
    cases h with
    | cons _ h =>
      obtain ⟨s, hs, rfl⟩ := bits_of k (a + 1) F h
      refine ⟨2 * s + 0, by rw [Nat.pow_succ]; omega, ?_⟩
      rw [List.filter_cons, if_neg (by simp), key s 0 (by omega)]
    | @cons_cons F' _ _ h =>
      obtain ⟨s, hs, rfl⟩ := bits_of k (a + 1) F' h
      refine ⟨2 * s + 1, by rw [Nat.pow_succ]; omega, ?_⟩
      rw [List.filter_cons, if_pos (by simp), key s 1 (by omega)]
theorem bitsF_of {n : Nat} {F : List Int} (h : F.Sublist (nums 0 n)) : ∃ s, s < 2 ^ n ∧ bitsF n s = F := by
  obtain ⟨s, hs, e⟩ := bits_of n 0 F h
  exact ⟨s, hs, by rw [e]; rfl⟩
theorem sub_to {α : Type} {L : List α} : ∀ (d : Nat) {F : List α}, F.Sublist L → F.length + d ≤ L.length → ∃ F', F.Sublist F' ∧ F'.Sublist L ∧ F'.length = F.length + d
  | 0, F, h, _ => ⟨F, List.Sublist.refl _, h, rfl⟩
  | d + 1, F, h, hl => by
    obtain ⟨F1, h1, h2, h3⟩ := sub_to d h (by omega)
    obtain ⟨F2, k1, k2, k3⟩ := sub_more h2 (by omega)
    exact ⟨F2, h1.trans k1, k2, by omega⟩
/-- one set of those that may have failed, in numbers -/
theorem maybe_bits {q : Quantity} {l : List Reading} {t x : Int} {many : Nat} (hm : many ≤ q.gs.length) :
    MayBe q l t many x ↔ ∃ s, s < 2 ^ q.gs.length ∧ (bitsF q.gs.length s).length ≤ many ∧ ∃ sp, SOkC q l t (bitsF q.gs.length s) sp ∧ sp.lo ≤ x ∧ x ≤ sp.hi := by
  constructor
  · rintro ⟨F, hF, sp, h1, h2⟩
    obtain ⟨k1, k2⟩ := subsN_iff.1 hF
    obtain ⟨s, hs, rfl⟩ := bitsF_of k1
    exact ⟨s, hs, by omega, sp, h1, h2⟩
  · rintro ⟨s, hs, hl, sp, h1, h2, h3⟩
    obtain ⟨F', e1, e2, e3⟩ := sub_to (many - (bitsF q.gs.length s).length) (bitsF_sub q.gs.length s) (by rw [nums_len]; omega)
    obtain ⟨s', hs', h4, h5⟩ := sokC_wid (q' := q) (l' := l) (F' := F') rfl rfl (fun b hb => ⟨b, by
      rcases List.mem_cons.1 hb with rfl | hb
      · simp [coreK]
      · obtain ⟨r, hr, rfl⟩ := List.mem_map.1 hb
        rw [List.mem_filter] at hr
        refine List.mem_cons.2 (.inr (List.mem_map.2 ⟨r, List.mem_filter.2 ⟨hr.1, ?_⟩, rfl⟩))
        have h5 := hr.2
        simp only [Bool.not_eq_true', List.any_eq_false] at h5 ⊢
        exact fun y hy => h5 y (e1.subset hy), rfl, Int.le_refl _, Int.le_refl _⟩) h1
    exact ⟨F', subsN_iff.2 ⟨e2, by omega⟩, s', hs', by omega, by omega⟩
/-- what is known, the set a number -/
def coreS (q : Quantity) (l : List Reading) (s : Nat) : List K := ⟨0, q.lo, q.hi⟩ :: (l.filter (fun r => !(s.testBit r.g.toNat))).map (spR q)
theorem coreS_eq {q : Quantity} {l : List Reading} (hg : Good q l) (s : Nat) : coreS q l s = coreK q l (bitsF q.gs.length s) := by
  unfold coreS coreK
  congr 2
  apply List.filter_congr
  intro r hr
  have := hg.r r hr
  rw [bitsF_any ⟨by omega, by omega⟩]
def rpStep (q : Quantity) (l : List Reading) (t : Int) (many : Nat) (sp : List Span) (s : Nat) : List Span :=
  if (bitsF q.gs.length s).length ≤ many ∧ Agree q.rise q.fall (coreS q l s) then jnL sp ⟨loX q.rise q.fall (coreS q l s) t, hiX q.rise q.fall (coreS q l s) t⟩ else sp
def rpAt (q : Quantity) (l : List Reading) (t : Int) (many k : Nat) : List Span := (List.range k).foldl (rpStep q l t many) []
theorem rpAt_succ (q : Quantity) (l : List Reading) (t : Int) (many k : Nat) : rpAt q l t many (k + 1) = rpStep q l t many (rpAt q l t many k) k := by
  unfold rpAt; rw [List.range_succ, List.foldl_append]; rfl
theorem SOkC.le {q : Quantity} {l : List Reading} {t : Int} {F : List Int} {s : Span} (hr : 0 ≤ q.rise) (hf : 0 ≤ q.fall) (h : SOkC q l t F s) : s.lo ≤ s.hi := by
  obtain ⟨hag, ⟨⟨a, ha, e1⟩, _⟩, ⟨b, hb, e2⟩, _⟩ := h
  have h1 := hag a ha b hb
  have h2 := dn_tri q.rise q.fall a.t t b.t hr hf
  omega
theorem rpAt_law {q : Quantity} {l : List Reading} (t : Int) (many : Nat) (hg : Good q l) : ∀ k, Canon (rpAt q l t many k) ∧ ∀ x, InS (rpAt q l t many k) x ↔ ∃ s, s < k ∧ (bitsF q.gs.length s).length ≤ many ∧ ∃ sp, SOkC q l t (bitsF q.gs.length s) sp ∧ sp.lo ≤ x ∧ x ≤ sp.hi
  | 0 => ⟨trivial, fun x => by simp [rpAt, InS]⟩
  | k + 1 => by
    obtain ⟨h1, h2⟩ := rpAt_law t many hg k
    rw [rpAt_succ]
    unfold rpStep
    rw [coreS_eq hg]
    have hne : coreK q l (bitsF q.gs.length k) ≠ [] := by simp [coreK]
    split
    · rename_i hc
      have hok : SOkC q l t (bitsF q.gs.length k) ⟨loX q.rise q.fall (coreK q l (bitsF q.gs.length k)) t, hiX q.rise q.fall (coreK q l (bitsF q.gs.length k)) t⟩ := ⟨hc.2, loX_is hne, hiX_is hne⟩
      obtain ⟨j1, j2⟩ := jnL_canon h1 (hok.le hg.rise.1 hg.fall.1)
      refine ⟨j1, fun x => (j2 x).trans ?_⟩
      rw [h2 x]
      constructor
      · rintro (⟨s, hs, h⟩ | h)
        · exact ⟨s, by omega, h⟩
        · exact ⟨k, by omega, hc.1, _, hok, h⟩
      · rintro ⟨s, hs, hl, sp, hsp, hx⟩
        rcases Nat.lt_or_ge s k with hlt | hge
        · exact .inl ⟨s, hlt, hl, sp, hsp, hx⟩
        · obtain rfl : s = k := by omega
          have e1 := hsp.2.1.unique _ _ hok.2.1
          have e2 := hsp.2.2.unique _ _ hok.2.2
          simp only at e1 e2
          exact .inr (by simp only; omega)
    · rename_i hc
      refine ⟨h1, fun x => (h2 x).trans ?_⟩
      constructor
      · rintro ⟨s, hs, h⟩; exact ⟨s, by omega, h⟩
      · rintro ⟨s, hs, hl, sp, hsp, hx⟩
        rcases Nat.lt_or_ge s k with hlt | hge
        · exact ⟨s, hlt, hl, sp, hsp, hx⟩
        · obtain rfl : s = k := by omega
          exact absurd ⟨hl, hsp.1⟩ hc
/-- THE SPECIFICATION JOINS THE SAME SPANS. -/
theorem rp_eq {q : Quantity} {l : List Reading} {t : Int} {many : Nat} {sp : List Span} (hg : Good q l) (ht : 0 ≤ t ∧ t ≤ 100000) (hm : many ≤ q.gs.length) (h : PossV q l t many sp) : rpAt q l t many (2 ^ q.gs.length) = sp := by
  obtain ⟨h1, h2⟩ := rpAt_law t many hg (2 ^ q.gs.length)
  exact Canon.unique h1 h.1 fun x => (h2 x).trans ((maybe_bits hm).symm.trans (maybe_iff hg ht h x).symm)
end Go.Proofs.Ytcgnpndfhhcplaa
