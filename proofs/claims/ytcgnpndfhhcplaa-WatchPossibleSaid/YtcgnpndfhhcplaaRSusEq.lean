/-
  Plain: the specification's suspects are package watch's. No program.
-/
import Derived.Test.YtcgnpndfhhcplaaRSusp
import Derived.Test.YtcgnpndfhhcplaaSusp
namespace Go.Proofs.Ytcgnpndfhhcplaa
open Go.RowKit W7
theorem any_iff (q : Quantity) (l : List Reading) (m : Nat) : ∀ k, anyAt q l m k = true ↔ ∃ s, s < k ∧ hitB q l m s = true
  | 0 => by simp [anyAt]
  | k + 1 => by
    unfold anyAt
    by_cases h : hitB q l m k = true
    · rw [if_pos h]; exact ⟨fun _ => ⟨k, by omega, h⟩, fun _ => rfl⟩
    · rw [if_neg h, any_iff q l m k]
      constructor
      · rintro ⟨s, h1, h2⟩; exact ⟨s, by omega, h2⟩
      · rintro ⟨s, h1, h2⟩
        rcases Nat.lt_or_ge s k with h3 | h3
        · exact ⟨s, h3, h2⟩
        · obtain rfl : s = k := by omega
          exact absurd h2 h
theorem sure_bit (q : Quantity) (l : List Reading) (m i : Nat) (hi : i < 8) : ∀ k, (sureAt q l m k).testBit i = true ↔ ∀ s, s < k → hitB q l m s = true → s.testBit i = true
  | 0 => by
    have : ∀ j, j < 8 → (255 : Nat).testBit j = true := by decide
    simp only [sureAt, this i hi, true_iff]
    intro s hs; omega
  | k + 1 => by
    have ih := sure_bit q l m i hi k
    unfold sureAt
    by_cases h : hitB q l m k = true
    · rw [if_pos h, Nat.testBit_and, Bool.and_eq_true, ih]
      constructor
      · rintro ⟨h1, h2⟩ s hs hh
        rcases Nat.lt_or_ge s k with h3 | h3
        · exact h1 s h3 hh
        · obtain rfl : s = k := by omega
          exact h2
      · intro h1
        exact ⟨fun s hs hh => h1 s (by omega) hh, h1 k (by omega) h⟩
    · rw [if_neg h, ih]
      constructor
      · intro h1 s hs hh
        rcases Nat.lt_or_ge s k with h3 | h3
        · exact h1 s h3 hh
        · obtain rfl : s = k := by omega
          exact absurd hh h
      · intro h1 s hs hh; exact h1 s (by omega) hh
theorem per_bit (q : Quantity) (l : List Reading) (m i : Nat) : ∀ k, (perAt q l m k).testBit i = true ↔ ∃ s, s < k ∧ hitB q l m s = true ∧ s.testBit i = true
  | 0 => by simp [perAt]
  | k + 1 => by
    have ih := per_bit q l m i k
    unfold perAt
    by_cases h : hitB q l m k = true
    · rw [if_pos h, Nat.testBit_or, Bool.or_eq_true, ih]
      constructor
      · rintro (⟨s, h1, h2⟩ | h1)
        · exact ⟨s, by omega, h2⟩
        · exact ⟨k, by omega, h, h1⟩
      · rintro ⟨s, h1, h2, h3⟩
        rcases Nat.lt_or_ge s k with h4 | h4
        · exact .inl ⟨s, h4, h2, h3⟩
        · obtain rfl : s = k := by omega
          exact .inr h3
    · rw [if_neg h, ih]
      constructor
      · rintro ⟨s, h1, h2⟩; exact ⟨s, by omega, h2⟩
      · rintro ⟨s, h1, h2, h3⟩
        rcases Nat.lt_or_ge s k with h4 | h4
        · exact ⟨s, h4, h2, h3⟩
        · obtain rfl : s = k := by omega
          exact absurd h2 h
theorem hit_iff {q : Quantity} {l : List Reading} (hg : Good q l) (m s : Nat) : hitB q l m s = true ↔ bitsF q.gs.length s ∈ subsN m q.gs.length 0 [] ∧ fitsB q l (bitsF q.gs.length s) = true := by
  unfold hitB fitsB
  rw [Bool.and_eq_true, decide_eq_true_eq, decide_eq_true_eq, decide_eq_true_eq, subsN_iff, coreS_eq hg, core_agree hg (by simp)]
  exact ⟨fun ⟨h1, h2⟩ => ⟨⟨bitsF_sub _ _, h1⟩, h2⟩, fun ⟨h1, h2⟩ => ⟨h1.2, h2⟩⟩
theorem hit_ex {q : Quantity} {l : List Reading} (hg : Good q l) (m : Nat) (Q : List Int → Prop) : (∃ s, s < 2 ^ q.gs.length ∧ hitB q l m s = true ∧ Q (bitsF q.gs.length s)) ↔ ∃ F ∈ (subsN m q.gs.length 0 []).filter (fitsB q l), Q F := by
  constructor
  · rintro ⟨s, _, h1, h2⟩
    obtain ⟨h3, h4⟩ := (hit_iff hg m s).1 h1
    exact ⟨_, List.mem_filter.2 ⟨h3, h4⟩, h2⟩
  · rintro ⟨F, hF, hQ⟩
    obtain ⟨h1, h2⟩ := List.mem_filter.1 hF
    obtain ⟨s, hs, rfl⟩ := bitsF_of (subsN_iff.1 h1).1
    exact ⟨s, hs, (hit_iff hg m s).2 ⟨h1, h2⟩, hQ⟩
theorem bitsF_mem {n s g : Nat} (hg : g < n) : (g : Int) ∈ bitsF n s ↔ s.testBit g = true := by
  unfold bitsF
  rw [List.mem_filter]
  constructor
  · rintro ⟨_, h⟩; simpa using h
  · intro h; exact ⟨nums_mem.2 ⟨g, rfl, by omega, by omega⟩, by simpa using h⟩
theorem bits_sel {n x : Nat} {p : Nat → Bool} (hn : n ≤ 8) (h1 : ∀ g, g < n → x.testBit g = p g) (h2 : ∀ g, n ≤ g → g < 8 → x.testBit g = false) : bitsF 8 x = selN n p := by
  have key1 : ∀ k, k ≤ n → bitsF k x = selN k p := by
    intro k
    induction k with
    | zero => intro _; rfl
    | succ k ih => intro hk; rw [bitsF_snoc, selN_succ, ih (by omega), h1 k (by omega)]
  have key2 : ∀ d, n + d ≤ 8 → bitsF (n + d) x = selN n p := by
    intro d
    induction d with
    | zero => intro _; exact key1 n (Nat.le_refl _)
    | succ d ih => intro hd; rw [← Nat.add_assoc, bitsF_snoc, ih (by omega), h2 (n + d) (by omega) (by omega)]; simp
  have := key2 (8 - n) (by omega)
  rwa [show n + (8 - n) = 8 by omega] at this
theorem rs_eq {q : Quantity} {l : List Reading} (hg : Good q l) : ∀ k m, rsGo q l k m = susGo q l k m
  | 0, _ => rfl
  | k + 1, m => by
    have hgl := hg.gl
    unfold rsGo susGo
    have hnd : ∀ F ∈ (subsN m q.gs.length 0 []).filter (fitsB q l), F.Nodup := fun F hF =>
      (nums_nodup 0 q.gs.length).sublist (subsN_iff.1 (List.mem_filter.1 hF).1).1
    have hany : anyAt q l m (2 ^ q.gs.length) = true ↔ ∃ F ∈ (subsN m q.gs.length 0 []).filter (fitsB q l), True := by
      rw [any_iff, ← hit_ex hg m (fun _ => True)]
      simp
    by_cases hw : waysN q l (subsN m q.gs.length 0 []) = 0
    · rw [if_pos hw, if_neg, rs_eq hg k (m + 1)]
      intro h
      obtain ⟨F, hF, _⟩ := hany.1 h
      have := List.length_pos_of_mem hF
      unfold waysN at hw; omega
    · rw [if_neg hw, if_pos (hany.2 (by
        unfold waysN at hw
        obtain ⟨F, hF⟩ := List.exists_mem_of_length_pos (show 0 < ((subsN m q.gs.length 0 []).filter (fitsB q l)).length by omega)
        exact ⟨F, hF, trivial⟩))]
      have hex : ∃ F ∈ (subsN m q.gs.length 0 []).filter (fitsB q l), True := by
        unfold waysN at hw
        obtain ⟨F, hF⟩ := List.exists_mem_of_length_pos (show 0 < ((subsN m q.gs.length 0 []).filter (fitsB q l)).length by omega)
        exact ⟨F, hF, trivial⟩
      obtain ⟨s0, hs0, hh0, _⟩ := (hit_ex hg m (fun _ => True)).2 hex
      have hhigh : ∀ s g, s < 2 ^ q.gs.length → q.gs.length ≤ g → s.testBit g = false := fun s g hs hg' =>
        Nat.testBit_lt_two_pow (Nat.lt_of_lt_of_le hs (Nat.pow_le_pow_right (by decide) hg'))
      refine Prod.ext ?_ ?_
      · refine bits_sel hgl (fun g hgn => ?_) (fun g hgn hg8 => ?_)
        · have hsum := (sum_all (g : Int) _ hnd).1
          rw [Bool.eq_iff_iff, sure_bit q l m g (by omega)]
          simp only [beq_iff_eq]
          show _ ↔ ((((subsN m q.gs.length 0 []).filter (fitsB q l)).map (fun F => F.count (g : Int))).sum = ((subsN m q.gs.length 0 []).filter (fitsB q l)).length)
          rw [hsum]
          constructor
          · intro h F hF
            obtain ⟨h1, h2⟩ := List.mem_filter.1 hF
            obtain ⟨s, hs, rfl⟩ := bitsF_of (subsN_iff.1 h1).1
            exact (bitsF_mem hgn).2 (h s hs ((hit_iff hg m s).2 ⟨h1, h2⟩))
          · intro h s hs hh
            obtain ⟨h1, h2⟩ := (hit_iff hg m s).1 hh
            exact (bitsF_mem hgn).1 (h _ (List.mem_filter.2 ⟨h1, h2⟩))
        · cases hb : (sureAt q l m (2 ^ q.gs.length)).testBit g
          · rfl
          · have := (sure_bit q l m g hg8 _).1 hb s0 hs0 hh0
            rw [hhigh s0 g hs0 hgn] at this; cases this
      · refine bits_sel hgl (fun g hgn => ?_) (fun g hgn hg8 => ?_)
        · have hsum := (sum_all (g : Int) _ hnd).2.2
          rw [Bool.eq_iff_iff, per_bit q l m g]
          simp only [decide_eq_true_eq]
          show _ ↔ (0 < (((subsN m q.gs.length 0 []).filter (fitsB q l)).map (fun F => F.count (g : Int))).sum)
          rw [hsum, ← hit_ex hg m (fun F => (g : Int) ∈ F)]
          constructor
          · rintro ⟨s, h1, h2, h3⟩; exact ⟨s, h1, h2, (bitsF_mem hgn).2 h3⟩
          · rintro ⟨s, h1, h2, h3⟩; exact ⟨s, h1, h2, (bitsF_mem hgn).1 h3⟩
        · cases hb : (perAt q l m (2 ^ q.gs.length)).testBit g
          · rfl
          · obtain ⟨s, h1, _, h3⟩ := (per_bit q l m g _).1 hb
            rw [hhigh s g h1 hgn] at h3; cases h3
theorem rsus_eq (q : Quantity) (l : List Reading) : (if checkedE q l = 0 then rsGo q l (q.bad.toNat + 1) 0 else ([], [])) = susL q l := by
  unfold susL
  split
  · rename_i h; exact rs_eq (good_of h).1 _ _
  · rfl
end Go.Proofs.Ytcgnpndfhhcplaa
