/-
  Plain: a history lies in what is known by gauges that have not failed; how far what may be is from it; suspects. No program.
-/
import Derived.Test.YtcgnpndfhhcplaaShr
import Derived.Test.YtcgnpndfhhcplaaSusp
import Derived.Test.YtcgnpndfhhcplaaMargin
namespace Go.Proofs.Ytcgnpndfhhcplaa
open Go.RowKit W7
/-- the value of a history at a time: behind its end it stays -/
def hvN (X : List Int) (t : Nat) : Int := X.getD (min t (X.length - 1)) 0
def hv (X : List Int) (t : Int) : Int := hvN X t.toNat
structure Walk (q : Quantity) (X : List Int) : Prop where
  ne : 0 < X.length
  lo : q.lo ≤ X.getD 0 0
  hi : X.getD 0 0 ≤ q.hi
  st : ∀ i, i + 1 < X.length → X.getD i 0 - q.fall ≤ X.getD (i + 1) 0 ∧ X.getD (i + 1) 0 ≤ X.getD i 0 + q.rise
theorem hv_step {q : Quantity} {X : List Int} (h : Walk q X) (hr : 0 ≤ q.rise) (hf : 0 ≤ q.fall) (t : Nat) : hvN X t - q.fall ≤ hvN X (t + 1) ∧ hvN X (t + 1) ≤ hvN X t + q.rise := by
  unfold hvN
  by_cases hlt : t + 1 < X.length
  · rw [show min t (X.length - 1) = t by omega, show min (t + 1) (X.length - 1) = t + 1 by omega]
    exact h.st t hlt
  · rw [show min t (X.length - 1) = X.length - 1 by omega, show min (t + 1) (X.length - 1) = X.length - 1 by omega]
    omega
theorem hv_move {q : Quantity} {X : List Int} (h : Walk q X) (hr : 0 ≤ q.rise) (hf : 0 ≤ q.fall) (t : Nat) : ∀ k : Nat, hvN X t - q.fall * (k : Int) ≤ hvN X (t + k) ∧ hvN X (t + k) ≤ hvN X t + q.rise * (k : Int) := by
  intro k
  induction k with
  | zero => simp
  | succ k ih =>
    have := hv_step h hr hf (t + k)
    have e1 : q.fall * ((k + 1 : Nat) : Int) = q.fall * (k : Int) + q.fall := by rw [Int.natCast_add, Int.mul_add]; simp
    have e2 : q.rise * ((k + 1 : Nat) : Int) = q.rise * (k : Int) + q.rise := by rw [Int.natCast_add, Int.mul_add]; simp
    rw [e1, e2, ← Nat.add_assoc]
    omega
theorem hv_dn {q : Quantity} {X : List Int} (h : Walk q X) (hr : 0 ≤ q.rise) (hf : 0 ≤ q.fall) {s t : Int} (hs : 0 ≤ s) (ht : 0 ≤ t) : hv X s - dn q.rise q.fall s t ≤ hv X t := by
  unfold hv dn
  by_cases hst : s ≤ t
  · rw [if_pos hst]
    have := (hv_move h hr hf s.toNat (t - s).toNat).1
    rw [show s.toNat + (t - s).toNat = t.toNat by omega, show (((t - s).toNat : Nat) : Int) = t - s by omega] at this
    exact this
  · rw [if_neg hst]
    have := (hv_move h hr hf t.toNat (s - t).toNat).2
    rw [show t.toNat + (s - t).toNat = s.toNat by omega, show (((s - t).toNat : Nat) : Int) = s - t by omega] at this
    omega
theorem hv_bnd {q : Quantity} {X : List Int} (h : Walk q X) (hr : 0 ≤ q.rise ∧ q.rise ≤ 10000) (hf : 0 ≤ q.fall ∧ q.fall ≤ 10000) (hlo : -1000000000 ≤ q.lo ∧ q.lo ≤ 1000000000) (hhi : -1000000000 ≤ q.hi ∧ q.hi ≤ 1000000000) (t : Int) (ht : 0 ≤ t ∧ t ≤ 100000) : -2000000000 ≤ hv X t ∧ hv X t ≤ 2000000000 := by
  have h1 := hv_dn h hr.1 hf.1 (s := 0) (t := t) (by omega) ht.1
  have h2 := hv_dn h hr.1 hf.1 (s := t) (t := 0) ht.1 (by omega)
  have d1 := dn_bnd (s := 0) (t := t) hr hf ⟨by omega, by omega⟩ ht
  have d2 := dn_bnd (s := t) (t := 0) hr hf ht ⟨by omega, by omega⟩
  have e : hv X 0 = X.getD 0 0 := by unfold hv hvN; simp
  have := h.lo
  have := h.hi
  omega
/-- what a history keeps to -/
def Keeps (X : List Int) (L : List K) : Prop := ∀ a ∈ L, 0 ≤ a.t ∧ a.lo ≤ hv X a.t ∧ hv X a.t ≤ a.hi
theorem Keeps.agree {q : Quantity} {X : List Int} {L : List K} (h : Walk q X) (hr : 0 ≤ q.rise) (hf : 0 ≤ q.fall) (hk : Keeps X L) : Agree q.rise q.fall L := by
  intro a ha b hb
  obtain ⟨h1, h2, _⟩ := hk a ha
  obtain ⟨k1, _, k3⟩ := hk b hb
  have := hv_dn h hr hf h1 k1
  omega
theorem Keeps.lo {q : Quantity} {X : List Int} {L : List K} {t x : Int} (h : Walk q X) (hr : 0 ≤ q.rise) (hf : 0 ≤ q.fall) (ht : 0 ≤ t) (hk : Keeps X L) (hx : IsLo q.rise q.fall L t x) : x ≤ hv X t := by
  obtain ⟨⟨a, ha, rfl⟩, _⟩ := hx
  obtain ⟨h1, h2, _⟩ := hk a ha
  have := hv_dn h hr hf h1 ht
  omega
theorem Keeps.hi {q : Quantity} {X : List Int} {L : List K} {t x : Int} (h : Walk q X) (hr : 0 ≤ q.rise) (hf : 0 ≤ q.fall) (ht : 0 ≤ t) (hk : Keeps X L) (hx : IsHi q.rise q.fall L t x) : hv X t ≤ x := by
  obtain ⟨⟨a, ha, rfl⟩, _⟩ := hx
  obtain ⟨h1, _, h3⟩ := hk a ha
  have := hv_dn h hr hf ht h1
  omega
/-- the gauges that have failed -/
def badF (bs : List Bool) (n : Nat) : List Int := (nums 0 n).filter fun g => bs.getD g.toNat false
theorem badF_sub (bs : List Bool) (n : Nat) : (badF bs n).Sublist (nums 0 n) := List.filter_sublist
theorem badF_len (bs : List Bool) : ∀ n, n ≤ bs.length → (badF bs n).length = (bs.take n).count true := by
  intro n
  induction n with
  | zero => intro _; simp [badF, nums]
  | succ n ih =>
    intro hn
    have e : badF bs (n + 1) = badF bs n ++ [(n : Int)].filter fun g => bs.getD g.toNat false := by
      unfold badF; rw [nums_snoc, List.filter_append]; simp
    rw [e, List.length_append, ih (by omega), List.take_succ_eq_append_getElem (by omega), List.count_append]
    congr 1
    have : bs.getD (n : Int).toNat false = bs[n] := by rw [List.getD_eq_getElem?_getD]; simp [List.getElem?_eq_getElem (show n < bs.length by omega)]
    cases h : bs[n] <;> simp_all
theorem sub_many {α : Type} {F L : List α} (h : F.Sublist L) : ∀ k, F.length + k ≤ L.length → ∃ F', F.Sublist F' ∧ F'.Sublist L ∧ F'.length = F.length + k := by
  intro k
  induction k with
  | zero => intro _; exact ⟨F, List.Sublist.refl _, h, rfl⟩
  | succ k ih =>
    intro hk
    obtain ⟨G, h1, h2, h3⟩ := ih (by omega)
    obtain ⟨G', k1, k2, k3⟩ := sub_more h2 (by omega)
    exact ⟨G', h1.trans k1, k2, by omega⟩
/-- a reading of a history: of gauges that have failed any value -/
def RdOk (q : Quantity) (X : List Int) (bs : List Bool) (r : Reading) : Prop :=
  0 ≤ r.g ∧ r.g < (q.gs.length : Int) ∧ 0 ≤ r.t ∧ r.t ≤ 40 ∧ -1000000000 ≤ r.v ∧ r.v ≤ 1000000000 ∧
    (bs.getD r.g.toNat false = false → hv X r.t - devi (q.gs.getD r.g.toNat default) r.t ≤ r.v ∧ r.v ≤ hv X r.t + devi (q.gs.getD r.g.toNat default) r.t)
theorem rdok_err {q : Quantity} {X : List Int} {bs : List Bool} {r : Reading} (h : RdOk q X bs r) : rErr q r = 0 := by
  obtain ⟨h1, h2, h3, h4, h5, h6, _⟩ := h
  unfold rErr
  rw [if_pos (withinB_true.2 ⟨h1, by omega⟩), if_pos (by rw [Bool.and_eq_true, isTm_true, isVal_true]; omega)]
theorem shown_checked {q : Quantity} {X : List Int} {bs : List Bool} {l : List Reading} (hq : qsErr [q] = 0) (hl : l.length ≤ 64) (h : ∀ r ∈ l, RdOk q X bs r) : checkedE q l = 0 := by
  unfold checkedE
  rw [if_pos hq, if_pos hl]
  refine firstErr_zero.2 fun i hi => ?_
  unfold rErrAt
  rw [getD_mem _ _ hi]
  exact rdok_err (h _ (List.getElem_mem hi))
/-- WHAT A QUANTITY DOES IS POSSIBLE. -/
theorem hist_maybe {q : Quantity} {X : List Int} {bs : List Bool} {l : List Reading} {t : Int} (hg : Good q l) (hw : Walk q X) (hb : 0 ≤ q.bad) (hbl : bs.length = q.gs.length) (hbc : (bs.count true : Int) ≤ q.bad) (hbn : q.bad ≤ q.gs.length)
    (h : ∀ r ∈ l, RdOk q X bs r) (ht : 0 ≤ t) : MayBe q l t q.bad.toNat (hv X t) := by
  have hlen : (badF bs q.gs.length).length = bs.count true := by rw [badF_len bs _ (by omega), ← hbl, List.take_length]
  obtain ⟨F, h1, h2, h3⟩ := sub_many (badF_sub bs q.gs.length) (q.bad.toNat - bs.count true) (by rw [nums_len, hlen]; omega)
  have hk : Keeps X (coreK q l F) := by
    intro a ha
    rcases List.mem_cons.1 ha with rfl | ha
    · have e : hv X 0 = X.getD 0 0 := by unfold hv hvN; simp
      have := hw.lo
      have := hw.hi
      refine ⟨by simp, ?_, ?_⟩ <;> simp only [e] <;> omega
    · obtain ⟨r, hr, rfl⟩ := List.mem_map.1 ha
      rw [List.mem_filter] at hr
      obtain ⟨k1, k2, k3, k4, k5, k6, k7⟩ := h r hr.1
      have hbr : bs.getD r.g.toNat false = false := by
        cases hc : bs.getD r.g.toNat false
        · rfl
        · exfalso
          have hm : r.g ∈ badF bs q.gs.length := List.mem_filter.2 ⟨nums_mem.2 ⟨r.g.toNat, by omega, by omega, by omega⟩, hc⟩
          have h5 := hr.2
          simp only [Bool.not_eq_true', List.any_eq_false] at h5
          exact h5 _ (h1.subset hm) (by simp)
      have := k7 hbr
      unfold spR
      simp only
      omega
  have hne : coreK q l F ≠ [] := by simp [coreK]
  exact ⟨F, subsN_iff.2 ⟨h2, by omega⟩, ⟨loX q.rise q.fall (coreK q l F) t, hiX q.rise q.fall (coreK q l F) t⟩, ⟨hk.agree hw hg.rise.1 hg.fall.1, loX_is hne, hiX_is hne⟩, hk.lo hw hg.rise.1 hg.fall.1 ht (loX_is hne), hk.hi hw hg.rise.1 hg.fall.1 ht (hiX_is hne)⟩
theorem nodup_len : ∀ (l m : List Int), l.Nodup → (∀ x ∈ l, x ∈ m) → l.length ≤ m.length
  | [], m, _, _ => by simp
  | x :: l, m, hn, hs => by
    rw [List.nodup_cons] at hn
    have hx := hs x (by simp)
    have := nodup_len l (m.erase x) hn.2 fun y hy => (List.mem_erase_of_ne (fun e => hn.1 (by rw [e] at hy; exact hy))).2 (hs y (by simp [hy]))
    rw [List.length_erase_of_mem hx] at this
    have := List.length_pos_of_mem hx
    simp only [List.length_cons]; omega
theorem worstL_ge (gs : List Gauge) (u : Int) : ∀ g ∈ gs, devi g u ≤ worstL gs u := by
  have key : ∀ (gs : List Gauge) (a : Int), a ≤ gs.foldl (fun a g => max a (devi g u)) a ∧ ∀ g ∈ gs, devi g u ≤ gs.foldl (fun a g => max a (devi g u)) a := by
    intro gs
    induction gs with
    | nil => intro a; simp
    | cons x gs ih =>
      intro a
      obtain ⟨h1, h2⟩ := ih (max a (devi x u))
      simp only [List.foldl_cons]
      refine ⟨by omega, fun g hg => ?_⟩
      rcases List.mem_cons.1 hg with rfl | hg
      · omega
      · exact h2 g hg
  exact (key gs 0).2
theorem worstL_nonneg (gs : List Gauge) (u : Int) : 0 ≤ worstL gs u := by
  have key : ∀ (gs : List Gauge) (a : Int), a ≤ gs.foldl (fun a g => max a (devi g u)) a := by
    intro gs
    induction gs with
    | nil => intro a; simp
    | cons x gs ih => intro a; have := ih (max a (devi x u)); simp only [List.foldl_cons]; omega
  exact key gs 0
theorem devi_mono {g : Gauge} {s t : Int} (hd : 0 ≤ g.drift) (hst : s ≤ t) : devi g s ≤ devi g t := by
  unfold devi
  have hk : (s - g.since + 999) / 1000 ≤ (t - g.since + 999) / 1000 := Int.ediv_le_ediv (by omega) (by omega)
  have hm := Int.mul_le_mul_of_nonneg_right hk hd
  split <;> split
  · omega
  · have h0 : 0 ≤ (t - g.since + 999) / 1000 := Int.ediv_nonneg (by omega) (by omega)
    have := Int.mul_nonneg h0 hd
    omega
  · omega
  · omega
theorem mul_mono {a b c : Int} (ha : 0 ≤ a) (h : b ≤ c) : a * b ≤ a * c := Int.mul_le_mul_of_nonneg_left h ha
/-- HOW FAR WHAT MAY BE IS FROM WHAT IS. -/
theorem hist_near {q : Quantity} {X : List Int} {bs : List Bool} {l : List Reading} {T p x : Int} (hg : Good q l) (hw : Walk q X) (hb : 0 ≤ q.bad) (hbl : bs.length = q.gs.length) (hbc : (bs.count true : Int) ≤ q.bad) (hn : 2 * q.bad < (q.gs.length : Int)) (hT : 0 ≤ T)
    (hl : ∀ i : Nat, i < q.gs.length → bs.getD i false = false → ∃ r ∈ l, r.g = (i : Int) ∧ 0 ≤ r.t ∧ r.v = hv X r.t ∧ r.t ≤ T ∧ T ≤ r.t + p) (h : MayBe q l T q.bad.toNat x) :
    x ≤ hv X T + (2 * worstL q.gs T + (q.rise + q.fall) * p) ∧ hv X T - (2 * worstL q.gs T + (q.rise + q.fall) * p) ≤ x := by
  obtain ⟨F, hF, s, ⟨_, hlo, hhi⟩, hx1, hx2⟩ := h
  obtain ⟨hF1, hF2⟩ := subsN_iff.1 hF
  have hlen : (badF bs q.gs.length).length = bs.count true := by rw [badF_len bs _ (by omega), ← hbl, List.take_length]
  obtain ⟨g, hgn, hgF⟩ : ∃ g ∈ nums 0 q.gs.length, ¬ g ∈ F ++ badF bs q.gs.length := by
    refine Classical.byContradiction fun hc => ?_
    have := nodup_len (nums 0 q.gs.length) (F ++ badF bs q.gs.length) (nums_nodup 0 _) fun y hy => Classical.byContradiction fun hy2 => hc ⟨y, hy, hy2⟩
    rw [nums_len, List.length_append, hlen] at this
    omega
  obtain ⟨i, rfl, _, hi⟩ := nums_mem.1 hgn
  rw [List.mem_append, not_or] at hgF
  have hbi : bs.getD i false = false := by
    cases hc : bs.getD i false
    · rfl
    · exact absurd (List.mem_filter.2 ⟨hgn, by simpa using hc⟩) hgF.2
  obtain ⟨r, hr, hrg, hr0, hrv, hrT, hrp⟩ := hl i (by omega) hbi
  have hcore : spR q r ∈ coreK q l F := List.mem_cons.2 (.inr (List.mem_map.2 ⟨r, List.mem_filter.2 ⟨hr, by
    simp only [Bool.not_eq_true', List.any_eq_false]
    intro y hy e
    rw [beq_iff_eq] at e
    exact hgF.1 (by rw [← hrg, e]; exact hy)⟩, rfl⟩))
  have h1 := hlo.2 _ hcore
  have h2 := hhi.2 _ hcore
  unfold spR at h1 h2
  simp only at h1 h2
  have hin : i < q.gs.length := by omega
  have hgi : q.gs.getD r.g.toNat default = q.gs[i] := by rw [hrg, Int.toNat_natCast, getD_mem _ _ hin]
  rw [hgi] at h1 h2
  have hd := hg.g q.gs[i] (List.getElem_mem hin)
  have e1 := devi_mono (g := q.gs[i]) hd.2.2.1 hrT
  have e2 := worstL_ge q.gs T q.gs[i] (List.getElem_mem hin)
  have e3 := worstL_nonneg q.gs T
  rw [dn_le _ _ _ _ hrT] at h1
  rw [dn_ge _ _ _ _ hrT] at h2
  have m1 := mul_mono hg.fall.1 (show T - r.t ≤ p by omega)
  have m2 := mul_mono hg.rise.1 (show T - r.t ≤ p by omega)
  have w1 := hv_dn hw hg.rise.1 hg.fall.1 (s := r.t) (t := T) hr0 hT
  have w2 := hv_dn hw hg.rise.1 hg.fall.1 (s := T) (t := r.t) hT hr0
  rw [dn_le _ _ _ _ hrT] at w1
  rw [dn_ge _ _ _ _ hrT] at w2
  have e4 : (q.rise + q.fall) * p = q.rise * p + q.fall * p := Int.add_mul _ _ _
  rw [e4]
  omega
/-- SUSPECTS: at most as many as may have failed are surely suspect, and these are perhaps. -/
theorem selN_mem {n : Nat} {p : Nat → Bool} {x : Int} : x ∈ selN n p ↔ ∃ g : Nat, g < n ∧ p g = true ∧ x = (g : Int) := by
  unfold selN
  simp only [List.mem_map, List.mem_filter, List.mem_range]
  constructor
  · rintro ⟨g, ⟨h1, h2⟩, rfl⟩; exact ⟨g, h1, h2, rfl⟩
  · rintro ⟨g, h1, h2, rfl⟩; exact ⟨g, ⟨h1, h2⟩, rfl⟩
theorem selN_nodup (n : Nat) (p : Nat → Bool) : (selN n p).Nodup := by
  unfold selN
  rw [List.nodup_iff_pairwise_ne, List.pairwise_map]
  have h : ((List.range n).filter p).Nodup := List.nodup_range.sublist List.filter_sublist
  rw [List.nodup_iff_pairwise_ne] at h
  exact h.imp fun hne e => hne (Int.ofNat.inj e)
theorem susGo_sure {q : Quantity} {l : List Reading} : ∀ k m, (susGo q l k m).1.length ≤ m + k - 1 ∧ ∀ x ∈ (susGo q l k m).1, x ∈ (susGo q l k m).2 := by
  intro k
  induction k with
  | zero => intro m; simp [susGo]
  | succ k ih =>
    intro m
    unfold susGo
    split
    · have := ih (m + 1); exact ⟨by omega, this.2⟩
    · rename_i hw
      have hnd : ∀ F ∈ (subsN m q.gs.length 0 []).filter (fitsB q l), F.Nodup := fun F hF => (nums_nodup 0 q.gs.length).sublist (subsN_iff.1 (List.mem_filter.1 hF).1).1
      simp only
      constructor
      · obtain ⟨F, hF⟩ : ∃ F, F ∈ (subsN m q.gs.length 0 []).filter (fitsB q l) := by
          rcases hc : (subsN m q.gs.length 0 []).filter (fitsB q l) with _ | ⟨F, L⟩
          · exact absurd (by unfold waysN; rw [hc]; rfl) hw
          · exact ⟨F, by simp⟩
        have hFm := (subsN_iff.1 (List.mem_filter.1 hF).1).2
        have := nodup_len _ F (selN_nodup q.gs.length (fun g => cntN q l (subsN m q.gs.length 0 []) g == waysN q l (subsN m q.gs.length 0 []))) fun x hx => by
          obtain ⟨g, _, h2, rfl⟩ := selN_mem.1 hx
          exact (sum_all (g : Int) _ hnd).1.1 (by simpa [cntN, waysN] using h2) F hF
        omega
      · intro x hx
        obtain ⟨g, h1, h2, rfl⟩ := selN_mem.1 hx
        refine selN_mem.2 ⟨g, h1, ?_, rfl⟩
        rw [beq_iff_eq] at h2
        simp only [decide_eq_true_eq]
        omega
theorem susL_sure {q : Quantity} {l : List Reading} (hb : 0 ≤ q.bad) : ((susL q l).1.length : Int) ≤ q.bad ∧ ∀ x ∈ (susL q l).1, x ∈ (susL q l).2 := by
  unfold susL
  split
  · have := susGo_sure (q := q) (l := l) (q.bad.toNat + 1) 0
    exact ⟨by omega, this.2⟩
  · simp; omega
theorem susGo_len (q : Quantity) (l : List Reading) : ∀ k m, (susGo q l k m).1.length ≤ q.gs.length ∧ (susGo q l k m).2.length ≤ q.gs.length := by
  intro k
  induction k with
  | zero => intro m; simp [susGo]
  | succ k ih =>
    intro m
    unfold susGo
    split
    · exact ih _
    · exact ⟨selN_len _ _, selN_len _ _⟩
theorem susL_len (q : Quantity) (l : List Reading) : (susL q l).1.length ≤ 1000000 ∧ (susL q l).2.length ≤ 1000000 := by
  unfold susL
  split
  · rename_i h
    have hg := (good_of h).1.gl
    have := susGo_len q l (q.bad.toNat + 1) 0
    omega
  · simp
theorem map_int1 (l : List Int) : l.map (Value.int .i64) = l.flatMap encInt1 := by
  induction l with
  | nil => rfl
  | cons x l ih => simp [encInt1, ih]
end Go.Proofs.Ytcgnpndfhhcplaa
