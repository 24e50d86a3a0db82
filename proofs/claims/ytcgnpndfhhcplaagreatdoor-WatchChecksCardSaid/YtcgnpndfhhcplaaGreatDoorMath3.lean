/-
  Plain laws on nodes that are gathered: those of one time become one, their spans met. No program.
-/
import Derived.Test.YtcgnpndfhhcplaaGreatDoorMath2
namespace W7
open Go
def mlast (a n : K) : K := ⟨a.t, max a.lo n.lo, min a.hi n.hi⟩
/-- one node more, the nodes ahead in the order of time -/
def mstep (out : List K) (n : K) : List K :=
  if h : 0 < out.length then
    (if (out[out.length - 1]'(by omega)).t = n.t then out.set (out.length - 1) (mlast (out[out.length - 1]'(by omega)) n) else out ++ [n])
  else out ++ [n]
def merged (l : List K) : List K := l.foldl mstep []
def mergedAt (l : List K) (k : Nat) : List K := (l.take k).foldl mstep []
theorem mergedAt_succ (l : List K) (k : Nat) (h : k < l.length) : mergedAt l (k + 1) = mstep (mergedAt l k) l[k] := by
  unfold mergedAt; rw [List.take_succ_eq_append_getElem h, List.foldl_append]; rfl
theorem mergedAt_all (l : List K) : mergedAt l l.length = merged l := by simp [mergedAt, merged]
theorem mstep_len (out : List K) (n : K) : (mstep out n).length ≤ out.length + 1 := by
  unfold mstep; split
  · split <;> simp
  · simp
theorem mergedAt_len (l : List K) (k : Nat) (h : k ≤ l.length) : (mergedAt l k).length ≤ k := by
  induction k with
  | zero => simp [mergedAt]
  | succ k ih => rw [mergedAt_succ l k (by omega)]; have := mstep_len (mergedAt l k) l[k]; have := ih (by omega); omega
theorem mstep_same {out : List K} {n : K} (h : 0 < out.length) (ht : (out[out.length - 1]'(by omega)).t = n.t) : mstep out n = out.set (out.length - 1) (mlast (out[out.length - 1]'(by omega)) n) := by
  simp [mstep, h, ht]
theorem mstep_new {out : List K} {n : K} (h : ∀ h : 0 < out.length, (out[out.length - 1]'(by omega)).t ≠ n.t) : mstep out n = out ++ [n] := by
  unfold mstep
  split
  · rename_i h0; rw [if_neg (h h0)]
  · rfl
/-- what is kept: the nodes so far cover those that came, in strictly rising times, none above the last one's -/
structure MInv (l out : List K) : Prop where
  cov : Covers out l
  pos : 0 < l.length → 0 < out.length
  last : ∀ (h : 0 < out.length) (h' : 0 < l.length), (out[out.length - 1]'(by omega)).t = (l[l.length - 1]'(by omega)).t
  sorted : out.Pairwise fun a b => a.t < b.t
theorem Covers.snoc {m l : List K} (h : Covers m l) (n : K) : Covers (m ++ [n]) (l ++ [n]) := by
  refine ⟨fun a ha => ?_, fun b hb => ?_⟩
  · rcases List.mem_append.1 ha with ha | ha
    · obtain ⟨b, hb, h1, h2, h3⟩ := h.1 a ha; exact ⟨b, by simp [hb], h1, h2, h3⟩
    · simp at ha; subst ha; exact ⟨a, by simp, rfl, Int.le_refl _, Int.le_refl _⟩
  · rcases List.mem_append.1 hb with hb | hb
    · obtain ⟨⟨a, ha, h1, h2⟩, ⟨c, hc, h3, h4⟩⟩ := h.2 b hb; exact ⟨⟨a, by simp [ha], h1, h2⟩, ⟨c, by simp [hc], h3, h4⟩⟩
    · simp at hb; subst hb; exact ⟨⟨b, by simp, rfl, rfl⟩, ⟨b, by simp, rfl, rfl⟩⟩
theorem Covers.meetLast {m l : List K} {a n : K} (h : Covers (m ++ [a]) l) (ht : a.t = n.t) : Covers (m ++ [mlast a n]) (l ++ [n]) := by
  refine ⟨fun x hx => ?_, fun b hb => ?_⟩
  · rcases List.mem_append.1 hx with hx | hx
    · obtain ⟨b, hb, h1, h2, h3⟩ := h.1 x hx
      rcases List.mem_append.1 hb with hb | hb
      · exact ⟨b, by simp [hb], h1, h2, h3⟩
      · simp at hb; subst hb; exact ⟨mlast b n, by simp, h1, by simp [mlast]; omega, by simp [mlast]; omega⟩
    · simp at hx; subst hx; exact ⟨mlast a x, by simp, ht, by simp [mlast]; omega, by simp [mlast]; omega⟩
  · rcases List.mem_append.1 hb with hb | hb
    · obtain ⟨⟨x, hx, h1, h2⟩, ⟨c, hc, h3, h4⟩⟩ := h.2 b (by simp [hb]); exact ⟨⟨x, by simp [hx], h1, h2⟩, ⟨c, by simp [hc], h3, h4⟩⟩
    · simp at hb; subst hb
      obtain ⟨⟨x, hx, h1, h2⟩, ⟨c, hc, h3, h4⟩⟩ := h.2 a (by simp)
      refine ⟨?_, ?_⟩
      · rcases Int.le_total a.lo n.lo with hle | hle
        · exact ⟨n, by simp, by simp [mlast, ht], by simp [mlast]; omega⟩
        · exact ⟨x, by simp [hx], by simp [mlast, h1], by simp [mlast]; omega⟩
      · rcases Int.le_total a.hi n.hi with hle | hle
        · exact ⟨c, by simp [hc], by simp [mlast, h3], by simp [mlast]; omega⟩
        · exact ⟨n, by simp, by simp [mlast, ht], by simp [mlast]; omega⟩
theorem MInv.nil : MInv [] [] := ⟨⟨fun a ha => by simp at ha, fun b hb => by simp at hb⟩, fun h => by simp at h, fun h => by simp at h, List.Pairwise.nil⟩
theorem split_last {out : List K} (h : 0 < out.length) : out = out.take (out.length - 1) ++ [out[out.length - 1]'(by omega)] := by
  have := List.take_succ_eq_append_getElem (l := out) (i := out.length - 1) (by omega)
  rw [← this, List.take_of_length_le (by omega)]
theorem MInv.step {l out : List K} {n : K} (h : MInv l out) (hs : (l ++ [n]).Pairwise fun a b => a.t ≤ b.t) : MInv (l ++ [n]) (mstep out n) := by
  by_cases h0 : 0 < out.length
  · have hl : 0 < l.length := by
      obtain ⟨⟨x, hx, _⟩, _⟩ := h.cov.2 (out[out.length - 1]'(by omega)) (List.getElem_mem _)
      exact List.length_pos_of_mem hx
    have hlast := h.last h0 hl
    have hle : (out[out.length - 1]'(by omega)).t ≤ n.t := by
      rw [hlast]
      rw [List.pairwise_append] at hs
      exact hs.2.2 _ (List.getElem_mem _) n (by simp)
    obtain ⟨a, ha⟩ : ∃ a, a = out[out.length - 1]'(by omega) := ⟨_, rfl⟩
    have hsp := split_last h0
    rw [← ha] at hle hlast hsp
    by_cases ht : a.t = n.t
    · have e : mstep out n = out.take (out.length - 1) ++ [mlast a n] := by
        rw [mstep_same h0 (by rw [← ha]; exact ht), ← ha]
        apply List.ext_getElem (by simp; omega)
        intro i h1 h2
        rw [List.getElem_set]
        simp at h1
        split
        · rename_i hi; subst hi; rw [List.getElem_append_right (by simp)]; simp
        · rw [List.getElem_append_left (by simp; omega), List.getElem_take]
      rw [e]
      have hc := h.cov
      have hp := h.sorted
      rw [hsp] at hc hp
      refine ⟨hc.meetLast ht, fun _ => by simp, fun h1 h2 => ?_, ?_⟩
      · simp [mlast, ht]
      · rw [List.pairwise_append] at hp ⊢
        exact ⟨hp.1, List.pairwise_singleton _ _, fun x hx y hy => by simp at hy; subst hy; exact hp.2.2 x hx a (by simp)⟩
    · rw [mstep_new (fun _ => by rw [← ha]; exact ht)]
      refine ⟨h.cov.snoc n, fun _ => by simp, fun h1 h2 => by simp, ?_⟩
      rw [List.pairwise_append]
      refine ⟨h.sorted, List.pairwise_singleton _ _, fun x hx y hy => ?_⟩
      simp at hy; subst hy
      obtain ⟨i, hi, rfl⟩ := List.mem_iff_getElem.1 hx
      by_cases hil : i = out.length - 1
      · subst hil; rw [← ha]; omega
      · have := (List.pairwise_iff_getElem.1 h.sorted) i (out.length - 1) hi (by omega) (by omega)
        rw [← ha] at this; omega
  · have ho : out = [] := List.eq_nil_of_length_eq_zero (by omega)
    subst ho
    have hl : l = [] := by
      rcases Nat.eq_zero_or_pos l.length with h1 | h1
      · exact List.eq_nil_of_length_eq_zero h1
      · exact absurd (h.pos h1) (by simp)
    subst hl
    have e : mstep [] n = [n] := by simp [mstep]
    rw [e]
    exact ⟨h.cov.snoc n, fun _ => by simp, fun _ _ => by simp, List.pairwise_singleton _ _⟩
theorem merged_inv (l : List K) (hs : SortedK l) : MInv l (merged l) := by
  have : ∀ k, k ≤ l.length → MInv (l.take k) (mergedAt l k) := by
    intro k
    induction k with
    | zero => intro _; simp [mergedAt]; exact MInv.nil
    | succ k ih =>
      intro hk
      rw [mergedAt_succ l k (by omega), List.take_succ_eq_append_getElem (by omega)]
      refine (ih (by omega)).step ?_
      rw [← List.take_succ_eq_append_getElem (by omega)]
      exact hs.sublist (List.take_sublist _ _)
  have := this l.length (Nat.le_refl _)
  rwa [List.take_length, mergedAt_all] at this
theorem Covers.perm {m l l' : List K} (h : Covers m l) (hp : l.Perm l') : Covers m l' :=
  ⟨fun a ha => h.1 a (hp.mem_iff.2 ha), fun b hb => by
    obtain ⟨⟨a, ha, h1⟩, ⟨c, hc, h2⟩⟩ := h.2 b hb
    exact ⟨⟨a, hp.mem_iff.1 ha, h1⟩, ⟨c, hp.mem_iff.1 hc, h2⟩⟩⟩
theorem Covers.bnd {M : Int} {m l : List K} (h : Covers m l) (hl : ∀ x ∈ l, BndK M x) : ∀ x ∈ m, BndK M x := by
  intro x hx
  obtain ⟨⟨a, ha, h1, h2⟩, ⟨c, hc, h3, h4⟩⟩ := h.2 x hx
  have ba := hl a ha
  have bc := hl c hc
  unfold BndK at *
  omega
end W7
