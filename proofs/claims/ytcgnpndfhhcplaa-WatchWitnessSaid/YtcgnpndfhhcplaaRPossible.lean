/-
  The specification's Possible: the same spans and the same error as package watch's. Conditions: bounds; of valid readings at most 12.
-/
import Derived.Test.YtcgnpndfhhcplaaRPoss
namespace Go.Proofs.Ytcgnpndfhhcplaa
open Go.RowKit W7
/-- what Possible answers -/
def possS (q : Quantity) (l : List Reading) (t : Int) : List Span := if possE q l t = 0 then possX q l t q.bad.toNat else []
theorem possR_eq {q : Quantity} {l : List Reading} {t : Int} {sp : List Span} (h1 : possE q l t ≠ 0 → sp = []) (h2 : possE q l t = 0 → PossV q l t q.bad.toNat sp) : sp = possS q l t := by
  unfold possS
  split
  · rename_i h
    have hg := (good_of (possE_zero.1 h).1).1
    exact (h2 h).unique (possX_is hg.rise.1 hg.fall.1)
  · rename_i h; exact h1 h
theorem rp_possX {q : Quantity} {l : List Reading} {t : Int} (h : possE q l t = 0) : rpAt q l t q.bad.toNat (2 ^ q.gs.length) = possS q l t := by
  obtain ⟨hg, _, _, h0, h1⟩ := good_of (possE_zero.1 h).1
  rw [possS, if_pos h]
  exact rp_eq hg (isTm_true.1 (possE_zero.1 h).2) (by omega) (possX_is hg.rise.1 hg.fall.1)
def RefPR (q : Quantity) (l : List Reading) (t : Int) (w : World) (e : Ending) (w' : World) : Prop :=
  ∃ v, e = .returned (.tuple #[v, .int .i64 (possE q l t)]) ∧ w'.ownsRow w.heap.size 23 2 v (possS q l t).length (encSps (possS q l t)) ∧ Below w.heap.size w w'
set_option maxHeartbeats 1000000 in
set_option maxRecDepth 100000 in
theorem refPossible_any (q : Quantity) (l : List Reading) (t : Int) (A : Option Addr) (c B : Nat) (w : World) (hq : QIn w B q) (hA : Sl w B 3 encR A l) (hB : B ≤ w.heap.size) (hl80 : l.length ≤ 1000) (h12 : l.length ≤ 64 → l.length ≤ 12) :
    Calls Try.prog 12 #[.agg #[.string q.name, .int .i64 q.lo, .int .i64 q.hi, .int .i64 q.rise, .int .i64 q.fall, .int .i64 q.bad, .slice q.gA q.gs.length q.gc], .slice A l.length c, .int .i64 t] w (RefPR q l t w) := by
  obtain ⟨W0, hW0⟩ : ∃ W0, W0 = w.alloc (.cells #[.string q.name, .int .i64 q.lo, .int .i64 q.hi, .int .i64 q.rise, .int .i64 q.fall, .int .i64 q.bad, .slice q.gA q.gs.length q.gc] 26) := ⟨_, rfl⟩
  have HB0 := Lib.hid (show Below w.heap.size w W0 by rw [hW0]; exact (Below.refl _ _).alloc (Nat.le_refl _) _)
  have hs0 : w.heap.size < W0.heap.size := by rw [hW0]; simp
  have HQ0 := Lib.hid (show ∀ (X : World), Below W0.heap.size W0 X → ∀ j v, (#[.string q.name, .int .i64 q.lo, .int .i64 q.hi, .int .i64 q.rise, .int .i64 q.fall, .int .i64 q.bad, .slice q.gA q.gs.length q.gc] : Array Value)[j]? = some v → X.cell? ⟨w.heap.size, j, none⟩ = some v from fun X hX j v hv =>
    (hX.cell (p := ⟨w.heap.size, j, none⟩) hs0).trans (by rw [hW0]; exact alloc_cell hv))
  have HU := Lib.hid (fun (X : World) (hX : Below W0.heap.size W0 X) => show Below w.heap.size w X from HB0.out.trans (hX.mono (Nat.le_of_lt hs0)))
  have Hq := Lib.hid (fun (X : World) (hX : Below W0.heap.size W0 X) => hq.below ((HU.out X hX).mono hB))
  have HA := Lib.hid (fun (X : World) (hX : Below W0.heap.size W0 X) => hA.below ((HU.out X hX).mono hB))
  have HCk := Lib.hid (refReadings_any q l A c B W0 (Hq.out _ (Below.refl _ _)) (HA.out _ (Below.refl _ _)) (by omega) hl80)
  have HW0 := Lib.hid hW0
  clear hW0 hq hA
  obtain ⟨ce, hce⟩ : ∃ ce, ce = checkedE q l := ⟨_, rfl⟩
  rw [← hce] at HCk
  have Hce := Lib.hid hce
  clear hce
  cases hz : (ce == 0)
  · have HE := Lib.hid (show possE q l t = ce ∧ possS q l t = [] by
      have h1 : possE q l t = ce := by rw [possE, if_neg (by rw [← Hce.out]; simpa using hz), Hce.out]
      exact ⟨h1, by rw [possS, if_neg (by rw [h1]; simpa using hz)]⟩)
    have hz2 : (ce != 0) = true := by simpa using hz
    go_enter Try.func12, Try.ntmps12
    go_wp2_with (go_at_call 39; go_loud (rw [← HW0.out]); refine HCk.out.mono ?_; rintro r w1 ⟨rfl, hb1⟩)
    refine bodyPost_ret (v := .tuple #[.slice none 0 0, .int .i64 ce]) (by simp [results, Try.results12, go_sem]) rfl ?_
    exact ⟨_, by rw [HE.out.1], by rw [HE.out.2]; exact World.ownsRow_nil _ _ _ _, HU.out w1 hb1⟩
  have hz0 : ce = 0 := by simpa using hz
  subst hz0
  cases ht : isTm t
  · have HE := Lib.hid (show possE q l t = 1 ∧ possS q l t = [] by
      have h1 : possE q l t = 1 := by rw [possE, if_pos Hce.out.symm, ht]; rfl
      exact ⟨h1, by rw [possS, if_neg (by rw [h1]; decide)]⟩)
    go_enter Try.func12, Try.ntmps12
    go_wp2_with (first | (go_at_call 39; go_loud (rw [← HW0.out]); refine HCk.out.mono ?_; rintro r w1 ⟨rfl, hb1⟩) | (go_at_call 40; refine (refTimed_any _ _).mono ?_; rintro r w2 ⟨rfl, rfl⟩))
    refine bodyPost_ret (v := .tuple #[.slice none 0 0, .int .i64 1]) (by simp [results, Try.results12, go_sem]) rfl ?_
    exact ⟨_, by rw [HE.out.1], by rw [HE.out.2]; exact World.ownsRow_nil _ _ _ _, HU.out w1 hb1⟩
  · have hE0 : possE q l t = 0 := possE_zero.2 ⟨Hce.out.symm, ht⟩
    obtain ⟨hg, h64, _, hb0, hb1⟩ := good_of Hce.out.symm
    have HE := Lib.hid hE0
    have HP := Lib.hid (fun (X : World) (hX : Below W0.heap.size W0 X) => refPoss_any q l t A c B X (Hq.out X hX) (HA.out X hX) (by have := hX.size; omega) hg (isTm_true.1 ht) (h12 h64) q.bad.toNat (by omega))
    clear hg hE0
    go_enter Try.func12, Try.ntmps12
    go_wp2_with (first | (go_at_call 39; go_loud (rw [← HW0.out]); refine HCk.out.mono ?_; rintro r w1 ⟨rfl, hbb1⟩; have Hb1 := Lib.hid hbb1; have c0 := HQ0.out w1 hbb1 0 _ rfl; have c1 := HQ0.out w1 hbb1 1 _ rfl; have c2 := HQ0.out w1 hbb1 2 _ rfl; have c3 := HQ0.out w1 hbb1 3 _ rfl; have c4 := HQ0.out w1 hbb1 4 _ rfl; have c5 := HQ0.out w1 hbb1 5 _ rfl; have c6 := HQ0.out w1 hbb1 6 _ rfl; clear hbb1) | (go_at_call 40; refine (refTimed_any _ _).mono ?_; rintro r w2 ⟨rfl, rfl⟩) | (go_at_call 41; refine (HP.out _ Hb1.out).mono ?_; rintro r w3 ⟨v, rfl, hown, hb3⟩))
    refine bodyPost_ret (v := .tuple #[v, .int .i64 0]) (by simp [results, Try.results12, go_sem]) rfl ?_
    rw [rp_possX HE.out] at hown
    have hs1 := Hb1.out.size
    exact ⟨_, by rw [HE.out], own_mono hown (by omega), (HU.out w1 Hb1.out).trans (hb3.mono (by omega))⟩
end Go.Proofs.Ytcgnpndfhhcplaa
