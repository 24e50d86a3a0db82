/-
  Package watch's Possible. Conditions: bounds; of valid readings at most 18.
-/
import Derived.Test.YtcgnpndfhhcplaaGreatDoorPoss
import Derived.Test.YtcgnpndfhhcplaaGreatDoorChk
import Derived.Test.YtcgnpndfhhcplaaGreatDoorGood
namespace Go.Proofs.YtcgnpndfhhcplaaGreatDoor
open Go.RowKit W7
/-- the error of Possible's arguments -/
def possE (q : Quantity) (l : List Reading) (t : Int) : Int := if checkedE q l = 0 then (if isTm t then 0 else 1) else checkedE q l
def PossR (q : Quantity) (l : List Reading) (t : Int) (w : World) (e : Ending) (w' : World) : Prop :=
  ∃ (v : Value) (sp : List Span), e = .returned (.tuple #[v, .int .i64 (possE q l t)]) ∧ (possE q l t ≠ 0 → sp = []) ∧ (possE q l t = 0 → PossV q l t q.bad.toNat sp) ∧ sp.length ≤ 256 ∧ (∀ s ∈ sp, -2000000000000 ≤ s.lo ∧ s.lo ≤ 2000000000000 ∧ -2000000000000 ≤ s.hi ∧ s.hi ≤ 2000000000000) ∧
    w'.ownsRow w.heap.size 44 2 v sp.length (encSps sp) ∧ Below w.heap.size w w'
set_option maxHeartbeats 400000 in
set_option maxRecDepth 100000 in
theorem Possible18_any (q : Quantity) (l : List Reading) (t : Int) (A : Option Addr) (c B : Nat) (w : World) (hq : QIn w B q) (hA : Sl w B 3 encR A l) (hB : B ≤ w.heap.size) (hlc : l.length ≤ c) (hc : c ≤ 9223372036854775807) (h12 : l.length ≤ 64 → l.length ≤ 18) :
    Calls Tryz.prog 19 #[.agg #[.string q.name, .int .i64 q.lo, .int .i64 q.hi, .int .i64 q.rise, .int .i64 q.fall, .int .i64 q.bad, .slice q.gA q.gs.length q.gc], .slice A l.length c, .int .i64 t] w (PossR q l t w) := by
  obtain ⟨cs, hcs⟩ : ∃ cs : Array Value, cs = #[.string q.name, .int .i64 q.lo, .int .i64 q.hi, .int .i64 q.rise, .int .i64 q.fall, .int .i64 q.bad, .slice q.gA q.gs.length q.gc] := ⟨_, rfl⟩
  have HB0 := Lib.hid ((Below.refl w.heap.size w).alloc (Nat.le_refl _) (.cells cs 47))
  have Hq := Lib.hid (hq.below (HB0.out.mono hB))
  have HA := Lib.hid (hA.below (HB0.out.mono hB))
  have HC := Lib.hid (checked_any q l A c B (w.alloc (.cells cs 47)) Hq.out HA.out (by simp; omega) hlc hc)
  have HP := Lib.hid (fun (h0 : checkedE q l = 0) (h1 : isTm t = true) (W : World) (hb : Below (w.alloc (.cells cs 47)).heap.size (w.alloc (.cells cs 47)) W) =>
    show Calls Tryz.prog 58 #[.agg #[.string q.name, .int .i64 q.lo, .int .i64 q.hi, .int .i64 q.rise, .int .i64 q.fall, .int .i64 q.bad, .slice q.gA q.gs.length q.gc], .slice A l.length c, .int .i64 t] W (PossP q l t q.bad.toNat W) from by
      obtain ⟨hg, h64, _, hb0, hb1⟩ := good_of h0
      have hsB : B ≤ (w.alloc (.cells cs 47)).heap.size := by rw [World.size_alloc]; omega
      have hb' := hb.mono hsB
      exact possible_any q l t A c B W (Hq.out.below hb') (HA.out.below hb') (by have := hb.size; simp at this; omega) hg (isTm_true.1 h1) (h12 h64) q.bad.toNat (by omega) (by omega))
  rw [hcs] at HC HP HB0
  clear hcs Hq HA hq hA
  cases hce : (checkedE q l != 0)
  rotate_left
  · have HE := Lib.hid (show possE q l t = checkedE q l from by simp at hce; simp [possE, hce])
    go_enter Tryz.func19, Tryz.ntmps19
    go_wp2_with (go_at_call 57; refine HC.out.mono ?_; rintro e w1 ⟨rfl, hb1⟩)
    refine bodyPost_ret (v := .tuple #[.slice none 0 0, .int .i64 (checkedE q l)]) (by simp [results, Tryz.results19, go_sem]) rfl ?_
    refine ⟨_, [], by rw [HE.out], fun _ => rfl, fun h => ?_, by simp, by simp, World.ownsRow_nil _ _ _ _, HB0.out.trans (hb1.mono (by simp))⟩
    rw [HE.out] at h; simp [h] at hce
  · cases ht : isTm t
    · have HE := Lib.hid (show possE q l t = 1 from by simp at hce; simp [possE, hce, ht])
      go_enter Tryz.func19, Tryz.ntmps19
      go_wp2_with (first | (go_at_call 57; refine HC.out.mono ?_; rintro e w1 ⟨rfl, hb1⟩) | (go_at_call 47; refine (isTime_any _ _).mono ?_; rintro e w2 ⟨rfl, rfl⟩))
      refine bodyPost_ret (v := .tuple #[.slice none 0 0, .int .i64 1]) (by simp [results, Tryz.results19, go_sem]) rfl ?_
      refine ⟨_, [], by rw [HE.out], fun _ => rfl, fun h => ?_, by simp, by simp, World.ownsRow_nil _ _ _ _, HB0.out.trans (hb1.mono (by simp))⟩
      rw [HE.out] at h; exact absurd h (by decide)
    · have HE := Lib.hid (show possE q l t = 0 from by simp at hce; simp [possE, hce, ht])
      have HP2 := Lib.hid (HP.out (by simpa using hce) ht)
      go_enter Tryz.func19, Tryz.ntmps19
      go_wp2_with (first | (go_at_call 57; refine HC.out.mono ?_; rintro e w1 ⟨rfl, hb1⟩; have q0 := fun (j : Nat) (v : Value) (hv : (#[Value.string q.name, .int .i64 q.lo, .int .i64 q.hi, .int .i64 q.rise, .int .i64 q.fall, .int .i64 q.bad, .slice q.gA q.gs.length q.gc] : Array Value)[j]? = some v) => (hb1.cell (p := ⟨w.heap.size, j, none⟩) (by simp)).trans (alloc_cell hv); have c0 := q0 0 _ rfl; have c1 := q0 1 _ rfl; have c2 := q0 2 _ rfl; have c3 := q0 3 _ rfl; have c4 := q0 4 _ rfl; have c5 := q0 5 _ rfl; have c6 := q0 6 _ rfl; have Hb1 := Lib.hid hb1; clear q0) | (go_at_call 47; refine (isTime_any _ _).mono ?_; rintro e w2 ⟨rfl, rfl⟩) | (go_at_call 58; refine (HP2.out _ Hb1.out).mono ?_; rintro e w3 ⟨v, sp, rfl, hv, hl, hbd, hown, hb3⟩))
      refine bodyPost_ret (v := .tuple #[v, .int .i64 0]) (by simp [results, Tryz.results19, go_sem]) rfl ?_
      have hs1 := Hb1.out.size
      simp at hs1
      refine ⟨_, sp, by rw [HE.out], fun h => absurd HE.out h, fun _ => hv, hl, hbd, own_mono hown (by omega), (HB0.out.trans (Hb1.out.mono (by simp))).trans (hb3.mono (by omega))⟩
theorem Possible_any (q : Quantity) (l : List Reading) (t : Int) (A : Option Addr) (c B : Nat) (w : World) (hq : QIn w B q) (hA : Sl w B 3 encR A l) (hB : B ≤ w.heap.size) (hlc : l.length ≤ c) (hc : c ≤ 9223372036854775807) (h12 : l.length ≤ 64 → l.length ≤ 12) :
    Calls Tryz.prog 19 #[.agg #[.string q.name, .int .i64 q.lo, .int .i64 q.hi, .int .i64 q.rise, .int .i64 q.fall, .int .i64 q.bad, .slice q.gA q.gs.length q.gc], .slice A l.length c, .int .i64 t] w (PossR q l t w) :=
  Possible18_any q l t A c B w hq hA hB hlc hc fun h => by have := h12 h; omega
end Go.Proofs.YtcgnpndfhhcplaaGreatDoor
