/-
  The specification's Suspects: the walk. Conditions: bounds; of valid readings at most 12.
-/
import Derived.Test.YtcgnpndfhhcplaaRPossible
import Derived.Test.YtcgnpndfhhcplaaRSmall
namespace Go.Proofs.Ytcgnpndfhhcplaa
open Go.RowKit W7
attribute [local go_sem] Oper.semAt_some
def hitB (q : Quantity) (l : List Reading) (m s : Nat) : Bool := decide ((bitsF q.gs.length s).length = m) && decide (Agree q.rise q.fall (coreS q l s))
def sureAt (q : Quantity) (l : List Reading) (m : Nat) : Nat → Nat
  | 0 => 255
  | s + 1 => if hitB q l m s then sureAt q l m s &&& s else sureAt q l m s
def perAt (q : Quantity) (l : List Reading) (m : Nat) : Nat → Nat
  | 0 => 0
  | s + 1 => if hitB q l m s then perAt q l m s ||| s else perAt q l m s
def anyAt (q : Quantity) (l : List Reading) (m : Nat) : Nat → Bool
  | 0 => false
  | s + 1 => if hitB q l m s then true else anyAt q l m s
theorem sureAt_lt (q : Quantity) (l : List Reading) (m s : Nat) : sureAt q l m s < 256 := by
  induction s with
  | zero => exact (by decide : 255 < 256)
  | succ s ih =>
    unfold sureAt
    split
    · exact Nat.lt_of_le_of_lt Nat.and_le_left ih
    · exact ih
theorem perAt_lt (q : Quantity) (l : List Reading) (m s : Nat) (hs : s ≤ 256) : perAt q l m s < 256 := by
  induction s with
  | zero => exact (by decide : 0 < 256)
  | succ s ih =>
    unfold perAt
    split
    · exact Nat.or_lt_two_pow (n := 8) (ih (by omega)) (by omega)
    · exact ih (by omega)
/-- the specification's suspects, from sets of so many gauges on -/
def rsGo (q : Quantity) (l : List Reading) : Nat → Nat → List Int × List Int
  | 0, _ => ([], [])
  | k + 1, m => if anyAt q l m (2 ^ q.gs.length) then (bitsF 8 (sureAt q l m (2 ^ q.gs.length)), bitsF 8 (perAt q l m (2 ^ q.gs.length))) else rsGo q l k (m + 1)
theorem bits8 (a b : Nat) (ha : a < 256) (hb : b < 256) : bits .and .i64 (a : Int) (b : Int) = ((a &&& b : Nat) : Int) ∧ bits .or .i64 (a : Int) (b : Int) = ((a ||| b : Nat) : Int) :=
  bits_nat .i64 8 (by decide) (fun n h0 h3 => IntWalk.i64_in _ (by omega)) a b ha hb
def RSusR (q : Quantity) (l : List Reading) (w : World) (e : Ending) (w' : World) : Prop :=
  ∃ v1 v2, e = .returned (.tuple #[v1, v2, .int .i64 (checkedE q l)]) ∧ w'.ownsRow w.heap.size 3 1 v1 (if checkedE q l = 0 then rsGo q l (q.bad.toNat + 1) 0 else ([], [])).1.length ((if checkedE q l = 0 then rsGo q l (q.bad.toNat + 1) 0 else ([], [])).1.map (.int .i64)) ∧
    w'.ownsRow w.heap.size 3 1 v2 (if checkedE q l = 0 then rsGo q l (q.bad.toNat + 1) 0 else ([], [])).2.length ((if checkedE q l = 0 then rsGo q l (q.bad.toNat + 1) 0 else ([], [])).2.map (.int .i64)) ∧ Below w.heap.size w w'
set_option maxHeartbeats 1000000 in
set_option maxRecDepth 100000 in
theorem refSuspects_any (q : Quantity) (l : List Reading) (A : Option Addr) (c B : Nat) (w : World) (hq : QIn w B q) (hA : Sl w B 3 encR A l) (hB : B ≤ w.heap.size) (hl80 : l.length ≤ 1000) (h12 : l.length ≤ 64 → l.length ≤ 12) :
    Calls Try.prog 15 #[.agg #[.string q.name, .int .i64 q.lo, .int .i64 q.hi, .int .i64 q.rise, .int .i64 q.fall, .int .i64 q.bad, .slice q.gA q.gs.length q.gc], .slice A l.length c] w (RSusR q l w) := by
  obtain ⟨W0, hW0⟩ : ∃ W0, W0 = w.alloc (.cells #[.string q.name, .int .i64 q.lo, .int .i64 q.hi, .int .i64 q.rise, .int .i64 q.fall, .int .i64 q.bad, .slice q.gA q.gs.length q.gc] 26) := ⟨_, rfl⟩
  have HB0 := Lib.hid (show Below w.heap.size w W0 by rw [hW0]; exact (Below.refl _ _).alloc (Nat.le_refl _) _)
  have hs0 : w.heap.size < W0.heap.size := by rw [hW0]; simp
  have HQ0 := Lib.hid (show ∀ (X : World), Below W0.heap.size W0 X → ∀ j v, (#[.string q.name, .int .i64 q.lo, .int .i64 q.hi, .int .i64 q.rise, .int .i64 q.fall, .int .i64 q.bad, .slice q.gA q.gs.length q.gc] : Array Value)[j]? = some v → X.cell? ⟨w.heap.size, j, none⟩ = some v from fun X hX j v hv =>
    (hX.cell (p := ⟨w.heap.size, j, none⟩) hs0).trans (by rw [hW0]; exact alloc_cell hv))
  have HU := Lib.hid (fun (X : World) (hX : Below W0.heap.size W0 X) => show Below w.heap.size w X from HB0.out.trans (hX.mono (Nat.le_of_lt hs0)))
  have Hq := Lib.hid (fun (X : World) (hX : Below W0.heap.size W0 X) => hq.below ((HU.out X hX).mono hB))
  have HA := Lib.hid (fun (X : World) (hX : Below W0.heap.size W0 X) => hA.below ((HU.out X hX).mono hB))
  have HCk := Lib.hid (refReadings_any q l A c B W0 (Hq.out _ (Below.refl _ _)) (HA.out _ (Below.refl _ _)) (by omega) hl80)
  have HW0 := Lib.hid hW0
  clear hW0 hq hA
  obtain ⟨ce, hce⟩ : ∃ ce, ce = checkedE q l := ⟨_, rfl⟩
  rw [← hce] at HCk
  unfold RSusR
  rw [← hce]
  have Hce := Lib.hid hce
  clear hce
  cases hz : (ce == 0)
  · have hz2 : (ce != 0) = true := by simpa using hz
    obtain ⟨S, hS⟩ : ∃ S, S = (if ce = 0 then rsGo q l (q.bad.toNat + 1) 0 else ([], [])) := ⟨_, rfl⟩
    rw [← hS]
    have HS := Lib.hid (show S = ([], []) by rw [hS, if_neg (by simpa using hz)])
    clear hS
    go_enter Try.func15, Try.ntmps15
    go_wp2_with (go_at_call 39; go_loud (rw [← HW0.out]); refine HCk.out.mono ?_; rintro r w1 ⟨rfl, hb1⟩)
    refine bodyPost_ret (v := .tuple #[.slice none 0 0, .slice none 0 0, .int .i64 ce]) (by simp [results, Try.results15, go_sem]) rfl ?_
    exact ⟨_, _, rfl, by rw [HS.out]; exact World.ownsRow_nil _ _ _ _, by rw [HS.out]; exact World.ownsRow_nil _ _ _ _, HU.out w1 hb1⟩
  have hz0 : ce = 0 := by simpa using hz
  subst hz0
  obtain ⟨hg, h64, _, hb0, hbn⟩ := good_of Hce.out.symm
  have HG := Lib.hid hg
  have hl12 := h12 h64
  have hgl := hg.gl
  obtain ⟨S, hS⟩ : ∃ S, S = rsGo q l (q.bad.toNat + 1) 0 := ⟨_, rfl⟩
  have hS2 : (if (0 : Int) = 0 then rsGo q l (q.bad.toNat + 1) 0 else ([], [])) = S := by rw [if_pos rfl, hS]
  rw [hS2]
  have HS := Lib.hid hS
  have HKn := Lib.hid (fun (X : World) (hX : Below W0.heap.size W0 X) (s : Nat) (hs : s < 256) => refKnown_any q l s A c B X (Hq.out X hX) (HA.out X hX) (by have := hX.size; omega) hg hs (by omega))
  clear hS hS2 hg
  obtain ⟨P, hP⟩ : ∃ P : Nat, P = 2 ^ q.gs.length := ⟨_, rfl⟩
  have hPI : (2 : Int) ^ q.gs.length = (P : Int) := by rw [hP]; simp
  have hP256 : P ≤ 256 := by
    rw [hP]; exact Nat.pow_le_pow_right (n := 2) (by decide) hgl
  have HP := Lib.hid hP
  have hmin : min q.gs.length 64 = q.gs.length := by omega
  clear hP
  go_enter Try.func15, Try.ntmps15
  go_wp2_with (go_at_call 39; go_loud (rw [← HW0.out]); refine HCk.out.mono ?_; rintro r w1 ⟨rfl, hb1⟩)
  go_loopw [8] (fun v8 wr => ∃ m : Nat, m ≤ q.bad.toNat + 1 ∧ v8 = .int .i64 m ∧ Hid (S = rsGo q l (q.bad.toNat + 1 - m) m) ∧ Hid (Below W0.heap.size W0 wr)) (fun v8 _ => q.bad.toNat + 1 - (intOf v8).toNat)
  case atStart => exact ⟨0, by omega, rfl, HS, Lib.hid hb1⟩
  case round =>
    obtain ⟨m, hm, rfl, Hm, Hb⟩ := hrel
    have hsz := Hb.out.size
    have c5 := HQ0.out wr Hb.out 5 _ rfl
    by_cases hlt : m ≤ q.bad.toNat
    · have hltI : decide ((m : Int) ≤ q.bad) = true := by simp; omega
      have hm8 : m ≤ 8 := by omega
      go_wp2
      go_loopw [9, 10, 11, 12] (fun v9 v10 v11 v12 wr2 => ∃ s : Nat, s ≤ P ∧ v12 = .int .i64 s ∧ v9 = .int .i64 (sureAt q l m s : Nat) ∧ v10 = .int .i64 (perAt q l m s : Nat) ∧ v11 = .bool (anyAt q l m s) ∧ Hid (Below wr.heap.size wr wr2)) (fun _ _ _ v12 _ => P - (intOf v12).toNat)
      case atStart => exact ⟨0, by omega, rfl, rfl, rfl, rfl, Lib.hid (Below.refl _ _)⟩
      case round =>
        obtain ⟨s, hs, rfl, rfl, rfl, rfl, Hb2⟩ := hrel
        have hsz2 := Hb2.out.size
        have Hbw := Lib.hid (Hb.out.trans (Hb2.out.mono hsz))
        have hwr2 : w.heap.size < wr.heap.size := by omega
        have c0 := HQ0.out wr Hbw.out 0 _ rfl
        have c1 := HQ0.out wr Hbw.out 1 _ rfl
        have c2 := HQ0.out wr Hbw.out 2 _ rfl
        have c3 := HQ0.out wr Hbw.out 3 _ rfl
        have c4 := HQ0.out wr Hbw.out 4 _ rfl
        have c5' := HQ0.out wr Hbw.out 5 _ rfl
        have c6 := HQ0.out wr Hbw.out 6 _ rfl
        by_cases hlt2 : s < P
        · have hltI2 : decide ((s : Int) < (P : Int)) = true := by simpa using hlt2
          have hs256 : s < 256 := by omega
          have hsP : s < 2 ^ q.gs.length := by have := HP.out; omega
          have hswl := sureAt_lt q l m s
          have hpwl := perAt_lt q l m s (by omega)
          have hcl : (coreS q l s).length ≤ 13 := by rw [← coreAt_all]; have := coreAt_len q l s l.length; omega
          obtain ⟨z, hz⟩ : ∃ z, z = (bitsF q.gs.length s).length := ⟨_, rfl⟩
          have HSz := Lib.hid (fun (X : World) => (show Calls Try.prog 45 #[.int .i64 s] X (fun e w' => e = .returned (.int .i64 (z : Int)) ∧ Below X.heap.size X w') from by
            rw [hz]
            exact (refSize_any s q.gs.length X (by omega) hsP).mono fun _ _ ⟨h1, h2⟩ => ⟨h1, by rw [h2]; exact Below.refl _ _⟩))
          have HHit := Lib.hid (show hitB q l m s = (decide (z = m) && decide (Agree q.rise q.fall (coreS q l s))) by rw [hz]; rfl)
          have HA1 := Lib.hid (show sureAt q l m (s + 1) = (if hitB q l m s then sureAt q l m s &&& s else sureAt q l m s) ∧ perAt q l m (s + 1) = (if hitB q l m s then perAt q l m s ||| s else perAt q l m s) ∧ anyAt q l m (s + 1) = (if hitB q l m s then true else anyAt q l m s) from ⟨rfl, rfl, rfl⟩)
          have hbt := bits8 (sureAt q l m s) s hswl hs256
          have hbo := bits8 (perAt q l m s) s hpwl hs256
          obtain ⟨b1, hb1⟩ : ∃ x, x = sureAt q l m s &&& s := ⟨_, rfl⟩
          obtain ⟨b2, hb2⟩ : ∃ x, x = perAt q l m s ||| s := ⟨_, rfl⟩
          rw [← hb1] at hbt
          rw [← hb2] at hbo
          rw [← hb1, ← hb2] at HA1
          have hband := hbt.1
          have hbor := hbo.2
          clear hbt hbo hb1 hb2 hz
          revert HA1 hband hbor hswl hpwl
          generalize sureAt q l m s = sw
          generalize perAt q l m s = pw
          generalize anyAt q l m s = aw
          intro hswl hpwl HA1 hband hbor
          have HNo := Lib.hid (fun (h : decide (Agree q.rise q.fall (coreS q l s)) = false) => show sureAt q l m (s + 1) = sw ∧ perAt q l m (s + 1) = pw ∧ anyAt q l m (s + 1) = aw from by
            have h1 : hitB q l m s = false := by rw [HHit.out, h, Bool.and_false]
            have := HA1.out
            simpa [h1] using this)
          have n0 := later_cell c0 hwr2
          have n1 := later_cell c1 hwr2
          have n2 := later_cell c2 hwr2
          have n3 := later_cell c3 hwr2
          have n4 := later_cell c4 hwr2
          have n5 := later_cell c5' hwr2
          have n6 := later_cell c6 hwr2
          go_wp2
          cases heq : ((z : Int) == (m : Int))
          · have HN := Lib.hid (show sureAt q l m (s + 1) = sw ∧ perAt q l m (s + 1) = pw ∧ anyAt q l m (s + 1) = aw from by
              have h1 : hitB q l m s = false := by
                rw [HHit.out]; simp at heq
                have : ¬ z = m := by omega
                simp [this]
              have := HA1.out
              simpa [h1] using this)
            obtain ⟨RS0, hRS0⟩ : ∃ R : (Nat → Bool) → Act → World → Prop, R = fun L a' w' => ∃ (e : Later wr) (v33 v34 v35 v36 v37 v38 v39 v40 v41 v42 : Value), w' = e.w ∧ a' = { tmps := #[Value.agg #[Value.string q.name, Value.int IntKind.i64 q.lo, Value.int IntKind.i64 q.hi, Value.int IntKind.i64 q.rise, Value.int IntKind.i64 q.fall, Value.int IntKind.i64 q.bad, Value.slice q.gA q.gs.length q.gc], Value.slice A l.length c, Value.pointer (some { block := w.heap.size, off := 0 }), undef, u4, u5, u6, Value.int IntKind.i64 0, Value.int IntKind.i64 ↑m, Value.int IntKind.i64 (sw : Nat), Value.int IntKind.i64 (pw : Nat), Value.bool (aw), Value.int IntKind.i64 ↑s, Value.agg #[Value.string q.name, Value.int IntKind.i64 q.lo, Value.int IntKind.i64 q.hi, Value.int IntKind.i64 q.rise, Value.int IntKind.i64 q.fall, Value.int IntKind.i64 q.bad, Value.slice q.gA q.gs.length q.gc], Value.slice A l.length c, Value.int IntKind.i64 0, Value.int IntKind.i64 0, Value.bool false, undef, Value.int IntKind.i64 ↑m, Value.pointer (some { block := w.heap.size, off := 5 }), Value.int IntKind.i64 q.bad, Value.bool true, u23, u24, Value.int IntKind.i64 ↑s, Value.pointer (some { block := w.heap.size, off := 6 }), Value.slice q.gA q.gs.length q.gc, Value.int IntKind.i64 ↑q.gs.length, Value.int IntKind.i64 ↑P, Value.bool true, u31, u32, v33, v34, v35, v36, v37, v38, v39, v40, v41, v42, u43, u44, u45, u46, u47, u48, u49, u50, u51, u52, u53, u54, u55], defers := [] } ∧ (L 0 = true → v33 = .int .i64 (s : Int)) ∧ (L 1 = true → v34 = .int .i64 (z : Int)) ∧ (L 2 = true → v35 = .int .i64 (m : Int)) ∧ (L 3 = true → v36 = .bool false) ∧ (L 4 = true → v37 = .bool false) ∧ (L 5 = true → True) ∧ (L 6 = true → True) ∧ (L 7 = true → True) ∧ (L 8 = true → True) ∧ (L 9 = true → True) := ⟨_, rfl⟩
            have HRS0 := Lib.hid hRS0
            clear hRS0
            refine wp_region_inv 10 RS0 (by kernel_rfl) (by kernel_rfl) (by kernel_rfl) (by kernel_rfl) (by decide) (by kernel_rfl) ?_ ?_ ?_
            · rw [HRS0.out]
              exact ⟨⟨_, (Below.refl wr.heap.size wr).drew⟩, _, _, _, _, _, _, _, _, _, _, rfl, rfl, by simp, by simp, by simp, by simp, by simp, by simp, by simp, by simp, by simp, by simp⟩
            · rintro L a' w' i o hi ho hLi haf hInv
              rw [HRS0.out] at hInv
              obtain ⟨e, v33, v34, v35, v36, v37, v38, v39, v40, v41, v42, rfl, rfl, h0, h1, h2, h3, h4, h5, h6, h7, h8, h9⟩ := hInv
              have hse : wr.heap.size ≤ e.w.heap.size := e.b.size
              rcases i with _ | _ | _ | _ | _ | _ | _ | _ | _ | _ | i
              case succ.succ.succ.succ.succ.succ.succ.succ.succ.succ => omega
              all_goals (simp only [List.getElem?_cons_zero, List.getElem?_cons_succ, Option.some.injEq] at ho; subst ho)
              · go_wp2
                rw [HRS0.out]
                exact ⟨e, _, _, _, _, _, _, _, _, _, _, rfl, rfl, fun _ => rfl, fun z => h1 (by simpa using z), fun z => h2 (by simpa using z), fun z => h3 (by simpa using z), fun z => h4 (by simpa using z), fun _ => trivial, fun _ => trivial, fun _ => trivial, fun _ => trivial, fun _ => trivial⟩
              · obtain rfl := h0 (haf ⟨0, .data⟩ (by simp) rfl)
                go_wp2_with (go_at_call 45; refine (HSz.out _).mono ?_; rintro r w4 ⟨rfl, hNew⟩)
                rw [HRS0.out]
                exact ⟨⟨w4, e.b.trans (hNew.mono e.b.size)⟩, _, _, _, _, _, _, _, _, _, _, rfl, rfl, fun _ => rfl, fun _ => rfl, fun z => h2 (by simpa using z), fun z => h3 (by simpa using z), fun z => h4 (by simpa using z), fun _ => trivial, fun _ => trivial, fun _ => trivial, fun _ => trivial, fun _ => trivial⟩
              · go_wp2
                rw [HRS0.out]
                exact ⟨e, _, _, _, _, _, _, _, _, _, _, rfl, rfl, fun z => h0 (by simpa using z), fun z => h1 (by simpa using z), fun _ => rfl, fun z => h3 (by simpa using z), fun z => h4 (by simpa using z), fun _ => trivial, fun _ => trivial, fun _ => trivial, fun _ => trivial, fun _ => trivial⟩
              · obtain rfl := h1 (haf ⟨1, .data⟩ (by simp) rfl)
                obtain rfl := h2 (haf ⟨2, .data⟩ (by simp) rfl)
                go_wp2
                rw [HRS0.out]
                exact ⟨e, _, _, _, _, _, _, _, _, _, _, rfl, rfl, fun z => h0 (by simpa using z), fun _ => rfl, fun _ => rfl, fun _ => rfl, fun z => h4 (by simpa using z), fun _ => trivial, fun _ => trivial, fun _ => trivial, fun _ => trivial, fun _ => trivial⟩
              · obtain rfl := h3 (haf ⟨3, .data⟩ (by simp) rfl)
                go_wp2
                rw [HRS0.out]
                exact ⟨e, _, _, _, _, _, _, _, _, _, _, rfl, rfl, fun z => h0 (by simpa using z), fun z => h1 (by simpa using z), fun z => h2 (by simpa using z), fun _ => rfl, fun _ => rfl, fun _ => trivial, fun _ => trivial, fun _ => trivial, fun _ => trivial, fun _ => trivial⟩
              · obtain rfl := h4 (haf ⟨4, .guard⟩ (by simp) rfl)
                go_wp2
                rw [HRS0.out]
                exact ⟨e, _, _, _, _, _, _, _, _, _, _, rfl, rfl, fun z => h0 (by simpa using z), fun z => h1 (by simpa using z), fun z => h2 (by simpa using z), fun z => h3 (by simpa using z), fun _ => rfl, fun _ => trivial, fun _ => trivial, fun _ => trivial, fun _ => trivial, fun _ => trivial⟩
              · obtain rfl := h4 (haf ⟨4, .guard⟩ (by simp) rfl)
                go_wp2
                rw [HRS0.out]
                exact ⟨e, _, _, _, _, _, _, _, _, _, _, rfl, rfl, fun z => h0 (by simpa using z), fun z => h1 (by simpa using z), fun z => h2 (by simpa using z), fun z => h3 (by simpa using z), fun _ => rfl, fun _ => trivial, fun _ => trivial, fun _ => trivial, fun _ => trivial, fun _ => trivial⟩
              · obtain rfl := h4 (haf ⟨4, .guard⟩ (by simp) rfl)
                go_wp2
                rw [HRS0.out]
                exact ⟨e, _, _, _, _, _, _, _, _, _, _, rfl, rfl, fun z => h0 (by simpa using z), fun z => h1 (by simpa using z), fun z => h2 (by simpa using z), fun z => h3 (by simpa using z), fun _ => rfl, fun _ => trivial, fun _ => trivial, fun _ => trivial, fun _ => trivial, fun _ => trivial⟩
              · obtain rfl := h4 (haf ⟨4, .guard⟩ (by simp) rfl)
                go_wp2
                rw [HRS0.out]
                exact ⟨e, _, _, _, _, _, _, _, _, _, _, rfl, rfl, fun z => h0 (by simpa using z), fun z => h1 (by simpa using z), fun z => h2 (by simpa using z), fun z => h3 (by simpa using z), fun _ => rfl, fun _ => trivial, fun _ => trivial, fun _ => trivial, fun _ => trivial, fun _ => trivial⟩
              · obtain rfl := h4 (haf ⟨4, .guard⟩ (by simp) rfl)
                go_wp2
                rw [HRS0.out]
                exact ⟨e, _, _, _, _, _, _, _, _, _, _, rfl, rfl, fun z => h0 (by simpa using z), fun z => h1 (by simpa using z), fun z => h2 (by simpa using z), fun z => h3 (by simpa using z), fun _ => rfl, fun _ => trivial, fun _ => trivial, fun _ => trivial, fun _ => trivial, fun _ => trivial⟩
            · rintro L a' w' hL hInv
              rw [HRS0.out] at hInv
              obtain ⟨e, v33, v34, v35, v36, v37, v38, v39, v40, v41, v42, rfl, rfl, h0, h1, h2, h3, h4, h5, h6, h7, h8, h9⟩ := hInv
              obtain rfl := h0 (hL 0 (by omega))
              obtain rfl := h1 (hL 1 (by omega))
              obtain rfl := h2 (hL 2 (by omega))
              obtain rfl := h3 (hL 3 (by omega))
              obtain rfl := h4 (hL 4 (by omega))
              have hse : wr.heap.size ≤ e.w.heap.size := e.b.size
              clear h5 h6 h7 h8 h9 hL HRS0
              have HbE := Lib.hid (Hb2.out.trans (e.b.mono hsz2))
              go_wp2
              go_roundw
              case rel => exact ⟨s + 1, by omega, by go_num, by rw [HN.out.1], by rw [HN.out.2.1], by rw [HN.out.2.2], HbE⟩
              case measure => simp [intOf]; omega
          · have HYes := Lib.hid (fun (h : decide (Agree q.rise q.fall (coreS q l s)) = true) => show sureAt q l m (s + 1) = b1 ∧ perAt q l m (s + 1) = b2 ∧ anyAt q l m (s + 1) = true from by
              have h1 : hitB q l m s = true := by
                rw [HHit.out, h]; simp at heq
                have : z = m := by omega
                simp [this]
              have := HA1.out
              simpa [h1] using this)
            obtain ⟨RS1, hRS1⟩ : ∃ R : (Nat → Bool) → Act → World → Prop, R = fun L a' w' => ∃ (e : Later wr) (v33 v34 v35 v36 v37 v38 v39 v40 v41 v42 : Value), w' = e.w ∧ a' = { tmps := #[Value.agg #[Value.string q.name, Value.int IntKind.i64 q.lo, Value.int IntKind.i64 q.hi, Value.int IntKind.i64 q.rise, Value.int IntKind.i64 q.fall, Value.int IntKind.i64 q.bad, Value.slice q.gA q.gs.length q.gc], Value.slice A l.length c, Value.pointer (some { block := w.heap.size, off := 0 }), undef, u4, u5, u6, Value.int IntKind.i64 0, Value.int IntKind.i64 ↑m, Value.int IntKind.i64 (sw : Nat), Value.int IntKind.i64 (pw : Nat), Value.bool (aw), Value.int IntKind.i64 ↑s, Value.agg #[Value.string q.name, Value.int IntKind.i64 q.lo, Value.int IntKind.i64 q.hi, Value.int IntKind.i64 q.rise, Value.int IntKind.i64 q.fall, Value.int IntKind.i64 q.bad, Value.slice q.gA q.gs.length q.gc], Value.slice A l.length c, Value.int IntKind.i64 0, Value.int IntKind.i64 0, Value.bool false, undef, Value.int IntKind.i64 ↑m, Value.pointer (some { block := w.heap.size, off := 5 }), Value.int IntKind.i64 q.bad, Value.bool true, u23, u24, Value.int IntKind.i64 ↑s, Value.pointer (some { block := w.heap.size, off := 6 }), Value.slice q.gA q.gs.length q.gc, Value.int IntKind.i64 ↑q.gs.length, Value.int IntKind.i64 ↑P, Value.bool true, u31, u32, v33, v34, v35, v36, v37, v38, v39, v40, v41, v42, u43, u44, u45, u46, u47, u48, u49, u50, u51, u52, u53, u54, u55], defers := [] } ∧ (L 0 = true → v33 = .int .i64 (s : Int)) ∧ (L 1 = true → v34 = .int .i64 (z : Int)) ∧ (L 2 = true → v35 = .int .i64 (m : Int)) ∧ (L 3 = true → v36 = .bool true) ∧ (L 4 = true → v37 = .bool true) ∧ (L 5 = true → v38 = .agg #[.string q.name, .int .i64 q.lo, .int .i64 q.hi, .int .i64 q.rise, .int .i64 q.fall, .int .i64 q.bad, .slice q.gA q.gs.length q.gc]) ∧ (L 6 = true → v39 = .agg #[.string q.name, .int .i64 q.lo, .int .i64 q.hi, .int .i64 q.rise, .int .i64 q.fall, .int .i64 q.bad, .slice q.gA q.gs.length q.gc]) ∧ (L 7 = true → v40 = .slice A l.length c) ∧ (L 8 = true → v41 = .int .i64 (s : Int)) ∧ (L 9 = true → Hid ((e.w).ownsRow wr.heap.size 98 3 v42 (coreS q l s).length (encKs (coreS q l s)))) := ⟨_, rfl⟩
            have HRS1 := Lib.hid hRS1
            clear hRS1
            refine wp_region_inv 10 RS1 (by kernel_rfl) (by kernel_rfl) (by kernel_rfl) (by kernel_rfl) (by decide) (by kernel_rfl) ?_ ?_ ?_
            · rw [HRS1.out]
              exact ⟨⟨_, (Below.refl wr.heap.size wr).drew⟩, _, _, _, _, _, _, _, _, _, _, rfl, rfl, by simp, by simp, by simp, by simp, by simp, by simp, by simp, by simp, by simp, by simp⟩
            · rintro L a' w' i o hi ho hLi haf hInv
              rw [HRS1.out] at hInv
              obtain ⟨e, v33, v34, v35, v36, v37, v38, v39, v40, v41, v42, rfl, rfl, h0, h1, h2, h3, h4, h5, h6, h7, h8, h9⟩ := hInv
              have hse : wr.heap.size ≤ e.w.heap.size := e.b.size
              rcases i with _ | _ | _ | _ | _ | _ | _ | _ | _ | _ | i
              case succ.succ.succ.succ.succ.succ.succ.succ.succ.succ => omega
              all_goals (simp only [List.getElem?_cons_zero, List.getElem?_cons_succ, Option.some.injEq] at ho; subst ho)
              · go_wp2
                rw [HRS1.out]
                exact ⟨e, _, _, _, _, _, _, _, _, _, _, rfl, rfl, fun _ => rfl, fun z => h1 (by simpa using z), fun z => h2 (by simpa using z), fun z => h3 (by simpa using z), fun z => h4 (by simpa using z), fun z => h5 (by simpa using z), fun z => h6 (by simpa using z), fun z => h7 (by simpa using z), fun z => h8 (by simpa using z), fun z => h9 (by simpa using z)⟩
              · obtain rfl := h0 (haf ⟨0, .data⟩ (by simp) rfl)
                go_wp2_with (go_at_call 45; refine (HSz.out _).mono ?_; rintro r w4 ⟨rfl, hNew⟩)
                rw [HRS1.out]
                exact ⟨⟨w4, e.b.trans (hNew.mono e.b.size)⟩, _, _, _, _, _, _, _, _, _, _, rfl, rfl, fun _ => rfl, fun _ => rfl, fun z => h2 (by simpa using z), fun z => h3 (by simpa using z), fun z => h4 (by simpa using z), fun z => h5 (by simpa using z), fun z => h6 (by simpa using z), fun z => h7 (by simpa using z), fun z => h8 (by simpa using z), fun z => Lib.hid (own_below (h9 (by simpa using z)).out hNew)⟩
              · go_wp2
                rw [HRS1.out]
                exact ⟨e, _, _, _, _, _, _, _, _, _, _, rfl, rfl, fun z => h0 (by simpa using z), fun z => h1 (by simpa using z), fun _ => rfl, fun z => h3 (by simpa using z), fun z => h4 (by simpa using z), fun z => h5 (by simpa using z), fun z => h6 (by simpa using z), fun z => h7 (by simpa using z), fun z => h8 (by simpa using z), fun z => h9 (by simpa using z)⟩
              · obtain rfl := h1 (haf ⟨1, .data⟩ (by simp) rfl)
                obtain rfl := h2 (haf ⟨2, .data⟩ (by simp) rfl)
                go_wp2
                rw [HRS1.out]
                exact ⟨e, _, _, _, _, _, _, _, _, _, _, rfl, rfl, fun z => h0 (by simpa using z), fun _ => rfl, fun _ => rfl, fun _ => rfl, fun z => h4 (by simpa using z), fun z => h5 (by simpa using z), fun z => h6 (by simpa using z), fun z => h7 (by simpa using z), fun z => h8 (by simpa using z), fun z => h9 (by simpa using z)⟩
              · obtain rfl := h3 (haf ⟨3, .data⟩ (by simp) rfl)
                go_wp2
                rw [HRS1.out]
                exact ⟨e, _, _, _, _, _, _, _, _, _, _, rfl, rfl, fun z => h0 (by simpa using z), fun z => h1 (by simpa using z), fun z => h2 (by simpa using z), fun _ => rfl, fun _ => rfl, fun z => h5 (by simpa using z), fun z => h6 (by simpa using z), fun z => h7 (by simpa using z), fun z => h8 (by simpa using z), fun z => h9 (by simpa using z)⟩
              · obtain rfl := h4 (haf ⟨4, .guard⟩ (by simp) rfl)
                go_wp2
                rw [HRS1.out]
                exact ⟨e, _, _, _, _, _, _, _, _, _, _, rfl, rfl, fun z => h0 (by simpa using z), fun z => h1 (by simpa using z), fun z => h2 (by simpa using z), fun z => h3 (by simpa using z), fun _ => rfl, fun _ => rfl, fun z => h6 (by simpa using z), fun z => h7 (by simpa using z), fun z => h8 (by simpa using z), fun z => h9 (by simpa using z)⟩
              · obtain rfl := h4 (haf ⟨4, .guard⟩ (by simp) rfl)
                go_wp2
                rw [HRS1.out]
                exact ⟨e, _, _, _, _, _, _, _, _, _, _, rfl, rfl, fun z => h0 (by simpa using z), fun z => h1 (by simpa using z), fun z => h2 (by simpa using z), fun z => h3 (by simpa using z), fun _ => rfl, fun z => h5 (by simpa using z), fun _ => rfl, fun z => h7 (by simpa using z), fun z => h8 (by simpa using z), fun z => h9 (by simpa using z)⟩
              · obtain rfl := h4 (haf ⟨4, .guard⟩ (by simp) rfl)
                go_wp2
                rw [HRS1.out]
                exact ⟨e, _, _, _, _, _, _, _, _, _, _, rfl, rfl, fun z => h0 (by simpa using z), fun z => h1 (by simpa using z), fun z => h2 (by simpa using z), fun z => h3 (by simpa using z), fun _ => rfl, fun z => h5 (by simpa using z), fun z => h6 (by simpa using z), fun _ => rfl, fun z => h8 (by simpa using z), fun z => h9 (by simpa using z)⟩
              · obtain rfl := h4 (haf ⟨4, .guard⟩ (by simp) rfl)
                go_wp2
                rw [HRS1.out]
                exact ⟨e, _, _, _, _, _, _, _, _, _, _, rfl, rfl, fun z => h0 (by simpa using z), fun z => h1 (by simpa using z), fun z => h2 (by simpa using z), fun z => h3 (by simpa using z), fun _ => rfl, fun z => h5 (by simpa using z), fun z => h6 (by simpa using z), fun z => h7 (by simpa using z), fun _ => rfl, fun z => h9 (by simpa using z)⟩
              · obtain rfl := h4 (haf ⟨4, .guard⟩ (by simp) rfl)
                obtain rfl := h6 (haf ⟨6, .data⟩ (by simp) rfl)
                obtain rfl := h7 (haf ⟨7, .data⟩ (by simp) rfl)
                obtain rfl := h8 (haf ⟨8, .data⟩ (by simp) rfl)
                go_wp2_with (go_at_call 47; refine (HKn.out _ (Hbw.out.trans (e.b.mono (by omega))) s hs256).mono ?_; rintro r w4 ⟨vk, rfl, hOwn', hNew⟩; have hOwn := own_mono hOwn' hse; clear hOwn')
                rw [HRS1.out]
                exact ⟨⟨w4, e.b.trans (hNew.mono e.b.size)⟩, _, _, _, _, _, _, _, _, _, _, rfl, rfl, fun z => h0 (by simpa using z), fun z => h1 (by simpa using z), fun z => h2 (by simpa using z), fun z => h3 (by simpa using z), fun _ => rfl, fun z => h5 (by simpa using z), fun _ => rfl, fun _ => rfl, fun _ => rfl, fun _ => Lib.hid hOwn⟩
            · rintro L a' w' hL hInv
              rw [HRS1.out] at hInv
              obtain ⟨e, v33, v34, v35, v36, v37, v38, v39, v40, v41, v42, rfl, rfl, h0, h1, h2, h3, h4, h5, h6, h7, h8, h9⟩ := hInv
              obtain rfl := h0 (hL 0 (by omega))
              obtain rfl := h1 (hL 1 (by omega))
              obtain rfl := h2 (hL 2 (by omega))
              obtain rfl := h3 (hL 3 (by omega))
              obtain rfl := h4 (hL 4 (by omega))
              obtain rfl := h5 (hL 5 (by omega))
              obtain rfl := h6 (hL 6 (by omega))
              obtain rfl := h7 (hL 7 (by omega))
              obtain rfl := h8 (hL 8 (by omega))
              have hO42 := (h9 (hL 9 (by omega))).out
              have hse : wr.heap.size ≤ e.w.heap.size := e.b.size
              clear h9 hL HRS1
              have HbE := Lib.hid (Hb2.out.trans (e.b.mono hsz2))
              have Hbwe := Lib.hid (Hbw.out.trans (e.b.mono (by omega)))
              obtain ⟨A9, c9, rfl, hc91, hc92⟩ := own_cap hO42
              have HSlk := Lib.hid (sl_own (enc := encK) (fun _ => rfl) hO42)
              clear hO42
              have HAg := Lib.hid (refAgree_any q (coreS q l s) A9 c9 e.w.heap.size e.w HG.out.rise HG.out.fall HSlk.out (Nat.le_refl _) (coreS_bnd HG.out s) (by omega))
              obtain ⟨ag, hag⟩ : ∃ ag, ag = decide (Agree q.rise q.fall (coreS q l s)) := ⟨_, rfl⟩
              rw [← hag] at HAg
              have Hag := Lib.hid hag
              clear hag
              cases ag
              · have HN := Lib.hid (HNo.out Hag.out.symm)
                go_wp2_with (go_at_call 46; refine HAg.out.mono ?_; rintro r w4 ⟨rfl, hb4⟩)
                go_roundw
                case rel => exact ⟨s + 1, by omega, by go_num, by rw [HN.out.1], by rw [HN.out.2.1], by rw [HN.out.2.2], Lib.hid (HbE.out.trans (hb4.mono (by omega)))⟩
                case measure => simp [intOf]; omega
              · have HN := Lib.hid (HYes.out Hag.out.symm)
                go_wp2_with (go_at_call 46; refine HAg.out.mono ?_; rintro r w4 ⟨rfl, hb4⟩)
                go_roundw
                case rel => exact ⟨s + 1, by omega, by go_num, by rw [HN.out.1], by rw [HN.out.2.1], by rw [HN.out.2.2], Lib.hid (HbE.out.trans (hb4.mono (by omega)))⟩
                case measure => simp [intOf]; omega
        · obtain rfl : s = P := by omega
          have hltI2 : decide ((s : Int) < (s : Int)) = false := by simp
          have Hrs := Lib.hid (show S = if anyAt q l m (2 ^ q.gs.length) then (bitsF 8 (sureAt q l m (2 ^ q.gs.length)), bitsF 8 (perAt q l m (2 ^ q.gs.length))) else rsGo q l (q.bad.toNat - m) (m + 1) by
            rw [Hm.out, show q.bad.toNat + 1 - m = (q.bad.toNat - m) + 1 by omega]; rfl)
          rw [← HP.out] at Hrs
          have hswl := sureAt_lt q l m s
          have hpwl := perAt_lt q l m s hP256
          cases hany : anyAt q l m s
          · rw [hany] at Hrs
            have HR2 := Lib.hid (show S = rsGo q l (q.bad.toNat + 1 - (m + 1)) (m + 1) by
              rw [Hrs.out, show q.bad.toNat + 1 - (m + 1) = q.bad.toNat - m by omega]; rfl)
            go_wp2
            go_roundw
            case rel => exact ⟨m + 1, by omega, by go_num, HR2, Hbw⟩
            case measure => simp [intOf]; omega
          · rw [hany] at Hrs
            have HR2 := Lib.hid (show S = (bitsF 8 (sureAt q l m s), bitsF 8 (perAt q l m s)) by rw [Hrs.out]; rfl)
            revert HR2 hswl hpwl
            clear Hrs hany
            generalize sureAt q l m s = sw
            generalize perAt q l m s = pw
            intro hswl hpwl HR2
            have HwB := Lib.hid (HU.out _ Hbw.out)
            have hwb := HwB.out.size
            go_wp2_with (go_at_call 34; fail)
            refine (refGauges_any sw _ hswl).mono ?_
            rintro r w3 ⟨v1, rfl, ho1, hb3⟩
            have hs3 := hb3.size
            go_wp2_with (go_at_call 34; fail)
            refine (refGauges_any pw _ hpwl).mono ?_
            rintro r w4 ⟨v2, rfl, ho2, hb4⟩
            have HO1 := Lib.hid (own_below ho1 hb4)
            have HO2 := Lib.hid ho2
            have HB4 := Lib.hid (HwB.out.trans ((hb3.trans (hb4.mono hs3)).mono hwb))
            clear ho1 ho2 hb3 hb4
            go_wp2
            refine bodyPost_ret (v := .tuple #[v1, v2, .int .i64 0]) (by simp [results, Try.results15, go_sem]) rfl ?_
            exact ⟨_, _, rfl, by rw [HR2.out]; exact own_mono HO1.out hwb, by rw [HR2.out]; exact own_mono HO2.out (by omega), HB4.out⟩
    · obtain rfl : m = q.bad.toNat + 1 := by omega
      have hltI : decide (((q.bad.toNat + 1 : Nat) : Int) ≤ q.bad) = false := by simp; omega
      have HE := Lib.hid (show S = ([], []) by rw [Hm.out, Nat.sub_self]; rfl)
      go_wp2
      refine bodyPost_ret (v := .tuple #[.slice none 0 0, .slice none 0 0, .int .i64 0]) (by simp [results, Try.results15, go_sem]) rfl ?_
      exact ⟨_, _, rfl, by rw [HE.out]; exact World.ownsRow_nil _ _ _ _, by rw [HE.out]; exact World.ownsRow_nil _ _ _ _, HU.out wr Hb.out⟩
end Go.Proofs.Ytcgnpndfhhcplaa
