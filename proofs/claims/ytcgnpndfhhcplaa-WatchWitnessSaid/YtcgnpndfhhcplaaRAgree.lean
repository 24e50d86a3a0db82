/-
  The specification's agree: is there a history that is in all of what is known. Conditions: bounds.
-/
import Derived.Test.YtcgnpndfhhcplaaRBits
import Derived.Test.YtcgnpndfhhcplaaInside
namespace Go.Proofs.Ytcgnpndfhhcplaa
open Go.RowKit W7
attribute [local go_sem] Oper.semAt_some
def badP (r f : Int) (a b : K) : Bool := decide (min (a.hi + dn r f b.t a.t) b.hi < max (a.lo - dn r f a.t b.t) b.lo)
theorem agree_all {r f : Int} (hr : 0 ≤ r) (hf : 0 ≤ f) (L : List K) : decide (Agree r f L) = L.all fun a => L.all fun b => !badP r f a b := by
  cases h : L.all fun a => L.all fun b => !badP r f a b
  · simp only [decide_eq_false_iff_not]
    intro hag
    rw [List.all_eq_false] at h
    obtain ⟨a, ha, h⟩ := h
    simp only [Bool.not_eq_true] at h
    rw [List.all_eq_false] at h
    obtain ⟨b, hb, h⟩ := h
    simp [badP] at h
    have h1 := hag a ha b hb
    have h2 := hag b hb a ha
    have h3 := hag a ha a ha
    have h4 := hag b hb b hb
    rw [dn_self] at h3 h4
    have d1 := dn_nonneg r f a.t b.t hr hf
    have d2 := dn_nonneg r f b.t a.t hr hf
    omega
  · simp only [decide_eq_true_eq]
    intro a ha b hb
    rw [List.all_eq_true] at h
    have h1 := h a ha
    rw [List.all_eq_true] at h1
    have h2 := h1 b hb
    simp [badP] at h2
    omega
set_option maxHeartbeats 1000000 in
set_option maxRecDepth 100000 in
theorem refAgree_any (q : Quantity) (L : List K) (A : Option Addr) (c B : Nat) (w : World) (hr : 0 ≤ q.rise ∧ q.rise ≤ 10000) (hf : 0 ≤ q.fall ∧ q.fall ≤ 10000) (hA : Sl w B 3 encK A L) (hB : B ≤ w.heap.size) (hL : ∀ x ∈ L, BndK 1000000000000 x) (hl : L.length ≤ 1000) :
    Calls Try.prog 46 #[.agg #[.string q.name, .int .i64 q.lo, .int .i64 q.hi, .int .i64 q.rise, .int .i64 q.fall, .int .i64 q.bad, .slice q.gA q.gs.length q.gc], .slice A L.length c] w fun e w' =>
      e = .returned (.bool (decide (Agree q.rise q.fall L))) ∧ Below w.heap.size w w' := by
  obtain ⟨ev, hev⟩ : ∃ ev, ev = decide (Agree q.rise q.fall L) := ⟨_, rfl⟩
  rw [← hev]
  have HV := Lib.hid (hev.trans (agree_all hr.1 hf.1 L))
  clear hev
  obtain ⟨W0, hW0⟩ : ∃ W0, W0 = w.alloc (.cells #[.string q.name, .int .i64 q.lo, .int .i64 q.hi, .int .i64 q.rise, .int .i64 q.fall, .int .i64 q.bad, .slice q.gA q.gs.length q.gc] 26) := ⟨_, rfl⟩
  have HB0 := Lib.hid (show Below w.heap.size w W0 by rw [hW0]; exact (Below.refl _ _).alloc (Nat.le_refl _) _)
  have hs0 : w.heap.size < W0.heap.size := by rw [hW0]; simp
  have HQ0 := Lib.hid (show ∀ (X : World), Below W0.heap.size W0 X → ∀ j v, (#[.string q.name, .int .i64 q.lo, .int .i64 q.hi, .int .i64 q.rise, .int .i64 q.fall, .int .i64 q.bad, .slice q.gA q.gs.length q.gc] : Array Value)[j]? = some v → X.cell? ⟨w.heap.size, j, none⟩ = some v from fun X hX j v hv =>
    (hX.cell (p := ⟨w.heap.size, j, none⟩) hs0).trans (by rw [hW0]; exact alloc_cell hv))
  have HA := Lib.hid hA
  have HL := Lib.hid hL
  have Hr := Lib.hid hr
  have Hf := Lib.hid hf
  have HW0 := Lib.hid hW0
  clear hW0 hA hL hr hf
  go_enter Try.func46, Try.ntmps46
  go_wp2
  rw [← HW0.out]
  go_loopw [5] (fun v wr => ∃ i : Nat, i ≤ L.length ∧ v = .int .i64 i ∧ Hid ((L.take i).all (fun a => L.all fun b => !badP q.rise q.fall a b) = true) ∧ Hid (Below W0.heap.size W0 wr)) (fun v _ => L.length - (intOf v).toNat)
  case atStart => exact ⟨0, by omega, rfl, Lib.hid (by simp), Lib.hid (Below.refl _ _)⟩
  case round =>
    obtain ⟨i, hi, rfl, Hall, Hb⟩ := hrel
    have hsz := Hb.out.size
    have Hwr := Lib.hid (HB0.out.trans (Hb.out.mono (Nat.le_of_lt hs0)))
    have hwr : w.heap.size < wr.heap.size := by omega
    by_cases hlt : i < L.length
    · obtain ⟨b, off, rfl, hbB, hcells⟩ := HA.out (by omega)
      have hbw : b < w.heap.size := by omega
      have HC := Lib.hid (fun (X : World) (hX : Below w.heap.size w X) (k : Nat) (hk : k < L.length) (j : Nat) (v : Value) (hv : (encK L[k])[j]? = some v) => (hX.cell (p := ⟨b, off + k * 3 + j, none⟩) hbw).trans (hcells k hk j v hv))
      clear hcells
      have HS := Lib.hid (all_takeS (fun a => L.all fun b => !badP q.rise q.fall a b) L i hlt)
      have HAi := Lib.hid (fun (h : (L.all fun b => !badP q.rise q.fall L[i] b) = false) => show (L.all fun a => L.all fun b => !badP q.rise q.fall a b) = false from by
        rw [List.all_eq_false]; exact ⟨L[i], List.getElem_mem _, by rw [h]; decide⟩)
      go_wp2
      go_loopw [6] (fun v wr2 => ∃ k : Nat, k ≤ L.length ∧ v = .int .i64 k ∧ Hid ((L.take k).all (fun b => !badP q.rise q.fall L[i] b) = true) ∧ Hid (Below wr.heap.size wr wr2)) (fun v _ => L.length - (intOf v).toNat)
      case atStart => exact ⟨0, by omega, rfl, Lib.hid (by simp), Lib.hid (Below.refl _ _)⟩
      case round =>
        obtain ⟨k, hk, rfl, Hall2, Hb2⟩ := hrel
        have hsz2 := Hb2.out.size
        have Hw0 := Lib.hid (Hb.out.trans (Hb2.out.mono hsz))
        have Hw2 := Lib.hid (Hwr.out.trans (Hb2.out.mono (Nat.le_of_lt hwr)))
        by_cases hlt2 : k < L.length
        · have hwr2 : w.heap.size < wr.heap.size := by omega
          have hbr : b < wr.heap.size := by omega
          have m0 := later_cell (show wr.cell? ⟨b, off + i * 3, none⟩ = some (.int .i64 L[i].t) from HC.out wr Hw2.out i hlt 0 _ rfl) hbr
          have m1 := later_cell (HC.out wr Hw2.out i hlt 1 _ rfl) hbr
          have m2 := later_cell (HC.out wr Hw2.out i hlt 2 _ rfl) hbr
          have k0 := later_cell (show wr.cell? ⟨b, off + k * 3, none⟩ = some (.int .i64 L[k].t) from HC.out wr Hw2.out k hlt2 0 _ rfl) hbr
          have k1 := later_cell (HC.out wr Hw2.out k hlt2 1 _ rfl) hbr
          have k2 := later_cell (HC.out wr Hw2.out k hlt2 2 _ rfl) hbr
          have n0 := later_cell (HQ0.out wr Hw0.out 0 _ rfl) hwr2
          have n1 := later_cell (HQ0.out wr Hw0.out 1 _ rfl) hwr2
          have n2 := later_cell (HQ0.out wr Hw0.out 2 _ rfl) hwr2
          have n3 := later_cell (HQ0.out wr Hw0.out 3 _ rfl) hwr2
          have n4 := later_cell (HQ0.out wr Hw0.out 4 _ rfl) hwr2
          have n5 := later_cell (HQ0.out wr Hw0.out 5 _ rfl) hwr2
          have n6 := later_cell (HQ0.out wr Hw0.out 6 _ rfl) hwr2
          have Bi := Lib.hid (HL.out L[i] (List.getElem_mem hlt))
          have Bk := Lib.hid (HL.out L[k] (List.getElem_mem hlt2))
          have HF := Lib.hid (fun (X : World) => refFrom_any q L[i] L[k].t X Hr.out Hf.out (by have := Bk.out; unfold BndK at this; omega) (by have := Bi.out; unfold BndK at this; omega) (by have := Bi.out; unfold BndK at this; omega) (by have := Bi.out; unfold BndK at this; omega))
          obtain ⟨F0, hF0⟩ : ∃ x, x = L[i].lo - dn q.rise q.fall L[i].t L[k].t := ⟨_, rfl⟩
          obtain ⟨F1, hF1⟩ : ∃ x, x = L[i].hi + dn q.rise q.fall L[k].t L[i].t := ⟨_, rfl⟩
          obtain ⟨G0, hG0⟩ : ∃ x, x = max F0 L[k].lo := ⟨_, rfl⟩
          obtain ⟨G1, hG1⟩ : ∃ x, x = min F1 L[k].hi := ⟨_, rfl⟩
          have HM := Lib.hid (fun (X : World) => refMeet_any F0 F1 L[k].lo L[k].hi X)
          rw [← hF0, ← hF1] at HF
          rw [← hG0, ← hG1] at HM
          have HBd := Lib.hid (show badP q.rise q.fall L[i] L[k] = decide (G1 < G0) by rw [hG1, hG0, hF0, hF1]; rfl)
          clear hF0 hF1 hG0 hG1
          have HS2 := Lib.hid (all_takeS (fun b => !badP q.rise q.fall L[i] b) L k hlt2)
          have HAk := Lib.hid (fun (h : badP q.rise q.fall L[i] L[k] = true) => show (L.all fun b => !badP q.rise q.fall L[i] b) = false from by
            rw [List.all_eq_false]; exact ⟨L[k], List.getElem_mem _, by rw [h]; decide⟩)
          have hlt2I : (k : Int) < (L.length : Int) := by omega
          have hltI : (i : Int) < (L.length : Int) := by omega
          go_wp2
          refine wp_region_later (by kernel_rfl) (by kernel_rfl) ?_
          repeat (any_goals (first | go_big_quiet_step ((first | (go_at_call 80; exact later_call _ (HF.out _)) | (go_at_call 79; exact later_call _ (HM.out _)) | (go_at_call 78; exact later_call _ (refEmpty_any _ _ _)))) | quiet_step ((first | (go_at_call 80; exact later_call _ (HF.out _)) | (go_at_call 79; exact later_call _ (HM.out _)) | (go_at_call 78; exact later_call _ (refEmpty_any _ _ _))))))
          refine wpQuiet_nil ?_
          rintro w' ⟨e, rfl⟩
          have HwE := Lib.hid (Hb2.out.trans (e.b.mono hsz2))
          cases hd : decide (G1 < G0)
          · have HR := Lib.hid (show ((L.take (k + 1)).all fun b => !badP q.rise q.fall L[i] b) = true by rw [HS2.out, Hall2.out, HBd.out, hd]; rfl)
            go_wp2
            go_roundw
            case rel => exact ⟨k + 1, by omega, by go_num, HR, HwE⟩
            case measure => simp [intOf]; omega
          · have HR := Lib.hid (show ev = false by rw [HV.out]; exact HAi.out (HAk.out (HBd.out.trans hd)))
            go_wp2
            go_ret
            exact ⟨ret_bool HR.out.symm, Hwr.out.trans (HwE.out.mono (by omega))⟩
        · obtain rfl : k = L.length := by omega
          have HR := Lib.hid (show ((L.take (i + 1)).all fun a => L.all fun b => !badP q.rise q.fall a b) = true by rw [HS.out, Hall.out]; rw [List.take_length] at Hall2; rw [Hall2.out]; rfl)
          go_wp2
          go_roundw
          case rel => exact ⟨i + 1, by omega, by go_num, HR, Hw0⟩
          case measure => simp [intOf]; omega
    · obtain rfl : i = L.length := by omega
      have HR := Lib.hid (show ev = true by rw [HV.out]; rw [List.take_length] at Hall; exact Hall.out)
      go_wp2
      go_ret
      exact ⟨ret_bool HR.out.symm, Hwr.out⟩
end Go.Proofs.Ytcgnpndfhhcplaa
