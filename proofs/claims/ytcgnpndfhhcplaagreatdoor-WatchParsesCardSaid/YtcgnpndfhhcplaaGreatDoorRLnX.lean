/-
  The specification's reader of a line: an empty word. Conditions: the parts are the call's own; texts are short.
  The specification's reader of a line: no line of a known form. Conditions: the parts are the call's own; texts are short.
-/
import Derived.Test.YtcgnpndfhhcplaaGreatDoorRLn0
namespace Go.Proofs.YtcgnpndfhhcplaaGreatDoor
open Go.RowKit W7
set_option maxHeartbeats 4000000 in
set_option maxRecDepth 100000 in
theorem refLineE_any (p : Plan) (last : ByteArray) (ws : List ByteArray) (B bw n c : Nat) (w : World) (hn : n = ws.length) (h1 : 1 ≤ n) (hO : OwnP B w p) (hB : B ≤ w.heap.size) (hW : WordsIn w bw ws) (hl : n ≤ 1000000) (i0 : Nat) (hi0 : i0 < n) (hbe : ∀ j (hj : j < ws.length), j < i0 → (ws[j].toList == []) = false) (he : ∀ hj : i0 < ws.length, (ws[i0].toList == []) = true) :
    Calls Tryz.prog 56 #[planV p, .slice (some ⟨bw, 0, none⟩) n c, .string last] w (LnRef p last ws B w) := by
  have HStep := Lib.hid (show StepBad p last ws 4 from step_empty (any_empty (i := i0) (by omega) (he (by omega))))
  have Hbe := Lib.hid hbe
  have He := Lib.hid he
  clear hbe he
  obtain ⟨nm, hnm⟩ : ∃ k, k = p.ms.length := ⟨_, rfl⟩
  obtain ⟨na, hna⟩ : ∃ k, k = p.al.length := ⟨_, rfl⟩
  have hs0 := entryW_size w p
  obtain ⟨W0, hW0⟩ : ∃ W0, W0 = entryW w p := ⟨_, rfl⟩
  rw [← hW0] at hs0
  have HB0 := Lib.hid (show Below w.heap.size w W0 by rw [hW0]; exact entryW_below w p)
  have HBox := Lib.hid (show BoxAt W0 w.heap.size p by rw [hW0]; exact entryW_box w p)
  have HZ := Lib.hid (show W0.heap[w.heap.size + 1]? = some zeroC by rw [hW0]; exact entryW_zero w p)
  have HWs := Lib.hid (hW.of HB0.out)
  have HW0 := Lib.hid hW0
  have HO := Lib.hid hO
  have HW := Lib.hid hW
  have Hn := Lib.hid hn
  have Hnm := Lib.hid hnm
  have Hna := Lib.hid hna
  have hbw := HWs.out.lt
  clear hO hW hn hW0 hnm hna
  unfold planV
  go_enter Tryz.func56, Tryz.ntmps56
  go_wp2
  go_loopw [8] (fun v8 wr => ∃ i : Nat, i ≤ n ∧ v8 = .int .i64 i ∧ Hid (W0 = wr) ∧ i ≤ i0) (fun v8 _ => n - (intOf v8).toNat)
  case atStart => exact ⟨0, by omega, rfl, Lib.hid HW0.out, by omega⟩
  case round =>
    obtain ⟨i, hi, rfl, hwr, hii⟩ := hrel
    obtain rfl := hwr.out
    have hin : i < ws.length := by have := Hn.out; omega
    have hlt : i < n := by omega
    have c0 := HWs.out.cell i hin
    by_cases hi2 : i < i0
    · have hse := Hbe.out i hin hi2
      generalize ws[i] = s at c0 hse
      go_wp2
      go_roundw
      case rel => exact ⟨i + 1, by omega, by go_num, Lib.hid trivial, by omega⟩
      case measure => simp [intOf]; omega
    · obtain rfl : i = i0 := by omega
      have hse := He.out hin
      generalize ws[i] = s at c0 hse
      obtain ⟨q0, q1, q2⟩ := HBox.out.cells
      rw [← Hnm.out] at q1
      rw [← Hna.out] at q2
      obtain ⟨e0, e1, e2⟩ := res_cells HZ.out
      have f0 : W0.frozen? ⟨w.heap.size + 1, 0, none⟩ = false := by simp [World.frozen?, HZ.out, zeroC]
      have f1 : W0.frozen? ⟨w.heap.size + 1, 1, none⟩ = false := by simp [World.frozen?, HZ.out, zeroC]
      have f2 : W0.frozen? ⟨w.heap.size + 1, 2, none⟩ = false := by simp [World.frozen?, HZ.out, zeroC]
      go_wp2
      obtain rfl := Hnm.out
      obtain rfl := Hna.out
      obtain ⟨Hr0, g0, g1, g2⟩ := res_plan (w := W0) (b := w.heap.size + 1) HZ.out p
      clear Hr0
      refine bodyPost_ret (v := .tuple #[planV p, .int .i64 4]) (by simp [results, Tryz.results56, go_sem, g0, g1, g2]; rfl) rfl ?_
      exact LnRef.bad (b := w.heap.size + 1) HB0.out hB (by omega) HStep.out
end Go.Proofs.YtcgnpndfhhcplaaGreatDoor
namespace Go.Proofs.YtcgnpndfhhcplaaGreatDoor
open Go.RowKit W7
/-- the tests that lead to no line -/
def NoLine (s0 last : ByteArray) (n nm na : Nat) : Prop :=
  ((s0.toList == [113, 117, 97, 110, 116, 105, 116, 121]) = false ∧ (s0.toList == [103, 97, 117, 103, 101]) = false ∧ (s0.toList == [109, 101, 97, 115, 117, 114, 101]) = false ∧ (s0.toList == [97, 108, 97, 114, 109]) = false) ∨
  ((s0.toList == [113, 117, 97, 110, 116, 105, 116, 121]) = true ∧ (s0.toList == [103, 97, 117, 103, 101]) = false ∧ (s0.toList == [109, 101, 97, 115, 117, 114, 101]) = false ∧ (s0.toList == [97, 108, 97, 114, 109]) = false ∧ ((n : Int) == 7) = false) ∨
  ((s0.toList == [113, 117, 97, 110, 116, 105, 116, 121]) = true ∧ (s0.toList == [103, 97, 117, 103, 101]) = false ∧ (s0.toList == [109, 101, 97, 115, 117, 114, 101]) = false ∧ (s0.toList == [97, 108, 97, 114, 109]) = false ∧ ((n : Int) == 7) = true ∧ ((nm : Int) == 0) = false) ∨
  ((s0.toList == [113, 117, 97, 110, 116, 105, 116, 121]) = true ∧ (s0.toList == [103, 97, 117, 103, 101]) = false ∧ (s0.toList == [109, 101, 97, 115, 117, 114, 101]) = false ∧ (s0.toList == [97, 108, 97, 114, 109]) = false ∧ ((n : Int) == 7) = true ∧ ((nm : Int) == 0) = true ∧ ((na : Int) == 0) = false) ∨
  ((s0.toList == [113, 117, 97, 110, 116, 105, 116, 121]) = false ∧ (s0.toList == [103, 97, 117, 103, 101]) = true ∧ (s0.toList == [109, 101, 97, 115, 117, 114, 101]) = false ∧ (s0.toList == [97, 108, 97, 114, 109]) = false ∧ ((n : Int) == 5) = false) ∨
  ((s0.toList == [113, 117, 97, 110, 116, 105, 116, 121]) = false ∧ (s0.toList == [103, 97, 117, 103, 101]) = true ∧ (s0.toList == [109, 101, 97, 115, 117, 114, 101]) = false ∧ (s0.toList == [97, 108, 97, 114, 109]) = false ∧ ((n : Int) == 5) = true ∧ (last.toList == [113, 117, 97, 110, 116, 105, 116, 121]) = false ∧ (last.toList == [103, 97, 117, 103, 101]) = false) ∨
  ((s0.toList == [113, 117, 97, 110, 116, 105, 116, 121]) = false ∧ (s0.toList == [103, 97, 117, 103, 101]) = false ∧ (s0.toList == [109, 101, 97, 115, 117, 114, 101]) = true ∧ (s0.toList == [97, 108, 97, 114, 109]) = false ∧ ((n : Int) == 6) = false) ∨
  ((s0.toList == [113, 117, 97, 110, 116, 105, 116, 121]) = false ∧ (s0.toList == [103, 97, 117, 103, 101]) = false ∧ (s0.toList == [109, 101, 97, 115, 117, 114, 101]) = true ∧ (s0.toList == [97, 108, 97, 114, 109]) = false ∧ ((n : Int) == 6) = true ∧ ((na : Int) == 0) = false) ∨
  ((s0.toList == [113, 117, 97, 110, 116, 105, 116, 121]) = false ∧ (s0.toList == [103, 97, 117, 103, 101]) = false ∧ (s0.toList == [109, 101, 97, 115, 117, 114, 101]) = false ∧ (s0.toList == [97, 108, 97, 114, 109]) = true ∧ ((n : Int) == 5) = false)
set_option maxHeartbeats 8000000 in
set_option maxRecDepth 100000 in
theorem refLineX_any (p : Plan) (last : ByteArray) (ws : List ByteArray) (B bw n c : Nat) (w : World) (hn : n = ws.length) (h1 : 1 ≤ n) (hO : OwnP B w p) (hB : B ≤ w.heap.size) (hW : WordsIn w bw ws) (hl : n ≤ 1000000) (hne : ∀ j (hj : j < ws.length), (ws[j].toList == []) = false) (hx : ∀ (hj : 0 < ws.length) (nm na : Nat), nm = p.ms.length → na = p.al.length → NoLine ws[0] last n nm na) (hs : StepBad p last ws 4) :
    Calls Tryz.prog 56 #[planV p, .slice (some ⟨bw, 0, none⟩) n c, .string last] w (LnRef p last ws B w) := by
  have HStep := Lib.hid hs
  have Hne := Lib.hid hne
  have HX := Lib.hid hx
  clear hne hs hx
  obtain ⟨nm, hnm⟩ : ∃ k, k = p.ms.length := ⟨_, rfl⟩
  obtain ⟨na, hna⟩ : ∃ k, k = p.al.length := ⟨_, rfl⟩
  have hs0 := entryW_size w p
  obtain ⟨W0, hW0⟩ : ∃ W0, W0 = entryW w p := ⟨_, rfl⟩
  rw [← hW0] at hs0
  have HB0 := Lib.hid (show Below w.heap.size w W0 by rw [hW0]; exact entryW_below w p)
  have HBox := Lib.hid (show BoxAt W0 w.heap.size p by rw [hW0]; exact entryW_box w p)
  have HZ := Lib.hid (show W0.heap[w.heap.size + 1]? = some zeroC by rw [hW0]; exact entryW_zero w p)
  have HWs := Lib.hid (hW.of HB0.out)
  have HW0 := Lib.hid hW0
  have HO := Lib.hid hO
  have HW := Lib.hid hW
  have Hn := Lib.hid hn
  have Hnm := Lib.hid hnm
  have Hna := Lib.hid hna
  have hbw := HWs.out.lt
  clear hO hW hn hW0 hnm hna
  unfold planV
  go_enter Tryz.func56, Tryz.ntmps56
  go_wp2
  go_loopw [8] (fun v8 wr => ∃ i : Nat, i ≤ n ∧ v8 = .int .i64 i ∧ Hid (W0 = wr)) (fun v8 _ => n - (intOf v8).toNat)
  case atStart => exact ⟨0, by omega, rfl, Lib.hid HW0.out⟩
  case round =>
    obtain ⟨i, hi, rfl, hwr⟩ := hrel
    obtain rfl := hwr.out
    by_cases hlt : i < n
    · have hin : i < ws.length := by have := Hn.out; omega
      have c0 := HWs.out.cell i hin
      have hse := Hne.out i hin
      generalize ws[i] = s at c0 hse
      go_wp2
      go_roundw
      case rel => exact ⟨i + 1, by omega, by go_num, Lib.hid trivial⟩
      case measure => simp [intOf]; omega
    · have hin : 0 < ws.length := by have := Hn.out; omega
      have c0 := HWs.out.cell 0 hin
      have hx := HX.out hin nm na Hnm.out Hna.out
      generalize ws[0] = s0 at c0 hx
      obtain ⟨q0, q1, q2⟩ := HBox.out.cells
      rw [← Hnm.out] at q1
      rw [← Hna.out] at q2
      obtain ⟨e0, e1, e2⟩ := res_cells HZ.out
      have f0 : W0.frozen? ⟨w.heap.size + 1, 0, none⟩ = false := by simp [World.frozen?, HZ.out, zeroC]
      have f1 : W0.frozen? ⟨w.heap.size + 1, 1, none⟩ = false := by simp [World.frozen?, HZ.out, zeroC]
      have f2 : W0.frozen? ⟨w.heap.size + 1, 2, none⟩ = false := by simp [World.frozen?, HZ.out, zeroC]
      rcases hx with ⟨x0, x1, x2, x3⟩ | ⟨x0, x1, x2, x3, x4⟩ | ⟨x0, x1, x2, x3, x4, x5⟩ | ⟨x0, x1, x2, x3, x4, x5, x6⟩ | ⟨x0, x1, x2, x3, x4⟩ | ⟨x0, x1, x2, x3, x4, x5, x6⟩ | ⟨x0, x1, x2, x3, x4⟩ | ⟨x0, x1, x2, x3, x4, x5⟩ | ⟨x0, x1, x2, x3, x4⟩
      all_goals
        go_wp2
        obtain rfl := Hnm.out
        obtain rfl := Hna.out
        obtain ⟨Hr0, g0, g1, g2⟩ := res_plan (w := W0) (b := w.heap.size + 1) HZ.out p
        clear Hr0
        refine bodyPost_ret (v := .tuple #[planV p, .int .i64 4]) (by simp [results, Tryz.results56, go_sem, g0, g1, g2]; rfl) rfl ?_
        exact LnRef.bad (b := w.heap.size + 1) HB0.out hB (by omega) HStep.out
end Go.Proofs.YtcgnpndfhhcplaaGreatDoor
