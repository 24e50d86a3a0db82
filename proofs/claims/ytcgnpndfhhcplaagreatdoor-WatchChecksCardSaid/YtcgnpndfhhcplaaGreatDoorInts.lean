/-
  slices.Index, Contains and Clone over ints. Condition: how the slice lies in memory.
-/
import Derived.Test.YtcgnpndfhhcplaaGreatDoorLeaf
namespace Go.Proofs.YtcgnpndfhhcplaaGreatDoor
open Go.RowKit W7
set_option maxHeartbeats 1000000 in
theorem indexInt_any (xs : List Int) (x : Int) (n : Nat) (hn : n = xs.length) (A : Option Addr) (c B : Nat) (w : World) (hA : Sl w B 1 encInt1 A xs) (_hB : B ≤ w.heap.size) (hl : xs.length ≤ 1000000000) :
    Calls Tryz.prog 116 #[.slice A n c, .int .i64 x] w fun e w' =>
      e = .returned (.int .i64 (idxB (fun y => x == y) xs)) ∧ w = w' := by
  subst hn
  have HA := Lib.hid hA
  clear hA
  go_enter Tryz.func116, Tryz.ntmps116
  go_wp2
  go_loop [8] (fun i => ∃ k : Nat, k ≤ xs.length ∧ i = .int .i64 k ∧ Hid ((xs.take k).any (fun y => x == y) = false)) (fun i => xs.length - (intOf i).toNat)
  case atStart => exact ⟨0, by omega, rfl, Lib.hid (by simp)⟩
  case round =>
    obtain ⟨k, hk, rfl, Hno⟩ := hrel
    by_cases hlt : k < xs.length
    · obtain ⟨b, off, rfl, hbB, hcells⟩ := HA.out (by omega)
      have c0 : w.cell? ⟨b, off + k, none⟩ = some (.int .i64 xs[k]) := by
        have := hcells k hlt 0 _ rfl
        simpa using this
      clear hcells
      have Hs := Lib.hid (any_take_succ (p := fun y => x == y) hlt Hno.out)
      have Hh := Lib.hid (idxB_hit (p := fun y => x == y) hlt Hno.out)
      cases hp : (x == xs[k])
      · go_wp2
        go_round
        case rel => exact ⟨k + 1, by omega, by go_num, Lib.hid (Hs.out (by assumption))⟩
        case measure => simp [intOf]; omega
      · go_wp2
        go_ret
        exact ⟨ret_int (Hh.out (by assumption)).symm, rfl⟩
    · have HN := Lib.hid (idxB_none (p := fun y => x == y) (xs := xs) (by rw [← Hno.out, List.take_of_length_le (by omega)]))
      go_wp2
      go_ret
      exact ⟨ret_int HN.out.symm, rfl⟩
theorem containsInt_any (xs : List Int) (x : Int) (n : Nat) (hn : n = xs.length) (A : Option Addr) (c B : Nat) (w : World) (hA : Sl w B 1 encInt1 A xs) (_hB : B ≤ w.heap.size) (hl : xs.length ≤ 1000000000) :
    Calls Tryz.prog 95 #[.slice A n c, .int .i64 x] w fun e w' =>
      e = .returned (.bool (xs.any fun y => x == y)) ∧ w = w' := by
  have H := Lib.hid (indexInt_any xs x n hn A c B w hA _hB hl)
  clear hA hn
  go_enter Tryz.func95, Tryz.ntmps95
  go_wp2_with (go_at_call 116; refine H.out.mono ?_; rintro e w1 ⟨rfl, rfl⟩)
  go_ret
  exact ⟨ret_bool idxB_any, rfl⟩
end Go.Proofs.YtcgnpndfhhcplaaGreatDoor
