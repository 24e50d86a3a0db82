/-
  The specification's sets of gauges, bit by bit: out, size. Conditions: bounds.
-/
import Derived.Test.YtcgnpndfhhcplaaRSet
import Derived.Test.YtcgnpndfhhcplaaRRead
import Derived.Laws.BitsLemmas
namespace Go.Proofs.Ytcgnpndfhhcplaa
open Go.RowKit W7
theorem bit_one (s g : Nat) (hs : s < 256) : bits .and .i64 ((s : Int) / 2 ^ g) 1 = ((s / 2 ^ g % 2 : Nat) : Int) := by
  have h1 : ((s : Int) / 2 ^ g) = ((s / 2 ^ g : Nat) : Int) := by simp
  have h2 : s / 2 ^ g < 2 ^ 8 := Nat.lt_of_le_of_lt (Nat.div_le_self _ _) hs
  rw [h1]
  have := (bits_nat .i64 8 (by decide) (fun n h0 h3 => IntWalk.i64_in _ (by omega)) (s / 2 ^ g) 1 h2 (by decide)).1
  rw [Nat.and_one_is_mod] at this
  exact this
theorem bit_eq (s g : Nat) (hs : s < 256) : (bits .and .i64 ((s : Int) / 2 ^ g) 1 == 1) = s.testBit g := by
  rw [bit_one s g hs, Nat.testBit_eq_decide_div_mod_eq]
  by_cases h : s / 2 ^ g % 2 = 1
  · simp [h]
  · have : s / 2 ^ g % 2 = 0 := by omega
    simp [this]
theorem refOut_any (s g : Nat) (w : World) (hs : s < 256) (hg : g ≤ 64) : Calls Try.prog 59 #[.int .i64 s, .int .i64 g] w fun e w' => e = .returned (.bool (s.testBit g)) ∧ w' = w := by
  have HB := Lib.hid (bit_eq s g hs)
  go_enter Try.func59, Try.ntmps59
  go_wp2
  go_ret
  exact ⟨ret_bool HB.out, rfl⟩
def szAt (s : Nat) : Nat → Nat
  | 0 => 0
  | n + 1 => szAt s n + s / 2 ^ n % 2
theorem szAt_le (s n : Nat) : szAt s n ≤ n := by
  induction n with
  | zero => simp [szAt]
  | succ n ih => unfold szAt; omega
theorem szAt_big {s n : Nat} (hs : s < 2 ^ n) : ∀ d, szAt s (n + d) = szAt s n
  | 0 => rfl
  | d + 1 => by
    have : s / 2 ^ (n + d) = 0 := Nat.div_eq_of_lt (Nat.lt_of_lt_of_le hs (Nat.pow_le_pow_right (by decide) (by omega)))
    rw [← Nat.add_assoc, szAt, this, szAt_big hs d]; rfl
theorem bitsF_len (s n : Nat) : (bitsF n s).length = szAt s n := by
  induction n with
  | zero => rfl
  | succ n ih =>
    unfold bitsF at ih ⊢
    rw [nums_snoc, List.filter_append, List.length_append, ih, szAt]
    have hb : s.testBit n = decide (s / 2 ^ n % 2 = 1) := Nat.testBit_eq_decide_div_mod_eq
    by_cases h : s / 2 ^ n % 2 = 1
    · simp [hb, h]
    · have : s / 2 ^ n % 2 = 0 := by omega
      simp [hb, this]
theorem refSize_any (s n : Nat) (w : World) (hn : n ≤ 8) (hs : s < 2 ^ n) : Calls Try.prog 45 #[.int .i64 s] w fun e w' => e = .returned (.int .i64 ((bitsF n s).length : Nat)) ∧ w' = w := by
  have hs8 : s < 256 := Nat.lt_of_lt_of_le hs (show 2 ^ n ≤ 2 ^ 8 from Nat.pow_le_pow_right (by decide) hn)
  obtain ⟨ev, hev⟩ : ∃ ev : Int, ev = ((bitsF n s).length : Nat) := ⟨_, rfl⟩
  rw [← hev]
  have HV := Lib.hid (show ev = (szAt s 8 : Nat) by
    rw [hev, bitsF_len]
    obtain ⟨d, hd⟩ : ∃ d, 8 = n + d := ⟨8 - n, by omega⟩
    rw [hd, szAt_big hs d])
  clear hev
  go_enter Try.func45, Try.ntmps45
  go_wp2
  go_loopw [3, 4] (fun v3 v4 wr => ∃ i : Nat, i ≤ 8 ∧ v4 = .int .i64 i ∧ v3 = .int .i64 (szAt s i : Nat) ∧ wr = w) (fun _ v4 _ => 8 - (intOf v4).toNat)
  case atStart => exact ⟨0, by omega, rfl, rfl, rfl⟩
  case round =>
    obtain ⟨i, hi, rfl, rfl, rfl⟩ := hrel
    have hle := szAt_le s i
    by_cases hlt : i < 8
    · have hlI : decide ((i : Int) < 8) = true := by simp; omega
      have HS := Lib.hid (show szAt s (i + 1) = szAt s i + s / 2 ^ i % 2 from rfl)
      have HB := Lib.hid (bit_one s i hs8)
      obtain ⟨b, hb⟩ : ∃ b, b = s / 2 ^ i % 2 := ⟨_, rfl⟩
      have hb2 : b < 2 := by omega
      rw [← hb] at HS HB
      have hB := HB.out
      clear hb
      generalize szAt s i = z at hle HS
      go_wp2
      go_roundw
      case rel => exact ⟨i + 1, by omega, by go_num, by rw [HS.out]; simp, by first | rfl | trivial⟩
      case measure => simp [intOf]; omega
    · obtain rfl : i = 8 := by omega
      go_wp2
      go_ret
      exact ⟨ret_int HV.out.symm, rfl⟩
end Go.Proofs.Ytcgnpndfhhcplaa
