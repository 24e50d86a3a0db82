/-
  Which strings are names: package watch and its specification say the same of every string. Condition: the string's size is an int.
-/
import Derived.Test.YtcgnpndfhhcplaaGreatDoorLeaf
import Derived.BigGuardPart
namespace Go.Proofs.YtcgnpndfhhcplaaGreatDoor
open Go.RowKit W7
theorem all_take_succ (s : ByteArray) (k : Nat) (h : k < s.size) : (s.data.toList.take (k + 1)).all okc = ((s.data.toList.take k).all okc && okc s[k]) := by
  rw [List.take_succ_eq_append_getElem (by simpa using h), List.all_append]
  simp; rfl
theorem all_of_take (s : ByteArray) (k : Nat) (h : k < s.size) (hn : okc s[k] = false) : s.data.toList.all okc = false := by
  rw [List.all_eq_false]
  exact ⟨s[k], by simp [ByteArray.getElem_eq_getElem_data], by simp [hn]⟩
theorem head_at (s : ByteArray) (h : 0 < s.size) : s.data.toList.headD 0 = s[0] := by
  have h' : 0 < s.data.toList.length := by simpa using h
  rw [List.headD_eq_head?_getD, List.head?_eq_getElem?, List.getElem?_eq_getElem h']
  rfl
theorem empty_iff (s : ByteArray) : s.toList.isEmpty = decide (s.size = 0) := by
  rw [ByteArray.toList_eq]
  have : s.data.toList.length = s.size := Array.length_toList
  rw [← this]
  cases s.data.toList <;> simp
theorem nameB_empty (s : ByteArray) (h : s.size = 0) : nameB s = false := by simp [nameB, h]
theorem nameB_long (s : ByteArray) (h : 16 < s.size) : nameB s = false := by
  have : ¬ s.size ≤ 16 := by omega
  simp [nameB, this]
theorem nameB_first (s : ByteArray) (h : 0 < s.size) (hf : okFirst s[0] = false) : nameB s = false := by
  rw [nameB, head_at s h, hf]; simp
theorem nameB_all (s : ByteArray) (h0 : 0 < s.size) (h16 : s.size ≤ 16) (hf : okFirst s[0] = true) : nameB s = s.data.toList.all okc := by
  rw [nameB, head_at s h0, hf]; simp [h16]; intro _; omega
theorem okc_true_1 (c : UInt8) (h1 : (97 : Int) ≤ (c.toNat : Int)) (h2 : (c.toNat : Int) ≤ 122) : okc c = true := by simp [okc, h1, h2]
theorem okc_true_2 (c : UInt8) (h1 : (48 : Int) ≤ (c.toNat : Int)) (h2 : (c.toNat : Int) ≤ 57) : okc c = true := by simp [okc, h1, h2]
theorem okc_true_3 (c : UInt8) (h1 : (c.toNat : Int) = 45) : okc c = true := by simp [okc, h1]
theorem okc_false (c : UInt8) (h1 : (97 : Int) ≤ (c.toNat : Int) → (122 : Int) < (c.toNat : Int)) (h2 : (48 : Int) ≤ (c.toNat : Int) → (57 : Int) < (c.toNat : Int)) (h3 : (c.toNat : Int) ≠ 45) : okc c = false := by
  simp [okc]; omega
set_option maxHeartbeats 1000000 in
theorem isName_any (s : ByteArray) (hs : s.size ≤ maxLen) (w : World) :
    Calls Tryz.prog 66 #[.string s] w fun e w' => e = .returned (.bool (nameB s)) ∧ w = w' := by
  unfold maxLen at hs
  have He := Lib.hid (empty_iff s)
  by_cases h0 : s.size = 0
  · have he : s.toList.isEmpty = true := by rw [He.out, h0]; rfl
    have HN := Lib.hid (nameB_empty s h0)
    clear h0
    go_enter Tryz.func66, Tryz.ntmps66
    go_wp2
    go_ret
    exact ⟨by rw [HN.out]; rfl, rfl⟩
  have he : s.toList.isEmpty = false := by rw [He.out]; simpa using h0
  have h0' : 0 < s.size := by omega
  clear h0
  by_cases h16 : 16 < s.size
  · have HN := Lib.hid (nameB_long s h16)
    go_enter Tryz.func66, Tryz.ntmps66
    go_wp2
    go_ret
    exact ⟨by rw [HN.out]; rfl, rfl⟩
  by_cases hf1 : ((s[0]'(by omega)).toNat : Int) < 97
  · have HN := Lib.hid (nameB_first s h0' (by simp [okFirst]; omega))
    have hd : decide (((s[0]'(by omega)).toNat : Int) < 97) = true := by simpa using hf1
    go_enter Tryz.func66, Tryz.ntmps66
    go_wp2
    go_ret
    exact ⟨by rw [HN.out]; rfl, rfl⟩
  by_cases hf2 : (122 : Int) < ((s[0]'(by omega)).toNat : Int)
  · have HN := Lib.hid (nameB_first s h0' (by simp [okFirst]; omega))
    have hd0 : decide (((s[0]'(by omega)).toNat : Int) < 97) = false := by simpa using hf1
    have hd : decide ((122 : Int) < ((s[0]'(by omega)).toNat : Int)) = true := by simpa using hf2
    go_enter Tryz.func66, Tryz.ntmps66
    go_wp2
    go_ret
    exact ⟨by rw [HN.out]; rfl, rfl⟩
  have hd2 : decide ((16 : Int) < (s.size : Int)) = false := by simp; omega
  have hd0 : decide (((s[0]'(by omega)).toNat : Int) < 97) = false := by simpa using hf1
  have hd1 : decide ((122 : Int) < ((s[0]'(by omega)).toNat : Int)) = false := by simpa using hf2
  have HN := Lib.hid (nameB_all s h0' (by omega) (by simp [okFirst]; omega))
  go_enter Tryz.func66, Tryz.ntmps66
  go_wp2
  go_loop [24] (fun i => ∃ k : Nat, k ≤ s.size ∧ i = .int .i64 k ∧ Hid ((s.data.toList.take k).all okc = true)) (fun i => s.size - (intOf i).toNat)
  case atStart => exact ⟨0, by omega, rfl, Lib.hid rfl⟩
  case round =>
    obtain ⟨k, hk, rfl, Hall⟩ := hrel
    by_cases hlt : k < s.size
    · have HT := Lib.hid (all_take_succ s k hlt)
      have HF := Lib.hid (all_of_take s k hlt)
      by_cases h45 : (s[k].toNat : Int) = 45
      · have h45b : ((s[k].toNat : Int) == 45) = true := beq_iff_eq.2 h45
        have H45 := Lib.hid h45
        clear h45
        go_wp2
        all_goals
          go_round
          case rel => exact ⟨k + 1, by omega, by go_num, Lib.hid (by rw [HT.out, Hall.out, okc_true_3 _ H45.out]; rfl)⟩
          case measure => simp [intOf]; omega
      · have h45b : ((s[k].toNat : Int) == 45) = false := beq_eq_false_iff_ne.2 h45
        have H45 := Lib.hid h45
        clear h45
        go_wp2
        all_goals first
          | (go_ret; exact ⟨by rw [HN.out, HF.out (okc_false _ (by omega) (by omega) H45.out)]; rfl, rfl⟩)
          | (go_round
             case rel => exact ⟨k + 1, by omega, by go_num, Lib.hid (by rw [HT.out, Hall.out]; first | (rw [okc_true_1 _ (by omega) (by omega)]; rfl) | (rw [okc_true_2 _ (by omega) (by omega)]; rfl))⟩
             case measure => simp [intOf]; omega)
    · obtain rfl : k = s.size := by omega
      have HA := Lib.hid (show s.data.toList.all okc = true by rw [← Hall.out, List.take_of_length_le]; exact Nat.le_of_eq Array.length_toList)
      go_wp2
      go_ret
      exact ⟨by rw [HN.out, HA.out]; rfl, rfl⟩
end Go.Proofs.YtcgnpndfhhcplaaGreatDoor
