/-
  The specification's Number, Numbers, Parts, Lines: the number of a text, the numbers of words, what stands between separators, the lines. Conditions: texts are short.
  The specification's Numbers, Parts, Lines: the numbers of words, what stands between separators, the lines of a text. Conditions: texts are short; how the words lie in memory.
  The specification's reader of a line: where its words and its plan lie, how it ends. Conditions: the parts are the call's own; texts are short.
  The specification's Lines: those of a text. Conditions: the text is short.
-/
import Derived.Test.YtcgnpndfhhcplaaGreatDoorLines
import Derived.Deep.CutRange
import Derived.BigGuardPart
import Derived.Test.YtcgnpndfhhcplaaGreatDoorRead
namespace Go.Proofs.YtcgnpndfhhcplaaGreatDoor
open Go.RowKit W7
attribute [local go_sem] Oper.semAt_some
theorem head_at' (d : ByteArray) (h : 0 < d.size) : d.data.toList.head? = some d[0] := by
  have h' : 0 < d.data.toList.length := by simpa using h
  rw [List.head?_eq_getElem?, List.getElem?_eq_getElem h']
  rfl
theorem byte_eq {c : UInt8} {n : Nat} (h : ((c.toNat : Int) == (n : Int)) = true) : c = UInt8.ofNat n := by
  have : c.toNat = n := by have := eq_of_beq h; omega
  rw [← this]; simp
theorem byte_ne {c : UInt8} {n : Nat} (h : ((c.toNat : Int) == (n : Int)) = false) (hn : n < 256) : c ≠ UInt8.ofNat n := by
  intro he
  subst he
  rw [UInt8.toNat_ofNat_of_lt' (by show n < 256; exact hn)] at h
  simp at h
theorem valD_take_succ (d : ByteArray) (k : Nat) (h : k < d.size) : valD (d.data.toList.take (k + 1)) = 10 * valD (d.data.toList.take k) + (d[k].toNat - 48) := by
  rw [List.take_succ_eq_append_getElem (by simpa using h), valD_snoc]
  simp; rfl
theorem all_take_succ' (d : ByteArray) (k : Nat) (h : k < d.size) : (d.data.toList.take (k + 1)).all isDig = ((d.data.toList.take k).all isDig && isDig d[k]) := by
  rw [List.take_succ_eq_append_getElem (by simpa using h), List.all_append]
  simp; rfl
theorem mem_at (d : ByteArray) (k : Nat) (h : k < d.size) : d[k] ∈ d.data.toList := by
  have : d[k] = d.data.toList[k]'(by simpa using h) := by simp [ByteArray.getElem_eq_getElem_data]
  rw [this]
  exact List.getElem_mem _
theorem ext_tail (s : ByteArray) : (s.extract 1 s.size).data.toList = s.data.toList.tail := by
  rw [Lib.extract_to_end]
  simp
set_option maxHeartbeats 4000000 in
set_option maxRecDepth 100000 in
theorem refNumber_any (s : ByteArray) (w : World) (hs : s.size ≤ 1000000) :
    Calls Tryz.prog 111 #[.string s] w fun e w' => e = .returned (.tuple #[.int .i64 ((numB s.data.toList).getD 0), .bool (numB s.data.toList).isSome]) ∧ w = w' := by
  by_cases hp : 0 < s.size
  rotate_left
  · have hpb : decide ((0 : Int) < (s.size : Int)) = false := decide_eq_false (by omega)
    have hl0 : s.data.toList = [] := List.length_eq_zero_iff.1 (by rw [show s.data.toList.length = s.size from Array.length_toList]; omega)
    have HN := Lib.hid (show numB s.data.toList = none by rw [hl0]; rfl)
    clear hl0
    have hz0 : s.size = 0 := by omega
    have he : ((s.size : Int) == 0) = true := by rw [hz0]; rfl
    clear hp hz0
    go_enter Tryz.func111, Tryz.ntmps111
    go_wp2
    refine bodyPost_ret (v := .tuple #[.int .i64 0, .bool false]) (by simp [results, Tryz.results111, go_sem]) rfl ?_
    exact ⟨by rw [HN.out]; rfl, rfl⟩
  have hpb : decide ((0 : Int) < (s.size : Int)) = true := decide_eq_true (by omega)
  have Hhs := Lib.hid (head_at' s hp)
  cases hm : (((s[0]'(by omega)).toNat : Int) == 45)
  · obtain ⟨d, hd⟩ : ∃ d, d = s := ⟨_, rfl⟩
    have HNB := Lib.hid (numB_of (l := s.data.toList) (d := d.data.toList) (b := false) (.inr ⟨rfl, by rw [hd], by rw [Hhs.out]; intro h; exact byte_ne (n := 45) hm (by decide) (Option.some.inj h)⟩))
    subst hd
    have hdl : d.data.toList.length = d.size := Array.length_toList
    by_cases h0 : d.size = 0
    · have he : ((d.size : Int) == 0) = true := by rw [h0]; rfl
      have HN := Lib.hid (show numB d.data.toList = none by rw [HNB.out, show d.data.toList = [] from List.length_eq_zero_iff.1 (by omega), okN_len0]; rfl)
      clear h0
      go_enter Tryz.func111, Tryz.ntmps111
      go_wp2
      refine bodyPost_ret (v := .tuple #[.int .i64 0, .bool false]) (by simp [results, Tryz.results111, go_sem]) rfl ?_
      exact ⟨by rw [HN.out]; rfl, rfl⟩
    have he : ((d.size : Int) == 0) = false := beq_false_of_ne (by omega)
    have h0' : 0 < d.size := by omega
    clear h0
    by_cases h10 : 10 < d.size
    · have hg : decide ((10 : Int) < (d.size : Int)) = true := by simp; omega
      have HN := Lib.hid (show numB d.data.toList = none by rw [HNB.out, okN_long (by omega)]; rfl)
      go_enter Tryz.func111, Tryz.ntmps111
      go_wp2
      refine bodyPost_ret (v := .tuple #[.int .i64 0, .bool false]) (by simp [results, Tryz.results111, go_sem]) rfl ?_
      exact ⟨by rw [HN.out]; rfl, rfl⟩
    have hg : decide ((10 : Int) < (d.size : Int)) = false := by simp; omega
    have Hh := Lib.hid (head_at' d h0')
    cases hz : (((d[0]'(by omega)).toNat : Int) == 48)
    rotate_left
    · cases h1 : decide ((1 : Int) < (d.size : Int))
      rotate_left
      · have HN := Lib.hid (show numB d.data.toList = none by rw [HNB.out, okN_zero (by rw [Hh.out, byte_eq (n := 48) hz]; rfl) (.inl (by simp at h1; omega))]; rfl)
        go_enter Tryz.func111, Tryz.ntmps111
        go_wp2
        refine bodyPost_ret (v := .tuple #[.int .i64 0, .bool false]) (by simp [results, Tryz.results111, go_sem]) rfl ?_
        exact ⟨by rw [HN.out]; rfl, rfl⟩
      have Hsel := Lib.hid (show d.data.toList.head? ≠ some 48 ∨ (d.data.toList.length = 1 ∧ false = false) from .inr ⟨by simp at h1; omega, rfl⟩)
      go_enter Tryz.func111, Tryz.ntmps111
      go_wp2
      go_loopw [5, 6] (fun v5 v6 wr => ∃ (k : Nat) (x : Int), k ≤ d.size ∧ v6 = .int .i64 k ∧ v5 = .int .i64 x ∧ Hid (x = (valD (d.data.toList.take k) : Int)) ∧ Hid ((d.data.toList.take k).all isDig = true) ∧ (0 ≤ x ∧ x ≤ 10000000000) ∧ w = wr) (fun _ v6 _ => d.size - (intOf v6).toNat)
      case atStart => exact ⟨0, 0, by omega, rfl, rfl, Lib.hid rfl, Lib.hid rfl, by omega, rfl⟩
      case round =>
        obtain ⟨k, x, hk, rfl, rfl, HX, Hall, hx, rfl⟩ := hrel
        by_cases hlt : k < d.size
        · have HT := Lib.hid (all_take_succ' d k hlt)
          have HV := Lib.hid (valD_take_succ d k hlt)
          have HM := Lib.hid (mem_at d k hlt)
          cases hl : decide ((d[k].toNat : Int) < 48)
          rotate_left
          · have HN := Lib.hid (show numB d.data.toList = none by rw [HNB.out, okN_dig HM.out (by simp [isDig]; simp at hl; omega)]; rfl)
            go_wp2
            refine bodyPost_ret (v := .tuple #[.int .i64 0, .bool false]) (by simp [results, Tryz.results111, go_sem]) rfl ?_
            exact ⟨by rw [HN.out]; rfl, rfl⟩
          cases hu : decide ((57 : Int) < (d[k].toNat : Int))
          rotate_left
          · have HN := Lib.hid (show numB d.data.toList = none by rw [HNB.out, okN_dig HM.out (by simp [isDig]; simp at hu; omega)]; rfl)
            go_wp2
            refine bodyPost_ret (v := .tuple #[.int .i64 0, .bool false]) (by simp [results, Tryz.results111, go_sem]) rfl ?_
            exact ⟨by rw [HN.out]; rfl, rfl⟩
          have hb1 : 48 ≤ d[k].toNat := by simp at hl; omega
          have hb2 : d[k].toNat ≤ 57 := by simp at hu; omega
          have HA2 := Lib.hid (show (d.data.toList.take (k + 1)).all isDig = true by rw [HT.out, Hall.out, isDig_iff.2 ⟨hb1, hb2⟩]; rfl)
          have hx2 : 0 ≤ 10 * x + ((d[k].toNat : Int) - 48) ∧ 10 * x + ((d[k].toNat : Int) - 48) ≤ 10000000000 := by
            have h1 := valD_lt _ _ rfl HA2.out
            have h2 : (10 : Nat) ^ (d.data.toList.take (k + 1)).length ≤ 10 ^ 10 := Nat.pow_le_pow_right (by decide) (by rw [List.length_take]; omega)
            rw [HV.out] at h1
            have h3 := HX.out
            have h4 : (10 : Nat) ^ 10 = 10000000000 := by decide
            omega
          have HX2 := Lib.hid (show 10 * x + ((d[k].toNat : Int) - 48) = (valD (d.data.toList.take (k + 1)) : Int) by rw [HV.out, HX.out]; omega)
          go_wp2
          go_roundw
          case rel => exact ⟨k + 1, 10 * x + ((d[k].toNat : Int) - 48), by omega, by go_num, by go_num, HX2, HA2, hx2, trivial⟩
          case measure => simp [intOf]; omega
        · obtain rfl : k = d.size := by omega
          have htk : d.data.toList.take d.size = d.data.toList := List.take_of_length_le (by omega)
          have HN := Lib.hid (show numB d.data.toList = some (x) by rw [HNB.out, okN_ok (by omega) (by omega) (Hsel.out.imp id fun h => ⟨h.1, rfl⟩) (by have h := Hall.out; rwa [htk] at h), if_pos rfl, HX.out, htk]; rfl)
          go_wp2
          refine bodyPost_ret (v := .tuple #[.int .i64 (x), .bool true]) (by simp [results, Tryz.results111, go_sem]) rfl ?_
          exact ⟨by rw [HN.out]; rfl, rfl⟩
    · have Hsel := Lib.hid (show d.data.toList.head? ≠ some 48 ∨ (d.data.toList.length = 1 ∧ false = false) from .inl (by rw [Hh.out]; intro h; exact byte_ne (n := 48) hz (by decide) (Option.some.inj h)))
      go_enter Tryz.func111, Tryz.ntmps111
      go_wp2
      go_loopw [5, 6] (fun v5 v6 wr => ∃ (k : Nat) (x : Int), k ≤ d.size ∧ v6 = .int .i64 k ∧ v5 = .int .i64 x ∧ Hid (x = (valD (d.data.toList.take k) : Int)) ∧ Hid ((d.data.toList.take k).all isDig = true) ∧ (0 ≤ x ∧ x ≤ 10000000000) ∧ w = wr) (fun _ v6 _ => d.size - (intOf v6).toNat)
      case atStart => exact ⟨0, 0, by omega, rfl, rfl, Lib.hid rfl, Lib.hid rfl, by omega, rfl⟩
      case round =>
        obtain ⟨k, x, hk, rfl, rfl, HX, Hall, hx, rfl⟩ := hrel
        by_cases hlt : k < d.size
        · have HT := Lib.hid (all_take_succ' d k hlt)
          have HV := Lib.hid (valD_take_succ d k hlt)
          have HM := Lib.hid (mem_at d k hlt)
          cases hl : decide ((d[k].toNat : Int) < 48)
          rotate_left
          · have HN := Lib.hid (show numB d.data.toList = none by rw [HNB.out, okN_dig HM.out (by simp [isDig]; simp at hl; omega)]; rfl)
            go_wp2
            refine bodyPost_ret (v := .tuple #[.int .i64 0, .bool false]) (by simp [results, Tryz.results111, go_sem]) rfl ?_
            exact ⟨by rw [HN.out]; rfl, rfl⟩
          cases hu : decide ((57 : Int) < (d[k].toNat : Int))
          rotate_left
          · have HN := Lib.hid (show numB d.data.toList = none by rw [HNB.out, okN_dig HM.out (by simp [isDig]; simp at hu; omega)]; rfl)
            go_wp2
            refine bodyPost_ret (v := .tuple #[.int .i64 0, .bool false]) (by simp [results, Tryz.results111, go_sem]) rfl ?_
            exact ⟨by rw [HN.out]; rfl, rfl⟩
          have hb1 : 48 ≤ d[k].toNat := by simp at hl; omega
          have hb2 : d[k].toNat ≤ 57 := by simp at hu; omega
          have HA2 := Lib.hid (show (d.data.toList.take (k + 1)).all isDig = true by rw [HT.out, Hall.out, isDig_iff.2 ⟨hb1, hb2⟩]; rfl)
          have hx2 : 0 ≤ 10 * x + ((d[k].toNat : Int) - 48) ∧ 10 * x + ((d[k].toNat : Int) - 48) ≤ 10000000000 := by
            have h1 := valD_lt _ _ rfl HA2.out
            have h2 : (10 : Nat) ^ (d.data.toList.take (k + 1)).length ≤ 10 ^ 10 := Nat.pow_le_pow_right (by decide) (by rw [List.length_take]; omega)
            rw [HV.out] at h1
            have h3 := HX.out
            have h4 : (10 : Nat) ^ 10 = 10000000000 := by decide
            omega
          have HX2 := Lib.hid (show 10 * x + ((d[k].toNat : Int) - 48) = (valD (d.data.toList.take (k + 1)) : Int) by rw [HV.out, HX.out]; omega)
          go_wp2
          go_roundw
          case rel => exact ⟨k + 1, 10 * x + ((d[k].toNat : Int) - 48), by omega, by go_num, by go_num, HX2, HA2, hx2, trivial⟩
          case measure => simp [intOf]; omega
        · obtain rfl : k = d.size := by omega
          have htk : d.data.toList.take d.size = d.data.toList := List.take_of_length_le (by omega)
          have HN := Lib.hid (show numB d.data.toList = some (x) by rw [HNB.out, okN_ok (by omega) (by omega) (Hsel.out.imp id fun h => ⟨h.1, rfl⟩) (by have h := Hall.out; rwa [htk] at h), if_pos rfl, HX.out, htk]; rfl)
          go_wp2
          refine bodyPost_ret (v := .tuple #[.int .i64 (x), .bool true]) (by simp [results, Tryz.results111, go_sem]) rfl ?_
          exact ⟨by rw [HN.out]; rfl, rfl⟩
  · obtain ⟨d, hd⟩ : ∃ d, d = s.extract 1 s.size := ⟨_, rfl⟩
    have HNB := Lib.hid (numB_of (l := s.data.toList) (d := d.data.toList) (b := true) (.inl ⟨rfl, by
      have h := Hhs.out
      rw [byte_eq (n := 45) hm] at h
      rw [hd, ext_tail]
      cases hx : s.data.toList with
      | nil => rw [hx] at h; cases h
      | cons c r => rw [hx] at h; simp at h; rw [h]; rfl⟩))
    have hds : d.size + 1 = s.size := by
      have h1 : d.data.toList.length = d.size := Array.length_toList
      have h2 : s.data.toList.length = s.size := Array.length_toList
      rw [hd, ext_tail, List.length_tail, ← hd] at h1
      omega
    have Hd := Lib.hid hd
    clear hd
    have hdl : d.data.toList.length = d.size := Array.length_toList
    by_cases h0 : d.size = 0
    · have he : ((d.size : Int) == 0) = true := by rw [h0]; rfl
      have HN := Lib.hid (show numB s.data.toList = none by rw [HNB.out, show d.data.toList = [] from List.length_eq_zero_iff.1 (by omega), okN_len0]; rfl)
      clear h0
      go_enter Tryz.func111, Tryz.ntmps111
      go_upto_region 4 with fail
      rw [← Hd.out]
      go_wp2
      refine bodyPost_ret (v := .tuple #[.int .i64 0, .bool false]) (by simp [results, Tryz.results111, go_sem]) rfl ?_
      exact ⟨by rw [HN.out]; rfl, rfl⟩
    have he : ((d.size : Int) == 0) = false := beq_false_of_ne (by omega)
    have h0' : 0 < d.size := by omega
    clear h0
    by_cases h10 : 10 < d.size
    · have hg : decide ((10 : Int) < (d.size : Int)) = true := by simp; omega
      have HN := Lib.hid (show numB s.data.toList = none by rw [HNB.out, okN_long (by omega)]; rfl)
      go_enter Tryz.func111, Tryz.ntmps111
      go_upto_region 4 with fail
      rw [← Hd.out]
      go_wp2
      refine bodyPost_ret (v := .tuple #[.int .i64 0, .bool false]) (by simp [results, Tryz.results111, go_sem]) rfl ?_
      exact ⟨by rw [HN.out]; rfl, rfl⟩
    have hg : decide ((10 : Int) < (d.size : Int)) = false := by simp; omega
    have Hh := Lib.hid (head_at' d h0')
    cases hz : (((d[0]'(by omega)).toNat : Int) == 48)
    rotate_left
    · have HN := Lib.hid (show numB s.data.toList = none by rw [HNB.out, okN_zero (by rw [Hh.out, byte_eq (n := 48) hz]; rfl) (.inr rfl)]; rfl)
      cases h1 : decide ((1 : Int) < (d.size : Int))
      · go_enter Tryz.func111, Tryz.ntmps111
        go_upto_region 4 with fail
        rw [← Hd.out]
        go_wp2
        refine bodyPost_ret (v := .tuple #[.int .i64 0, .bool false]) (by simp [results, Tryz.results111, go_sem]) rfl ?_
        exact ⟨by rw [HN.out]; rfl, rfl⟩
      · go_enter Tryz.func111, Tryz.ntmps111
        go_upto_region 4 with fail
        rw [← Hd.out]
        go_wp2
        refine bodyPost_ret (v := .tuple #[.int .i64 0, .bool false]) (by simp [results, Tryz.results111, go_sem]) rfl ?_
        exact ⟨by rw [HN.out]; rfl, rfl⟩
    · have Hsel := Lib.hid (show d.data.toList.head? ≠ some 48 ∨ (d.data.toList.length = 1 ∧ true = false) from .inl (by rw [Hh.out]; intro h; exact byte_ne (n := 48) hz (by decide) (Option.some.inj h)))
      go_enter Tryz.func111, Tryz.ntmps111
      go_upto_region 4 with fail
      rw [← Hd.out]
      go_wp2
      go_loopw [5, 6] (fun v5 v6 wr => ∃ (k : Nat) (x : Int), k ≤ d.size ∧ v6 = .int .i64 k ∧ v5 = .int .i64 x ∧ Hid (x = (valD (d.data.toList.take k) : Int)) ∧ Hid ((d.data.toList.take k).all isDig = true) ∧ (0 ≤ x ∧ x ≤ 10000000000) ∧ w = wr) (fun _ v6 _ => d.size - (intOf v6).toNat)
      case atStart => exact ⟨0, 0, by omega, rfl, rfl, Lib.hid rfl, Lib.hid rfl, by omega, rfl⟩
      case round =>
        obtain ⟨k, x, hk, rfl, rfl, HX, Hall, hx, rfl⟩ := hrel
        by_cases hlt : k < d.size
        · have HT := Lib.hid (all_take_succ' d k hlt)
          have HV := Lib.hid (valD_take_succ d k hlt)
          have HM := Lib.hid (mem_at d k hlt)
          cases hl : decide ((d[k].toNat : Int) < 48)
          rotate_left
          · have HN := Lib.hid (show numB s.data.toList = none by rw [HNB.out, okN_dig HM.out (by simp [isDig]; simp at hl; omega)]; rfl)
            go_wp2
            refine bodyPost_ret (v := .tuple #[.int .i64 0, .bool false]) (by simp [results, Tryz.results111, go_sem]) rfl ?_
            exact ⟨by rw [HN.out]; rfl, rfl⟩
          cases hu : decide ((57 : Int) < (d[k].toNat : Int))
          rotate_left
          · have HN := Lib.hid (show numB s.data.toList = none by rw [HNB.out, okN_dig HM.out (by simp [isDig]; simp at hu; omega)]; rfl)
            go_wp2
            refine bodyPost_ret (v := .tuple #[.int .i64 0, .bool false]) (by simp [results, Tryz.results111, go_sem]) rfl ?_
            exact ⟨by rw [HN.out]; rfl, rfl⟩
          have hb1 : 48 ≤ d[k].toNat := by simp at hl; omega
          have hb2 : d[k].toNat ≤ 57 := by simp at hu; omega
          have HA2 := Lib.hid (show (d.data.toList.take (k + 1)).all isDig = true by rw [HT.out, Hall.out, isDig_iff.2 ⟨hb1, hb2⟩]; rfl)
          have hx2 : 0 ≤ 10 * x + ((d[k].toNat : Int) - 48) ∧ 10 * x + ((d[k].toNat : Int) - 48) ≤ 10000000000 := by
            have h1 := valD_lt _ _ rfl HA2.out
            have h2 : (10 : Nat) ^ (d.data.toList.take (k + 1)).length ≤ 10 ^ 10 := Nat.pow_le_pow_right (by decide) (by rw [List.length_take]; omega)
            rw [HV.out] at h1
            have h3 := HX.out
            have h4 : (10 : Nat) ^ 10 = 10000000000 := by decide
            omega
          have HX2 := Lib.hid (show 10 * x + ((d[k].toNat : Int) - 48) = (valD (d.data.toList.take (k + 1)) : Int) by rw [HV.out, HX.out]; omega)
          go_wp2
          go_roundw
          case rel => exact ⟨k + 1, 10 * x + ((d[k].toNat : Int) - 48), by omega, by go_num, by go_num, HX2, HA2, hx2, trivial⟩
          case measure => simp [intOf]; omega
        · obtain rfl : k = d.size := by omega
          have htk : d.data.toList.take d.size = d.data.toList := List.take_of_length_le (by omega)
          have HN := Lib.hid (show numB s.data.toList = some (-x) by rw [HNB.out, okN_ok (by omega) (by omega) Hsel.out (by have h := Hall.out; rwa [htk] at h), if_pos rfl, HX.out, htk]; rfl)
          go_wp2
          refine bodyPost_ret (v := .tuple #[.int .i64 (-x), .bool true]) (by simp [results, Tryz.results111, go_sem]) rfl ?_
          exact ⟨by rw [HN.out]; rfl, rfl⟩
end Go.Proofs.YtcgnpndfhhcplaaGreatDoor
namespace Go.Proofs.YtcgnpndfhhcplaaGreatDoor
open Go.RowKit W7
set_option maxHeartbeats 1000000 in
set_option maxRecDepth 100000 in
theorem refNumbers_any (ws : List ByteArray) (A : Option Addr) (n f c B : Nat) (w : World) (hn : n = ws.length) (hf : f ≤ n) (hA : Sl w B 1 encS1 A ws) (hs : ∀ s ∈ ws, s.size ≤ 1000000) (hl : n ≤ 1000000) (hB : B ≤ w.heap.size) :
    Calls Tryz.prog 84 #[.slice A n c, .int .i64 (f : Int)] w fun e w' => Below w.heap.size w w' ∧ ((∃ ns v, numsB ((ws.drop f).map (·.data.toList)) = some ns ∧ e = .returned (.tuple #[v, .bool true]) ∧ w'.ownsRow w.heap.size 3 1 v ns.length (ns.map (Value.int .i64))) ∨ (numsB ((ws.drop f).map (·.data.toList)) = none ∧ e = .returned (.tuple #[.slice none 0 0, .bool false]))) := by
  have HA := Lib.hid hA
  have Hs := Lib.hid hs
  have Hn := Lib.hid hn
  clear hA hs hn
  go_enter Tryz.func84, Tryz.ntmps84
  go_wp2
  go_loopw [6, 7] (fun v6 v7 wr => ∃ (i : Nat) (ns : List Int), f ≤ i ∧ i ≤ n ∧ v7 = .int .i64 i ∧ Hid (numsB (((ws.drop f).take (i - f)).map (·.data.toList)) = some ns) ∧ Hid (wr.ownsRow w.heap.size 3 1 v6 ns.length (ns.map (Value.int .i64))) ∧ Hid (Below w.heap.size w wr)) (fun _ v7 _ => n - (intOf v7).toNat)
  case atStart => exact ⟨f, [], by omega, by omega, rfl, Lib.hid (by rw [Nat.sub_self]; rfl), Lib.hid (World.ownsRow_nil _ _ _ _), Lib.hid (Below.refl _ _)⟩
  case round =>
    obtain ⟨i, ns, hfi, hi, rfl, HN, HO, Hb⟩ := hrel
    have hsz := Hb.out.size
    by_cases hlt : i < n
    · have hin : i < ws.length := by have := Hn.out; omega
      obtain ⟨b, off, rfl, hb, hcell⟩ := HA.out (by omega)
      have hbw : b < wr.heap.size := by omega
      obtain ⟨s, hs⟩ : ∃ s, s = ws[i] := ⟨_, rfl⟩
      have c0 : wr.cell? ⟨b, off + i, none⟩ = some (.string s) := by
        have h := (Hb.out.cell (p := ⟨b, off + i * 1 + 0, none⟩) (show b < w.heap.size by omega)).trans (hcell i hin 0 _ rfl)
        rw [Nat.mul_one, Nat.add_zero] at h
        rw [hs]; exact h
      have hdl : i - f < (ws.drop f).length := by rw [List.length_drop]; omega
      have hde : (ws.drop f)[i - f] = s := by rw [hs, List.getElem_drop]; congr 1; omega
      have Hmem := Lib.hid (show s.data.toList ∈ (ws.drop f).map (·.data.toList) from List.mem_map.2 ⟨s, by rw [← hde]; exact List.getElem_mem hdl, rfl⟩)
      have Hsn := Lib.hid (show ∀ x, numB s.data.toList = some x → numsB (((ws.drop f).take (i + 1 - f)).map (·.data.toList)) = some (ns ++ [x]) from fun x hx => by
        rw [show i + 1 - f = (i - f) + 1 by omega, List.take_succ_eq_append_getElem hdl, hde, List.map_append]
        exact numsB_snoc HN.out hx)
      have HC := Lib.hid (refNumber_any s wr (by rw [hs]; exact Hs.out _ (List.getElem_mem hin)))
      have hnl : ns.length ≤ i := by
        have := numsB_len HN.out
        rw [List.length_map, List.length_take] at this
        omega
      clear hs hcell hde
      cases hx : numB s.data.toList with
      | none =>
        rw [hx] at HC
        have HNo := Lib.hid (numsB_no Hmem.out hx)
        go_wp2_with (go_at_call 111; refine HC.out.mono ?_; rintro r w1 ⟨rfl, hw1⟩; obtain rfl := hw1)
        refine bodyPost_ret (v := .tuple #[.slice none 0 0, .bool false]) (by simp [results, Tryz.results84, go_sem]) rfl ?_
        exact ⟨Hb.out, .inr ⟨HNo.out, rfl⟩⟩
      | some x =>
        rw [hx] at HC
        have Hx := Lib.hid (Hsn.out x hx)
        clear hx
        have hbase : w.heap.size ≤ wr.heap.size := by omega
        go_wp2_with (go_at_call 111; fail)
        refine HC.out.mono ?_
        rintro r w1 ⟨rfl, hw1⟩
        obtain rfl := hw1
        go_wp2_with (at_builtin; refine wpList_append1 rfl _ _ 57 rfl w.heap.size 3 _ 1 8 elemInt _ _ _ rfl HO.out #[.int .i64 x] 1 _ rfl (by simp) rfl (by simp [Value.oneCell']) (by omega) (by omega) ?_; intro v6 w6 hown6 hb6 hsz6 hg6 hblk6; have Ho6 := Lib.hid hown6; have Hb6 := Lib.hid hb6; clear hown6 hb6 hsz6 hg6 hblk6)
        go_roundw
        case rel => exact ⟨i + 1, ns ++ [x], by omega, by omega, by go_num, Hx, Lib.hid (by rw [List.length_append, List.map_append]; exact Ho6.out), Lib.hid (Hb.out.trans Hb6.out)⟩
        case measure => simp [intOf]; omega
    · obtain rfl : i = n := by omega
      have HF := Lib.hid (show numsB ((ws.drop f).map (·.data.toList)) = some ns by
        have h := HN.out
        rwa [List.take_of_length_le (by rw [List.length_drop, ← Hn.out]; exact Nat.le_refl _)] at h)
      go_wp2
      refine bodyPost_ret (v := .tuple #[u6, .bool true]) (by simp [results, Tryz.results84, go_sem]) rfl ?_
      exact ⟨Hb.out, .inl ⟨ns, _, HF.out, rfl, HO.out⟩⟩
theorem parts_step {c : UInt8} {l xs : List (List UInt8)} {t : List UInt8} {f i : Nat} (hp : l = xs ++ parts c (t.drop f)) (hn : c ∉ (t.drop f).take (i - f)) (hfi : f ≤ i) (hi : i < t.length) (hc : t[i] = c) :
    l = (xs ++ [(t.drop f).take (i - f)]) ++ parts c (t.drop (i + 1)) := by
  have h1 : t.drop f = (t.drop f).take (i - f) ++ c :: t.drop (i + 1) := by
    have h2 : (t.drop f).drop (i - f) = c :: t.drop (i + 1) := by
      rw [List.drop_drop, show f + (i - f) = i by omega, List.drop_eq_getElem_cons hi, hc]
    conv => lhs; rw [← List.take_append_drop (i - f) (t.drop f)]
    rw [h2]
  rw [hp]
  conv => lhs; rw [h1, parts_hit hn]
  simp
set_option maxHeartbeats 1000000 in
set_option maxRecDepth 100000 in
theorem refParts_any (s : ByteArray) (c : UInt8) (w : World) (hs : s.size ≤ 1000000) :
    Calls Tryz.prog 55 #[.string s, .int .u8 (c.toNat : Int)] w fun e w' => ∃ (ws : List ByteArray) (v : Value), ws.map (·.data.toList) = parts c s.data.toList ∧ e = .returned v ∧ w'.ownsRow w.heap.size 9 1 v ws.length (ws.map Value.string) ∧ Below w.heap.size w w' := by
  have HL := Lib.hid (show s.data.toList.length = s.size from Array.length_toList)
  go_enter Tryz.func55, Tryz.ntmps55
  go_wp2
  go_loopw [5, 6, 7] (fun v5 v6 v7 wr => ∃ (i f : Nat) (ws : List ByteArray), i ≤ s.size + 1 ∧ v7 = .int .i64 i ∧ v6 = .int .i64 f ∧ ws.length ≤ i ∧ (i ≤ s.size → f ≤ i) ∧ Hid (i ≤ s.size → parts c s.data.toList = ws.map (·.data.toList) ++ parts c (s.data.toList.drop f) ∧ c ∉ (s.data.toList.drop f).take (i - f)) ∧ Hid (i = s.size + 1 → parts c s.data.toList = ws.map (·.data.toList)) ∧ Hid (wr.ownsRow w.heap.size 9 1 v5 ws.length (ws.map Value.string)) ∧ Hid (Below w.heap.size w wr)) (fun _ _ v7 _ => s.size + 1 - (intOf v7).toNat)
  case atStart => exact ⟨0, 0, [], by omega, rfl, rfl, by simp, fun _ => Nat.le_refl _, Lib.hid (fun _ => ⟨rfl, by simp⟩), Lib.hid (fun h => by omega), Lib.hid (World.ownsRow_nil _ _ _ _), Lib.hid (Below.refl _ _)⟩
  case round =>
    obtain ⟨i, f, ws, hi, rfl, rfl, hwl, hfi0, HP, HD, HO, Hb⟩ := hrel
    have hsz := Hb.out.size
    by_cases hle : i ≤ s.size
    · have hfi := hfi0 hle
      clear hfi0
      obtain ⟨hp, hnc⟩ := HP.out hle
      have Hext := Lib.hid (Lib.extract_data s f i)
      have Hnew := Lib.hid (show (ws.map Value.string) ++ [Value.string (s.extract f i)] = (ws ++ [s.extract f i]).map Value.string by simp)
      by_cases hlt : i < s.size
      · have hil : i < s.data.toList.length := by have := HL.out; omega
        have hget : s.data.toList[i] = s[i] := by simp [ByteArray.getElem_eq_getElem_data]
        have hne : ((i : Int) == (s.size : Int)) = false := beq_false_of_ne (by omega)
        cases hc : ((s[i].toNat : Int) == (c.toNat : Int))
        · have hcc : s[i] ≠ c := fun h => by rw [h] at hc; simp at hc
          have Hn2 := Lib.hid (show c ∉ (s.data.toList.drop f).take (i + 1 - f) by
            have hdl : i - f < (s.data.toList.drop f).length := by rw [List.length_drop]; omega
            rw [show i + 1 - f = (i - f) + 1 by omega, List.take_succ_eq_append_getElem hdl, List.mem_append, List.getElem_drop]
            rintro (h | h)
            · exact hnc h
            · have h2 : c = s.data.toList[f + (i - f)] := by simpa using h
              have h3 : s.data.toList[f + (i - f)]'(by omega) = s[i] := by rw [← hget]; congr 1; omega
              exact hcc (by rw [← h3, h2]))
          have Hp := Lib.hid hp
          clear hp hnc hget hcc
          go_wp2
          go_roundw
          case rel => exact ⟨i + 1, f, ws, by omega, by go_num, rfl, by omega, fun _ => by omega, Lib.hid (fun _ => ⟨Hp.out, Hn2.out⟩), Lib.hid (fun h => by omega), HO, Hb⟩
          case measure => simp [intOf]; omega
        · have hcc : s[i] = c := by
            have := eq_of_beq hc
            exact UInt8.toNat_inj.1 (by omega)
          have Hst := Lib.hid (parts_step hp hnc hfi hil (hget.trans hcc))
          clear hp hnc hget hcc
          have hbase : w.heap.size ≤ wr.heap.size := by omega
          go_wp2_with (at_builtin; refine wpList_append1 rfl _ _ 66 rfl w.heap.size 9 _ 1 16 elemStr _ _ _ rfl HO.out #[.string (s.extract f i)] 1 _ rfl (by simp) rfl (by simp [Value.oneCell']) (by omega) (by omega) ?_; intro v6 w6 hown6 hb6 hsz6 hg6 hblk6; have Ho6 := Lib.hid hown6; have Hb6 := Lib.hid hb6; clear hown6 hb6 hsz6 hg6 hblk6)
          go_roundw
          case rel => exact ⟨i + 1, i + 1, ws ++ [s.extract f i], by omega, by go_num, by go_num, by simp; omega, fun _ => Nat.le_refl _, Lib.hid (fun _ => ⟨by rw [Hst.out, List.map_append, List.map_cons, List.map_nil, Hext.out], by simp⟩), Lib.hid (fun h => by omega), Lib.hid (by rw [← Hnew.out, List.length_append]; exact Ho6.out), Lib.hid (Hb.out.trans Hb6.out)⟩
          case measure => simp [intOf]; omega
      · obtain rfl : i = s.size := by omega
        have hee : ((s.size : Int) == (s.size : Int)) = true := by simp
        have hbase : w.heap.size ≤ wr.heap.size := by omega
        have Hfin := Lib.hid (show parts c s.data.toList = (ws ++ [s.extract f s.size]).map (·.data.toList) by
          have h1 : (s.data.toList.drop f).take (s.size - f) = s.data.toList.drop f := List.take_of_length_le (by rw [List.length_drop, HL.out]; exact Nat.le_refl _)
          rw [hp, List.map_append, List.map_cons, List.map_nil, Hext.out, h1, parts_none (by rwa [h1] at hnc)])
        clear hp hnc
        go_wp2_with (at_builtin; refine wpList_append1 rfl _ _ 66 rfl w.heap.size 9 _ 1 16 elemStr _ _ _ rfl HO.out #[.string (s.extract f s.size)] 1 _ rfl (by simp) rfl (by simp [Value.oneCell']) (by omega) (by omega) ?_; intro v6 w6 hown6 hb6 hsz6 hg6 hblk6; have Ho6 := Lib.hid hown6; have Hb6 := Lib.hid hb6; clear hown6 hb6 hsz6 hg6 hblk6)
        go_roundw
        case rel => exact ⟨s.size + 1, s.size + 1, ws ++ [s.extract f s.size], by omega, by go_num, by go_num, by simp; omega, fun h => by omega, Lib.hid (fun h => by omega), Lib.hid (fun _ => Hfin.out), Lib.hid (by rw [← Hnew.out, List.length_append]; exact Ho6.out), Lib.hid (Hb.out.trans Hb6.out)⟩
        case measure => simp [intOf]
    · obtain rfl : i = s.size + 1 := by omega
      have HF := Lib.hid (HD.out rfl)
      go_wp2
      go_ret
      exact ⟨ws, HF.out.symm, _, rfl, HO.out, Hb.out⟩
end Go.Proofs.YtcgnpndfhhcplaaGreatDoor
namespace Go.Proofs.YtcgnpndfhhcplaaGreatDoor
open Go.RowKit W7
/-- a plan's box -/
def BoxAt (w : World) (b : Nat) (p : Plan) : Prop := w.heap[b]? = some (.cells #[.slice p.qA p.qs.length p.qc, .slice p.mA p.ms.length p.mc, .slice p.aA p.al.length p.ac] 26 (0, 0))
theorem BoxAt.cells {w : World} {b : Nat} {p : Plan} (h : BoxAt w b p) : w.cell? ⟨b, 0, none⟩ = some (.slice p.qA p.qs.length p.qc) ∧ w.cell? ⟨b, 1, none⟩ = some (.slice p.mA p.ms.length p.mc) ∧ w.cell? ⟨b, 2, none⟩ = some (.slice p.aA p.al.length p.ac) := by
  unfold BoxAt at h
  simp only [World.cell?, h]
  exact ⟨rfl, rfl, rfl⟩
theorem BoxAt.lt {w : World} {b : Nat} {p : Plan} (h : BoxAt w b p) : b < w.heap.size := (Array.getElem?_eq_some_iff.1 h).1
/-- where words lie: in no row of a plan -/
structure WordsIn (w : World) (b : Nat) (ws : List ByteArray) : Prop where
  blk : ∃ cs, w.heap[b]? = some (.cells cs 9 (0, 0))
  cell : ∀ j (h : j < ws.length), w.cell? ⟨b, j, none⟩ = some (.string ws[j])
theorem WordsIn.lt {w : World} {b : Nat} {ws : List ByteArray} (h : WordsIn w b ws) : b < w.heap.size := by
  obtain ⟨cs, hc⟩ := h.blk
  exact (Array.getElem?_eq_some_iff.1 hc).1
theorem WordsIn.of {w w' : World} {b : Nat} {ws : List ByteArray} (h : WordsIn w b ws) (hb : Below w.heap.size w w') : WordsIn w' b ws := by
  have he := hb.block b h.lt
  refine ⟨?_, fun j hj => (World.cell?_of_block (a := ⟨b, j, none⟩) he).trans (h.cell j hj)⟩
  rw [he]; exact h.blk
theorem WordsIn.sl {w : World} {b : Nat} {ws : List ByteArray} (h : WordsIn w b ws) : Sl w w.heap.size 1 encS1 (some ⟨b, 0, none⟩) ws := fun _ => by
  refine ⟨b, 0, rfl, h.lt, fun i hi j v hv => ?_⟩
  have hj : j = 0 := by
    cases j with
    | zero => rfl
    | succ j => simp [encS1] at hv
  subst hj
  rw [Nat.mul_one, Nat.add_zero, Nat.zero_add, h.cell i hi]
  simpa [encS1] using hv
theorem WordsIn.own {w : World} {base n : Nat} {v : Value} {ws : List ByteArray} (h : w.ownsRow base 9 1 v n (ws.map Value.string)) (_hn : n = ws.length) (h0 : 0 < n) : ∃ b c, v = .slice (some ⟨b, 0, none⟩) n c ∧ base ≤ b ∧ n ≤ c ∧ c ≤ 9223372036854775807 ∧ WordsIn w b ws := by
  obtain ⟨b, c, rfl, hb, hbw, h1, h2, hc⟩ := owns_cells h h0
  refine ⟨b, c, rfl, hb, h1, h2, owns_block h b rfl, fun j hj => ?_⟩
  have := hc j (.string ws[j]) (by simp [hj])
  rwa [Nat.zero_add] at this
/-- how the reader ends -/
def LnRef (p : Plan) (last : ByteArray) (ws : List ByteArray) (B : Nat) (w : World) (e : Ending) (w' : World) : Prop := Below B w w' ∧ KeepO w.heap.size w w' ∧
  ((∃ k, e = .returned (.tuple #[planV p, .int .i64 k]) ∧ StepBad p last ws k) ∨ ∃ p', e = .returned (.tuple #[planV p', .int .i64 0]) ∧ StepOk p last ws p' ∧ OwnP B w' p')
/-- the result's block, where it is stored to -/
def putP (w : World) (b : Nat) (p : Plan) : World := ((w.setCell ⟨b, 0, none⟩ (.slice p.qA p.qs.length p.qc)).setCell ⟨b, 1, none⟩ (.slice p.mA p.ms.length p.mc)).setCell ⟨b, 2, none⟩ (.slice p.aA p.al.length p.ac)
theorem putP_heap {w : World} {b k : Nat} {p : Plan} (h : k ≠ b) : (putP w b p).heap[k]? = w.heap[k]? := by
  unfold putP
  rw [Below.heap_setCell _ _ _ _ (fun e => h e), Below.heap_setCell _ _ _ _ (fun e => h e), Below.heap_setCell _ _ _ _ (fun e => h e)]
theorem putP_below {w w' : World} {B b : Nat} {p : Plan} (h : Below B w w') (hb : B ≤ b) : Below B w (putP w' b p) := ((h.setCell (p := ⟨b, 0, none⟩) hb _).setCell (p := ⟨b, 1, none⟩) hb _).setCell (p := ⟨b, 2, none⟩) hb _
theorem LnRef.bad {p : Plan} {last : ByteArray} {ws : List ByteArray} {B b : Nat} {k : Int} {w w2 : World} (hb : Below w.heap.size w w2) (hB : B ≤ w.heap.size) (hbb : w.heap.size ≤ b) (hs : StepBad p last ws k) : LnRef p last ws B w (.returned (.tuple #[planV p, .int .i64 k])) (putP w2 b p) :=
  ⟨(putP_below hb hbb).mono hB, KeepO.of_below (putP_below hb hbb), .inl ⟨k, rfl, hs⟩⟩
theorem LnRef.good {p p' : Plan} {last : ByteArray} {ws : List ByteArray} {B b : Nat} {w w2 : World} (hb : Below B w w2) (hk : KeepO w.heap.size w w2) (hB : B ≤ w.heap.size) (hbb : w.heap.size ≤ b) (hz : w2.heap[b]? = some zeroC) (hs : StepOk p last ws p') (hO : OwnP B w2 p') : LnRef p last ws B w (.returned (.tuple #[planV p', .int .i64 0])) (putP w2 b p') := by
  obtain ⟨⟨h1, h2⟩, _⟩ := res_plan hz p'
  refine ⟨putP_below hb (by omega), fun j o hj hne ho hn => ?_, .inr ⟨p', rfl, hs, ?_⟩⟩
  · rw [putP_heap (by omega)]
    exact hk j o hj hne ho hn
  · exact ((hO.setK (lb := b) (j := 0) hz plan_ne _).setK (lb := b) (j := 1) h1 plan_ne _).setK (lb := b) (j := 2) h2 plan_ne _
theorem LnRef.good' {p p' : Plan} {last : ByteArray} {ws : List ByteArray} {B b : Nat} {w w2 : World} {k0 k1 k2 : Value} (hk : planV p' = .agg #[k0, k1, k2]) (hb : Below B w w2) (hk' : KeepO w.heap.size w w2) (hB : B ≤ w.heap.size) (hbb : w.heap.size ≤ b) (hz : w2.heap[b]? = some zeroC) (hs : StepOk p last ws p') (hO : OwnP B w2 p') :
    LnRef p last ws B w (.returned (.tuple #[.agg #[k0, k1, k2], .int .i64 0])) (((w2.setCell ⟨b, 0, none⟩ k0).setCell ⟨b, 1, none⟩ k1).setCell ⟨b, 2, none⟩ k2) := by
  obtain ⟨rfl, rfl, rfl⟩ : k0 = .slice p'.qA p'.qs.length p'.qc ∧ k1 = .slice p'.mA p'.ms.length p'.mc ∧ k2 = .slice p'.aA p'.al.length p'.ac := by
    unfold planV at hk
    simp only [Value.agg.injEq, Array.mk.injEq, List.cons.injEq, and_true] at hk
    exact ⟨hk.1.symm, hk.2.1.symm, hk.2.2.symm⟩
  exact LnRef.good hb hk' hB hbb hz hs hO
theorem res_vals {w : World} {b : Nat} (h : w.heap[b]? = some zeroC) (x y z : Value) :
    (((w.setCell ⟨b, 0, none⟩ x).setCell ⟨b, 1, none⟩ y).setCell ⟨b, 2, none⟩ z).cell? ⟨b, 0, none⟩ = some x ∧ (((w.setCell ⟨b, 0, none⟩ x).setCell ⟨b, 1, none⟩ y).setCell ⟨b, 2, none⟩ z).cell? ⟨b, 1, none⟩ = some y ∧ (((w.setCell ⟨b, 0, none⟩ x).setCell ⟨b, 1, none⟩ y).setCell ⟨b, 2, none⟩ z).cell? ⟨b, 2, none⟩ = some z := by
  have h1 : (w.setCell ⟨b, 0, none⟩ x).heap[b]? = some (.cells #[x, .slice none 0 0, .slice none 0 0] 26 (0, 0)) := by
    simp [World.setCell, Array.getElem?_modify, h, zeroC]
  have h2 : ((w.setCell ⟨b, 0, none⟩ x).setCell ⟨b, 1, none⟩ y).heap[b]? = some (.cells #[x, y, .slice none 0 0] 26 (0, 0)) := by
    generalize w.setCell ⟨b, 0, none⟩ x = w1 at h1
    simp [World.setCell, Array.getElem?_modify, h1]
  have h3 : (((w.setCell ⟨b, 0, none⟩ x).setCell ⟨b, 1, none⟩ y).setCell ⟨b, 2, none⟩ z).heap[b]? = some (.cells #[x, y, z] 26 (0, 0)) := by
    generalize (w.setCell ⟨b, 0, none⟩ x).setCell ⟨b, 1, none⟩ y = w1 at h2
    simp [World.setCell, Array.getElem?_modify, h2]
  simp only [World.cell?, h3]
  exact ⟨rfl, rfl, rfl⟩
theorem size0 {s : ByteArray} (h : (s.toList == []) = true) : s.data.toList.isEmpty = true := by
  rw [← Lib.toList_data, eq_of_beq h]; rfl
theorem any_empty {ws : List ByteArray} {i : Nat} (hi : i < ws.length) (h : (ws[i].toList == []) = true) : (wordsL ws).any (·.isEmpty) = true := by
  rw [List.any_eq_true]
  exact ⟨ws[i].data.toList, List.mem_map.2 ⟨ws[i], List.getElem_mem hi, rfl⟩, size0 h⟩
theorem no_empty {ws : List ByteArray} (h : ∀ j (hj : j < ws.length), (ws[j].toList == []) = false) : (wordsL ws).any (·.isEmpty) = false := by
  rw [Bool.eq_false_iff]
  intro ha
  obtain ⟨x, hx, he⟩ := List.any_eq_true.1 ha
  obtain ⟨y, hy, rfl⟩ := List.mem_map.1 hx
  obtain ⟨j, hj, rfl⟩ := List.getElem_of_mem hy
  have h1 := h j hj
  rw [Lib.toList_data] at h1
  have h2 : ws[j].data.toList = [] := by simpa using he
  rw [h2] at h1
  cases h1
theorem head_words {ws : List ByteArray} (h : 0 < ws.length) : (wordsL ws).headD [] = ws[0].toList := by
  rw [Lib.toList_data]
  cases ws with
  | nil => exact absurd h (by simp)
  | cons a b => rfl
/-- the entry's two blocks -/
def entryW (w : World) (p : Plan) : World := (w.alloc (.cells #[.slice p.qA p.qs.length p.qc, .slice p.mA p.ms.length p.mc, .slice p.aA p.al.length p.ac] 26)).alloc (.cells #[.slice none 0 0, .slice none 0 0, .slice none 0 0] 26)
theorem entryW_size (w : World) (p : Plan) : (entryW w p).heap.size = w.heap.size + 2 := by simp [entryW]
theorem entryW_below (w : World) (p : Plan) : Below w.heap.size w (entryW w p) := ((Below.refl _ _).alloc (Nat.le_refl _) _).alloc (by simp) _
theorem entryW_box (w : World) (p : Plan) : BoxAt (entryW w p) w.heap.size p := by
  show (World.heap _)[w.heap.size]? = _
  unfold entryW
  rw [Below.heap_alloc _ _ _ (by simp)]
  exact heap_alloc_new _ _
theorem entryW_zero (w : World) (p : Plan) : (entryW w p).heap[w.heap.size + 1]? = some zeroC := by
  have h := heap_alloc_new (w.alloc (.cells #[.slice p.qA p.qs.length p.qc, .slice p.mA p.ms.length p.mc, .slice p.aA p.al.length p.ac] 26)) (.cells #[.slice none 0 0, .slice none 0 0, .slice none 0 0] 26)
  rw [show (w.alloc (.cells #[.slice p.qA p.qs.length p.qc, .slice p.mA p.ms.length p.mc, .slice p.aA p.al.length p.ac] 26)).heap.size = w.heap.size + 1 by simp] at h
  exact h
end Go.Proofs.YtcgnpndfhhcplaaGreatDoor
namespace Go.Proofs.YtcgnpndfhhcplaaGreatDoor
open Go.RowKit W7
theorem WordsIn.take {w : World} {b : Nat} {ws : List ByteArray} (h : WordsIn w b ws) (k : Nat) : WordsIn w b (ws.take k) :=
  ⟨h.blk, fun j hj => by
    have h1 : j < ws.length := by rw [List.length_take] at hj; omega
    rw [h.cell j h1, List.getElem_take]⟩
set_option maxHeartbeats 1000000 in
set_option maxRecDepth 100000 in
theorem refLines_any (s : ByteArray) (w : World) (hs : s.size ≤ 100000) :
    Calls Tryz.prog 54 #[.string s] w fun e w' => ∃ (ws : List ByteArray) (b n c : Nat), ws.map (·.data.toList) = linesL s.data.toList ∧ n = ws.length ∧ n ≤ 100001 ∧ e = .returned (.slice (some ⟨b, 0, none⟩) n c) ∧ WordsIn w' b ws ∧ Below w.heap.size w w' := by
  have HP := Lib.hid (refParts_any s 10 w (by omega))
  go_enter Tryz.func54, Tryz.ntmps54
  go_wp2_with (go_at_call 55; fail)
  refine HP.out.mono ?_
  rintro r w1 ⟨ws, v, hws, rfl, hov, hb1⟩
  obtain ⟨n, hn⟩ : ∃ k, k = ws.length := ⟨_, rfl⟩
  have hl0 : ws.length = (parts 10 s.data.toList).length := by rw [← hws, List.length_map]
  have hn0 : 1 ≤ n := by
    have h1 : 0 < (parts 10 s.data.toList).length := List.length_pos_iff.2 (parts_ne _ _)
    omega
  have hnl : n ≤ 100001 := by
    have h1 := parts_len_le (c := 10) s.data.toList
    have h2 : s.data.toList.length = s.size := Array.length_toList
    omega
  rw [← hn] at hov
  obtain ⟨b, c, rfl, hbb, hnc, hc, hW⟩ := WordsIn.own hov hn hn0
  have hbw := hW.lt
  have hlast := hW.cell (n - 1) (by omega)
  obtain ⟨x, hx⟩ : ∃ x, x = ws[n - 1]'(by omega) := ⟨_, rfl⟩
  rw [← hx] at hlast
  have HW := Lib.hid hW
  have Hb1 := Lib.hid hb1
  have Hn := Lib.hid hn
  have Hlast := Lib.hid (show ws.getLast? = some x by
    have e : ws.length - 1 = n - 1 := by omega
    rw [List.getLast?_eq_getElem?, e, List.getElem?_eq_getElem (by omega), hx])
  have Hmap := Lib.hid (show (ws.map (·.data.toList)).getLast? = some x.data.toList by
    rw [List.getLast?_map, Hlast.out]; rfl)
  have Hws := Lib.hid hws
  clear hW hb1 hn hws hov hl0 hx HP
  cases hxe : (x.toList == [])
  · have Hout := Lib.hid (show ws.map (·.data.toList) = linesL s.data.toList by
      unfold linesL dropE
      rw [← Hws.out, Hmap.out, if_neg]
      rw [← Lib.toList_data]
      intro h
      rw [Option.some.inj h] at hxe
      cases hxe)
    go_wp2
    go_ret
    exact ⟨ws, _, n, _, Hout.out, Hn.out, hnl, rfl, HW.out, Hb1.out⟩
  · have Hout := Lib.hid (show (ws.take (n - 1)).map (·.data.toList) = linesL s.data.toList by
      unfold linesL dropE
      rw [← Hws.out, Hmap.out, if_pos (by rw [← Lib.toList_data, eq_of_beq hxe]), List.dropLast_eq_take, List.length_map, List.map_take, Hn.out])
    have Hn1 := Lib.hid (show n - 1 = (ws.take (n - 1)).length by rw [List.length_take, ← Hn.out]; omega)
    go_wp2
    go_ret
    exact ⟨ws.take (n - 1), _, n - 1, _, Hout.out, Hn1.out, by omega, rfl, HW.out.take _, Hb1.out⟩
end Go.Proofs.YtcgnpndfhhcplaaGreatDoor
