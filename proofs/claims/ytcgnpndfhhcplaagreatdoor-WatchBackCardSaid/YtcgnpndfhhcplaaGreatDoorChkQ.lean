/-
  Which strings are names: package watch and its specification say the same of every string. Condition: the string's size is an int.
  slices.IndexFunc and ContainsFunc over gauges and quantities, by name. Condition: how the slice lies in memory.
  Package watch's checkQuantity: the first error of a quantity, its name left out. Condition: how the gauges lie in memory.
  Package watch's quantities, checkReading and checked: the first error of quantities, of a reading, of a quantity with its readings. Condition: how they lie in memory.
  Plain data of plans: measures, alarms, their errors. No program.
  Package watch's checkReading and checked: the first error of a reading, of a quantity with its readings. Condition: how they lie in memory.
-/
import Derived.Test.YtcgnpndfhhcplaaGreatDoorLeaf
import Derived.BigGuardPart
namespace Go.Proofs.YtcgnpndfhhcplaaGreatDoor
open Go.RowKit W7
theorem all_take_succ (s : ByteArray) (k : Nat) (h : k < s.size) : (s.data.toList.take (k + 1)).all okc = ((s.data.toList.take k).all okc && okc s[k]) := by
  rw [List.take_succ_eq_append_getElem (by simpa using h), List.all_append]
  simp; rfl
theorem all_of_take (s : ByteArray) (k : Nat) (h : k < s.size) (hn : okc s[k] = false) : s.data.toList.all okc = false := by
  rw [List.all_eq_false]
  exact ⟨s[k], by simp [ByteArray.getElem_eq_getElem_data], by simp [hn]⟩
theorem head_at (s : ByteArray) (h : 0 < s.size) : s.data.toList.headD 0 = s[0] := by
  have h' : 0 < s.data.toList.length := by simpa using h
  rw [List.headD_eq_head?_getD, List.head?_eq_getElem?, List.getElem?_eq_getElem h']
  rfl
theorem empty_iff (s : ByteArray) : s.toList.isEmpty = decide (s.size = 0) := by
  rw [ByteArray.toList_eq]
  have : s.data.toList.length = s.size := Array.length_toList
  rw [← this]
  cases s.data.toList <;> simp
theorem nameB_empty (s : ByteArray) (h : s.size = 0) : nameB s = false := by simp [nameB, h]
theorem nameB_long (s : ByteArray) (h : 16 < s.size) : nameB s = false := by
  have : ¬ s.size ≤ 16 := by omega
  simp [nameB, this]
theorem nameB_first (s : ByteArray) (h : 0 < s.size) (hf : okFirst s[0] = false) : nameB s = false := by
  rw [nameB, head_at s h, hf]; simp
theorem nameB_all (s : ByteArray) (h0 : 0 < s.size) (h16 : s.size ≤ 16) (hf : okFirst s[0] = true) : nameB s = s.data.toList.all okc := by
  rw [nameB, head_at s h0, hf]; simp [h16]; intro _; omega
theorem okc_true_1 (c : UInt8) (h1 : (97 : Int) ≤ (c.toNat : Int)) (h2 : (c.toNat : Int) ≤ 122) : okc c = true := by simp [okc, h1, h2]
theorem okc_true_2 (c : UInt8) (h1 : (48 : Int) ≤ (c.toNat : Int)) (h2 : (c.toNat : Int) ≤ 57) : okc c = true := by simp [okc, h1, h2]
theorem okc_true_3 (c : UInt8) (h1 : (c.toNat : Int) = 45) : okc c = true := by simp [okc, h1]
theorem okc_false (c : UInt8) (h1 : (97 : Int) ≤ (c.toNat : Int) → (122 : Int) < (c.toNat : Int)) (h2 : (48 : Int) ≤ (c.toNat : Int) → (57 : Int) < (c.toNat : Int)) (h3 : (c.toNat : Int) ≠ 45) : okc c = false := by
  simp [okc]; omega
set_option maxHeartbeats 1000000 in
theorem isName_any (s : ByteArray) (hs : s.size ≤ maxLen) (w : World) :
    Calls Tryz.prog 66 #[.string s] w fun e w' => e = .returned (.bool (nameB s)) ∧ w = w' := by
  unfold maxLen at hs
  have He := Lib.hid (empty_iff s)
  by_cases h0 : s.size = 0
  · have he : s.toList.isEmpty = true := by rw [He.out, h0]; rfl
    have HN := Lib.hid (nameB_empty s h0)
    clear h0
    go_enter Tryz.func66, Tryz.ntmps66
    go_wp2
    go_ret
    exact ⟨by rw [HN.out]; rfl, rfl⟩
  have he : s.toList.isEmpty = false := by rw [He.out]; simpa using h0
  have h0' : 0 < s.size := by omega
  clear h0
  by_cases h16 : 16 < s.size
  · have HN := Lib.hid (nameB_long s h16)
    go_enter Tryz.func66, Tryz.ntmps66
    go_wp2
    go_ret
    exact ⟨by rw [HN.out]; rfl, rfl⟩
  by_cases hf1 : ((s[0]'(by omega)).toNat : Int) < 97
  · have HN := Lib.hid (nameB_first s h0' (by simp [okFirst]; omega))
    have hd : decide (((s[0]'(by omega)).toNat : Int) < 97) = true := by simpa using hf1
    go_enter Tryz.func66, Tryz.ntmps66
    go_wp2
    go_ret
    exact ⟨by rw [HN.out]; rfl, rfl⟩
  by_cases hf2 : (122 : Int) < ((s[0]'(by omega)).toNat : Int)
  · have HN := Lib.hid (nameB_first s h0' (by simp [okFirst]; omega))
    have hd0 : decide (((s[0]'(by omega)).toNat : Int) < 97) = false := by simpa using hf1
    have hd : decide ((122 : Int) < ((s[0]'(by omega)).toNat : Int)) = true := by simpa using hf2
    go_enter Tryz.func66, Tryz.ntmps66
    go_wp2
    go_ret
    exact ⟨by rw [HN.out]; rfl, rfl⟩
  have hd2 : decide ((16 : Int) < (s.size : Int)) = false := by simp; omega
  have hd0 : decide (((s[0]'(by omega)).toNat : Int) < 97) = false := by simpa using hf1
  have hd1 : decide ((122 : Int) < ((s[0]'(by omega)).toNat : Int)) = false := by simpa using hf2
  have HN := Lib.hid (nameB_all s h0' (by omega) (by simp [okFirst]; omega))
  go_enter Tryz.func66, Tryz.ntmps66
  go_wp2
  go_loop [24] (fun i => ∃ k : Nat, k ≤ s.size ∧ i = .int .i64 k ∧ Hid ((s.data.toList.take k).all okc = true)) (fun i => s.size - (intOf i).toNat)
  case atStart => exact ⟨0, by omega, rfl, Lib.hid rfl⟩
  case round =>
    obtain ⟨k, hk, rfl, Hall⟩ := hrel
    by_cases hlt : k < s.size
    · have HT := Lib.hid (all_take_succ s k hlt)
      have HF := Lib.hid (all_of_take s k hlt)
      by_cases h45 : (s[k].toNat : Int) = 45
      · have h45b : ((s[k].toNat : Int) == 45) = true := beq_iff_eq.2 h45
        have H45 := Lib.hid h45
        clear h45
        go_wp2
        all_goals
          go_round
          case rel => exact ⟨k + 1, by omega, by go_num, Lib.hid (by rw [HT.out, Hall.out, okc_true_3 _ H45.out]; rfl)⟩
          case measure => simp [intOf]; omega
      · have h45b : ((s[k].toNat : Int) == 45) = false := beq_eq_false_iff_ne.2 h45
        have H45 := Lib.hid h45
        clear h45
        go_wp2
        all_goals first
          | (go_ret; exact ⟨by rw [HN.out, HF.out (okc_false _ (by omega) (by omega) H45.out)]; rfl, rfl⟩)
          | (go_round
             case rel => exact ⟨k + 1, by omega, by go_num, Lib.hid (by rw [HT.out, Hall.out]; first | (rw [okc_true_1 _ (by omega) (by omega)]; rfl) | (rw [okc_true_2 _ (by omega) (by omega)]; rfl))⟩
             case measure => simp [intOf]; omega)
    · obtain rfl : k = s.size := by omega
      have HA := Lib.hid (show s.data.toList.all okc = true by rw [← Hall.out, List.take_of_length_le]; exact Nat.le_of_eq Array.length_toList)
      go_wp2
      go_ret
      exact ⟨by rw [HN.out, HA.out]; rfl, rfl⟩
end Go.Proofs.YtcgnpndfhhcplaaGreatDoor
namespace Go.Proofs.YtcgnpndfhhcplaaGreatDoor
open Go.RowKit W7
theorem checkQuantity1_any (x : Gauge) (nm : ByteArray) (bg : Nat) (w : World) (hc : w.cell? ⟨bg, 0, none⟩ = some (.string nm)) (hbg : bg < w.heap.size) :
    Calls Tryz.prog 103 #[.agg #[.string x.name, .int .i64 x.acc, .int .i64 x.drift, .int .i64 x.since], .pointer (some ⟨bg, 0, none⟩)] w fun e w' => e = .returned (.bool (strEq x.name nm)) ∧ Below w.heap.size w w' := by
  go_enter Tryz.func103, Tryz.ntmps103
  go_wp2
  go_ret
  exact ⟨rfl, (by (repeat (refine Below.alloc ?_ (by first | exact Nat.le_refl _ | omega | (simp; done) | (simp; omega)) _)); exact Below.refl _ _)⟩
set_option maxHeartbeats 1000000 in
theorem idxGauge_any (xs : List Gauge) (nm : ByteArray) (n : Nat) (hn : n = xs.length) (A : Option Addr) (c B bg : Nat) (w : World) (hA : Sl w B 4 encG A xs) (hB : B ≤ w.heap.size) (hl : xs.length ≤ 1000000000)
    (hc0 : w.cell? ⟨bg, 0, none⟩ = some (.string nm)) (hbg : bg < w.heap.size) :
    Calls Tryz.prog 123 #[.slice A n c, .func (.func 103) #[] #[.pointer (some ⟨bg, 0, none⟩)]] w fun e w' =>
      e = .returned (.int .i64 (idxB (fun x : Gauge => strEq x.name nm) xs)) ∧ Below w.heap.size w w' := by
  subst hn
  have HA := Lib.hid hA
  clear hA
  have Hc0 := Lib.hid hc0; clear hc0
  go_enter Tryz.func123, Tryz.ntmps123
  go_wp2
  go_loopw [8] (fun i wr => ∃ k : Nat, k ≤ xs.length ∧ i = .int .i64 k ∧ Hid ((xs.take k).any (fun x : Gauge => strEq x.name nm) = false) ∧ Below w.heap.size w wr) (fun i _ => xs.length - (intOf i).toNat)
  case atStart => exact ⟨0, by omega, rfl, Lib.hid (by simp), Below.refl _ _⟩
  case round =>
    obtain ⟨k, hk, rfl, Hno, hb⟩ := hrel
    by_cases hlt : k < xs.length
    · obtain ⟨b, off, rfl, hbB, hcells⟩ := HA.out (by omega)
      have h0 := hcells k hlt
      clear hcells
      have c0 : wr.cell? ⟨b, off + k * 4, none⟩ = some (.string xs[k].name) := (hb.cell (p := ⟨b, _, none⟩) (by simp; omega)).trans (h0 0 _ rfl)
      have c1 : wr.cell? ⟨b, off + k * 4 + 1, none⟩ = some (.int .i64 xs[k].acc) := (hb.cell (p := ⟨b, _, none⟩) (by simp; omega)).trans (h0 1 _ rfl)
      have c2 : wr.cell? ⟨b, off + k * 4 + 2, none⟩ = some (.int .i64 xs[k].drift) := (hb.cell (p := ⟨b, _, none⟩) (by simp; omega)).trans (h0 2 _ rfl)
      have c3 : wr.cell? ⟨b, off + k * 4 + 3, none⟩ = some (.int .i64 xs[k].since) := (hb.cell (p := ⟨b, _, none⟩) (by simp; omega)).trans (h0 3 _ rfl)
      have hcg0 : wr.cell? ⟨bg, 0, none⟩ = some (.string nm) := (hb.cell (p := ⟨bg, 0, none⟩) hbg).trans Hc0.out
      have Hs := Lib.hid (any_take_succ (p := fun x : Gauge => strEq x.name nm) hlt Hno.out)
      have Hh := Lib.hid (idxB_hit (p := fun x : Gauge => strEq x.name nm) hlt Hno.out)
      have hsz := hb.size
      clear h0
      cases hp : (fun x : Gauge => strEq x.name nm) xs[k]
      · go_wp2_with (go_at_call 103; refine (checkQuantity1_any xs[k] nm bg _ (by assumption) (by omega)).mono ?_; rintro e w1 ⟨rfl, hb1⟩)
        go_roundw
        case rel => exact ⟨k + 1, by omega, by go_num, Lib.hid (Hs.out (by assumption)), hb.trans (hb1.mono hsz)⟩
        case measure => simp [intOf]; omega
      · go_wp2_with (go_at_call 103; refine (checkQuantity1_any xs[k] nm bg _ (by assumption) (by omega)).mono ?_; rintro e w1 ⟨rfl, hb1⟩)
        go_ret
        exact ⟨ret_int (Hh.out (by assumption)).symm, hb.trans (hb1.mono hsz)⟩
    · have HN := Lib.hid (idxB_none (p := fun x : Gauge => strEq x.name nm) (xs := xs) (by rw [← Hno.out, List.take_of_length_le (by omega)]))
      go_wp2
      go_ret
      exact ⟨ret_int HN.out.symm, hb⟩
theorem conGauge_any (xs : List Gauge) (nm : ByteArray) (n : Nat) (hn : n = xs.length) (A : Option Addr) (c B bg : Nat) (w : World) (hA : Sl w B 4 encG A xs) (hB : B ≤ w.heap.size) (hl : xs.length ≤ 1000000000)
    (hc0 : w.cell? ⟨bg, 0, none⟩ = some (.string nm)) (hbg : bg < w.heap.size) :
    Calls Tryz.prog 102 #[.slice A n c, .func (.func 103) #[] #[.pointer (some ⟨bg, 0, none⟩)]] w fun e w' =>
      e = .returned (.bool (xs.any (fun x : Gauge => strEq x.name nm))) ∧ Below w.heap.size w w' := by
  have H := Lib.hid (idxGauge_any xs nm n hn A c B bg w hA hB hl hc0 hbg)
  clear hA hn hc0
  go_enter Tryz.func102, Tryz.ntmps102
  go_wp2_with (go_at_call 123; refine H.out.mono ?_; rintro e w1 ⟨rfl, hb1⟩)
  go_ret
  exact ⟨ret_bool idxB_any, hb1⟩

theorem quantities1_any (x : Quantity) (nm : ByteArray) (bg : Nat) (w : World) (hc : w.cell? ⟨bg, 0, none⟩ = some (.string nm)) (hbg : bg < w.heap.size) :
    Calls Tryz.prog 68 #[.agg #[.string x.name, .int .i64 x.lo, .int .i64 x.hi, .int .i64 x.rise, .int .i64 x.fall, .int .i64 x.bad, .slice x.gA x.gs.length x.gc], .pointer (some ⟨bg, 0, none⟩)] w fun e w' => e = .returned (.bool (strEq x.name nm)) ∧ Below w.heap.size w w' := by
  go_enter Tryz.func68, Tryz.ntmps68
  go_wp2
  go_ret
  exact ⟨rfl, (by (repeat (refine Below.alloc ?_ (by first | exact Nat.le_refl _ | omega | (simp; done) | (simp; omega)) _)); exact Below.refl _ _)⟩
set_option maxHeartbeats 1000000 in
theorem idxQuantity_any (xs : List Quantity) (nm : ByteArray) (n : Nat) (hn : n = xs.length) (A : Option Addr) (c B bg : Nat) (w : World) (hA : Sl w B 7 encQ A xs) (hB : B ≤ w.heap.size) (hl : xs.length ≤ 1000000000)
    (hc0 : w.cell? ⟨bg, 0, none⟩ = some (.string nm)) (hbg : bg < w.heap.size) :
    Calls Tryz.prog 101 #[.slice A n c, .func (.func 68) #[] #[.pointer (some ⟨bg, 0, none⟩)]] w fun e w' =>
      e = .returned (.int .i64 (idxB (fun x : Quantity => strEq x.name nm) xs)) ∧ Below w.heap.size w w' := by
  subst hn
  have HA := Lib.hid hA
  clear hA
  have Hc0 := Lib.hid hc0; clear hc0
  go_enter Tryz.func101, Tryz.ntmps101
  go_wp2
  go_loopw [8] (fun i wr => ∃ k : Nat, k ≤ xs.length ∧ i = .int .i64 k ∧ Hid ((xs.take k).any (fun x : Quantity => strEq x.name nm) = false) ∧ Below w.heap.size w wr) (fun i _ => xs.length - (intOf i).toNat)
  case atStart => exact ⟨0, by omega, rfl, Lib.hid (by simp), Below.refl _ _⟩
  case round =>
    obtain ⟨k, hk, rfl, Hno, hb⟩ := hrel
    by_cases hlt : k < xs.length
    · obtain ⟨b, off, rfl, hbB, hcells⟩ := HA.out (by omega)
      have h0 := hcells k hlt
      clear hcells
      have c0 : wr.cell? ⟨b, off + k * 7, none⟩ = some (.string xs[k].name) := (hb.cell (p := ⟨b, _, none⟩) (by simp; omega)).trans (h0 0 _ rfl)
      have c1 : wr.cell? ⟨b, off + k * 7 + 1, none⟩ = some (.int .i64 xs[k].lo) := (hb.cell (p := ⟨b, _, none⟩) (by simp; omega)).trans (h0 1 _ rfl)
      have c2 : wr.cell? ⟨b, off + k * 7 + 2, none⟩ = some (.int .i64 xs[k].hi) := (hb.cell (p := ⟨b, _, none⟩) (by simp; omega)).trans (h0 2 _ rfl)
      have c3 : wr.cell? ⟨b, off + k * 7 + 3, none⟩ = some (.int .i64 xs[k].rise) := (hb.cell (p := ⟨b, _, none⟩) (by simp; omega)).trans (h0 3 _ rfl)
      have c4 : wr.cell? ⟨b, off + k * 7 + 4, none⟩ = some (.int .i64 xs[k].fall) := (hb.cell (p := ⟨b, _, none⟩) (by simp; omega)).trans (h0 4 _ rfl)
      have c5 : wr.cell? ⟨b, off + k * 7 + 5, none⟩ = some (.int .i64 xs[k].bad) := (hb.cell (p := ⟨b, _, none⟩) (by simp; omega)).trans (h0 5 _ rfl)
      have c6 : wr.cell? ⟨b, off + k * 7 + 6, none⟩ = some (.slice xs[k].gA xs[k].gs.length xs[k].gc) := (hb.cell (p := ⟨b, _, none⟩) (by simp; omega)).trans (h0 6 _ rfl)
      have hcg0 : wr.cell? ⟨bg, 0, none⟩ = some (.string nm) := (hb.cell (p := ⟨bg, 0, none⟩) hbg).trans Hc0.out
      have Hs := Lib.hid (any_take_succ (p := fun x : Quantity => strEq x.name nm) hlt Hno.out)
      have Hh := Lib.hid (idxB_hit (p := fun x : Quantity => strEq x.name nm) hlt Hno.out)
      have hsz := hb.size
      clear h0
      cases hp : (fun x : Quantity => strEq x.name nm) xs[k]
      · go_wp2_with (go_at_call 68; refine (quantities1_any xs[k] nm bg _ (by assumption) (by omega)).mono ?_; rintro e w1 ⟨rfl, hb1⟩)
        go_roundw
        case rel => exact ⟨k + 1, by omega, by go_num, Lib.hid (Hs.out (by assumption)), hb.trans (hb1.mono hsz)⟩
        case measure => simp [intOf]; omega
      · go_wp2_with (go_at_call 68; refine (quantities1_any xs[k] nm bg _ (by assumption) (by omega)).mono ?_; rintro e w1 ⟨rfl, hb1⟩)
        go_ret
        exact ⟨ret_int (Hh.out (by assumption)).symm, hb.trans (hb1.mono hsz)⟩
    · have HN := Lib.hid (idxB_none (p := fun x : Quantity => strEq x.name nm) (xs := xs) (by rw [← Hno.out, List.take_of_length_le (by omega)]))
      go_wp2
      go_ret
      exact ⟨ret_int HN.out.symm, hb⟩
theorem conQuantity_any (xs : List Quantity) (nm : ByteArray) (n : Nat) (hn : n = xs.length) (A : Option Addr) (c B bg : Nat) (w : World) (hA : Sl w B 7 encQ A xs) (hB : B ≤ w.heap.size) (hl : xs.length ≤ 1000000000)
    (hc0 : w.cell? ⟨bg, 0, none⟩ = some (.string nm)) (hbg : bg < w.heap.size) :
    Calls Tryz.prog 67 #[.slice A n c, .func (.func 68) #[] #[.pointer (some ⟨bg, 0, none⟩)]] w fun e w' =>
      e = .returned (.bool (xs.any (fun x : Quantity => strEq x.name nm))) ∧ Below w.heap.size w w' := by
  have H := Lib.hid (idxQuantity_any xs nm n hn A c B bg w hA hB hl hc0 hbg)
  clear hA hn hc0
  go_enter Tryz.func67, Tryz.ntmps67
  go_wp2_with (go_at_call 101; refine H.out.mono ?_; rintro e w1 ⟨rfl, hb1⟩)
  go_ret
  exact ⟨ret_bool idxB_any, hb1⟩

end Go.Proofs.YtcgnpndfhhcplaaGreatDoor
namespace Go.Proofs.YtcgnpndfhhcplaaGreatDoor
open Go.RowKit W7
theorem gErr_at {l : List Gauge} {k : Nat} (hk : k < l.length) (h : firstErr (gErrAt l) k = 0) (he : gErrAt l k ≠ 0) : gErr l = gErrAt l k := firstErr_at h he hk
theorem gErrAt_name {l : List Gauge} {k : Nat} (hk : k < l.length) (h : nameB l[k].name = false) : gErrAt l k = 5 := by
  simp [gErrAt, List.getD_eq_getElem?_getD, List.getElem?_eq_getElem hk, h]
theorem gErrAt_twice {l : List Gauge} {k : Nat} (hk : k < l.length) (h : nameB l[k].name = true) (h2 : (l.take k).any (fun x => strEq x.name l[k].name) = true) : gErrAt l k = 6 := by
  simp only [gErrAt, List.getD_eq_getElem?_getD, List.getElem?_eq_getElem hk, h, h2, Option.getD_some, if_true]
theorem gErrAt_rest {l : List Gauge} {k : Nat} (hk : k < l.length) (h : nameB l[k].name = true) (h2 : (l.take k).any (fun x => strEq x.name l[k].name) = false) : gErrAt l k = if gaugeB l[k] then 0 else 1 := by
  simp only [gErrAt, List.getD_eq_getElem?_getD, List.getElem?_eq_getElem hk, h, h2, Option.getD_some, if_true, if_false, Bool.false_eq_true]
set_option maxHeartbeats 4000000 in
theorem checkQuantity_any (q : Quantity) (B : Nat) (w : World) (hq : QIn w B q) (hB : B ≤ w.heap.size) :
    Calls Tryz.prog 69 #[.agg #[.string q.name, .int .i64 q.lo, .int .i64 q.hi, .int .i64 q.rise, .int .i64 q.fall, .int .i64 q.bad, .slice q.gA q.gs.length q.gc]] w fun e w' =>
      e = .returned (.int .i64 (checkQB q)) ∧ Below w.heap.size w w' := by
  have hl := hq.len
  have hcap := hq.cap
  have hcap2 := hq.cap2
  cases h1 : isVal q.lo
  · have HC := Lib.hid (show checkQB q = 1 from by simp [checkQB, h1])
    go_enter Tryz.func69, Tryz.ntmps69
    go_wp2_with (first | (go_at_call 33; refine (isValue_any _ _).mono ?_; rintro e w' ⟨rfl, rfl⟩) | (go_at_call 32; refine (within_any _ _ _ _).mono ?_; rintro e w' ⟨rfl, rfl⟩))
    go_ret
    exact ⟨ret_int HC.out.symm, (by (repeat (refine Below.alloc ?_ (by first | exact Nat.le_refl _ | omega | (simp; done) | (simp; omega)) _)); exact Below.refl _ _)⟩
  cases h2 : isVal q.hi
  · have HC := Lib.hid (show checkQB q = 1 from by simp [checkQB, h1, h2])
    go_enter Tryz.func69, Tryz.ntmps69
    go_wp2_with (first | (go_at_call 33; refine (isValue_any _ _).mono ?_; rintro e w' ⟨rfl, rfl⟩) | (go_at_call 32; refine (within_any _ _ _ _).mono ?_; rintro e w' ⟨rfl, rfl⟩))
    go_ret
    exact ⟨ret_int HC.out.symm, (by (repeat (refine Below.alloc ?_ (by first | exact Nat.le_refl _ | omega | (simp; done) | (simp; omega)) _)); exact Below.refl _ _)⟩
  cases h3 : decide (q.lo ≤ q.hi)
  · have h3' : decide (q.hi < q.lo) = true := by simp at h3 ⊢; omega
    have HC := Lib.hid (show checkQB q = 1 from by simp [checkQB, h1, h2, h3])
    go_enter Tryz.func69, Tryz.ntmps69
    go_wp2_with (first | (go_at_call 33; refine (isValue_any _ _).mono ?_; rintro e w' ⟨rfl, rfl⟩) | (go_at_call 32; refine (within_any _ _ _ _).mono ?_; rintro e w' ⟨rfl, rfl⟩))
    go_ret
    exact ⟨ret_int HC.out.symm, (by (repeat (refine Below.alloc ?_ (by first | exact Nat.le_refl _ | omega | (simp; done) | (simp; omega)) _)); exact Below.refl _ _)⟩
  have h3' : decide (q.hi < q.lo) = false := by simp at h3 ⊢; omega
  cases h4 : withinB q.rise 0 10000
  · have HC := Lib.hid (show checkQB q = 1 from by simp [checkQB, h1, h2, h3, h4])
    go_enter Tryz.func69, Tryz.ntmps69
    go_wp2_with (first | (go_at_call 33; refine (isValue_any _ _).mono ?_; rintro e w' ⟨rfl, rfl⟩) | (go_at_call 32; refine (within_any _ _ _ _).mono ?_; rintro e w' ⟨rfl, rfl⟩))
    go_ret
    exact ⟨ret_int HC.out.symm, (by (repeat (refine Below.alloc ?_ (by first | exact Nat.le_refl _ | omega | (simp; done) | (simp; omega)) _)); exact Below.refl _ _)⟩
  cases h5 : withinB q.fall 0 10000
  · have HC := Lib.hid (show checkQB q = 1 from by simp [checkQB, h1, h2, h3, h4, h5])
    go_enter Tryz.func69, Tryz.ntmps69
    go_wp2_with (first | (go_at_call 33; refine (isValue_any _ _).mono ?_; rintro e w' ⟨rfl, rfl⟩) | (go_at_call 32; refine (within_any _ _ _ _).mono ?_; rintro e w' ⟨rfl, rfl⟩))
    go_ret
    exact ⟨ret_int HC.out.symm, (by (repeat (refine Below.alloc ?_ (by first | exact Nat.le_refl _ | omega | (simp; done) | (simp; omega)) _)); exact Below.refl _ _)⟩
  by_cases h6 : q.gs.length ≤ 8
  rotate_left
  · have HC := Lib.hid (show checkQB q = 3 from by simp [checkQB, h1, h2, h3, h4, h5, h6])
    go_enter Tryz.func69, Tryz.ntmps69
    go_wp2_with (first | (go_at_call 33; refine (isValue_any _ _).mono ?_; rintro e w' ⟨rfl, rfl⟩) | (go_at_call 32; refine (within_any _ _ _ _).mono ?_; rintro e w' ⟨rfl, rfl⟩))
    go_ret
    exact ⟨ret_int HC.out.symm, (by (repeat (refine Below.alloc ?_ (by first | exact Nat.le_refl _ | omega | (simp; done) | (simp; omega)) _)); exact Below.refl _ _)⟩
  cases h7 : withinB q.bad 0 q.gs.length
  · have HC := Lib.hid (show checkQB q = 1 from by simp [checkQB, h1, h2, h3, h4, h5, h6, h7])
    go_enter Tryz.func69, Tryz.ntmps69
    go_wp2_with (first | (go_at_call 33; refine (isValue_any _ _).mono ?_; rintro e w' ⟨rfl, rfl⟩) | (go_at_call 32; refine (within_any _ _ _ _).mono ?_; rintro e w' ⟨rfl, rfl⟩))
    go_ret
    exact ⟨ret_int HC.out.symm, (by (repeat (refine Below.alloc ?_ (by first | exact Nat.le_refl _ | omega | (simp; done) | (simp; omega)) _)); exact Below.refl _ _)⟩
  have HC := Lib.hid (show checkQB q = gErr q.gs from by simp [checkQB, h1, h2, h3, h4, h5, h6, h7])
  have Hsl := Lib.hid hq.sl; have Hnm := Lib.hid hq.gnm
  go_enter Tryz.func69, Tryz.ntmps69
  go_wp2_with (first | (go_at_call 33; refine (isValue_any _ _).mono ?_; rintro e w' ⟨rfl, rfl⟩) | (go_at_call 32; refine (within_any _ _ _ _).mono ?_; rintro e w' ⟨rfl, rfl⟩))
  have Hw : Hid (Below (w.heap.size + 1) (w.alloc (.cells #[.string q.name, .int .i64 q.lo, .int .i64 q.hi, .int .i64 q.rise, .int .i64 q.fall, .int .i64 q.bad, .slice q.gA q.gs.length q.gc] 47)) (w.alloc (.cells #[.string q.name, .int .i64 q.lo, .int .i64 q.hi, .int .i64 q.rise, .int .i64 q.fall, .int .i64 q.bad, .slice q.gA q.gs.length q.gc] 47))) := Below.refl _ _
  have Hbw := Lib.hid ((Below.refl w.heap.size w).alloc (Nat.le_refl _) (.cells #[.string q.name, .int .i64 q.lo, .int .i64 q.hi, .int .i64 q.rise, .int .i64 q.fall, .int .i64 q.bad, .slice q.gA q.gs.length q.gc] 47))
  go_loopw [55] (fun i wr => ∃ k : Nat, k ≤ q.gs.length ∧ i = .int .i64 k ∧ Hid (firstErr (gErrAt q.gs) k = 0) ∧ Hid (Below (w.heap.size + 1) (w.alloc (.cells #[.string q.name, .int .i64 q.lo, .int .i64 q.hi, .int .i64 q.rise, .int .i64 q.fall, .int .i64 q.bad, .slice q.gA q.gs.length q.gc] 47)) wr)) (fun i _ => q.gs.length - (intOf i).toNat)
  case atStart => exact ⟨0, by omega, rfl, Lib.hid rfl, Hw⟩
  case round =>
    clear Hw
    obtain ⟨k, hk, rfl, He, Hb⟩ := hrel
    have hsz : w.heap.size < wr.heap.size := by have := Hb.out.size; simp at this; omega
    have Hbel := Lib.hid (Hbw.out.trans (Hb.out.mono (Nat.le_succ _)))
    by_cases hlt : k < q.gs.length
    · have HA := Lib.hid ((Hsl.out.below_le Hbel.out hB).mono (B' := w.heap.size) hB)
      obtain ⟨b, off, hgA, hbB, hcells⟩ := HA.out (by omega)
      have h0 := hcells k hlt
      have Hn := Lib.hid (Hnm.out q.gs[k] (List.getElem_mem hlt))
      clear hcells
      have q0 : ∀ j v, (#[Value.string q.name, .int .i64 q.lo, .int .i64 q.hi, .int .i64 q.rise, .int .i64 q.fall, .int .i64 q.bad, .slice q.gA q.gs.length q.gc] : Array Value)[j]? = some v → wr.cell? ⟨w.heap.size, j, none⟩ = some v := fun j v hv => (Hb.out.cell (p := ⟨w.heap.size, j, none⟩) (by simp)).trans (alloc_cell hv)
      have q6 := q0 6 _ rfl
      clear q0
      have c0 : wr.cell? ⟨b, off + k * 4, none⟩ = some (.string q.gs[k].name) := h0 0 _ rfl
      have c1 : wr.cell? ⟨b, off + k * 4 + 1, none⟩ = some (.int .i64 q.gs[k].acc) := h0 1 _ rfl
      have c2 : wr.cell? ⟨b, off + k * 4 + 2, none⟩ = some (.int .i64 q.gs[k].drift) := h0 2 _ rfl
      have c3 : wr.cell? ⟨b, off + k * 4 + 3, none⟩ = some (.int .i64 q.gs[k].since) := h0 3 _ rfl
      have Hg := Lib.hid hgA
      clear h0
      cases hn : nameB q.gs[k].name
      · have HE := Lib.hid (gErr_at hlt He.out (by rw [gErrAt_name hlt hn]; decide))
        have HE2 := Lib.hid (gErrAt_name hlt hn)
        rw [hgA] at q6 ⊢
        go_wp2_with (go_at_call 66; refine (isName_any q.gs[k].name (by have := Hn.out; unfold maxLen; omega) _).mono ?_; rintro e w1 ⟨rfl, rfl⟩)
        go_ret
        exact ⟨ret_int (by rw [HC.out, HE.out, HE2.out]), Hbel.out.trans ((by (repeat (refine Below.alloc ?_ (by first | exact Nat.le_refl _ | omega | (simp; done) | (simp; omega)) _)); exact Below.refl _ _))⟩
      have HB1 := Lib.hid ((Below.refl w.heap.size wr).alloc (Nat.le_of_lt hsz) (.cells #[.string q.gs[k].name, .int .i64 q.gs[k].acc, .int .i64 q.gs[k].drift, .int .i64 q.gs[k].since] 28))
      have HCon := Lib.hid (conGauge_any (q.gs.take k) q.gs[k].name k (by simp; omega) (some ⟨b, off, none⟩) q.gc w.heap.size wr.heap.size (wr.alloc (.cells #[.string q.gs[k].name, .int .i64 q.gs[k].acc, .int .i64 q.gs[k].drift, .int .i64 q.gs[k].since] 28))
        ((by rw [← hgA]; exact HA.out.take k : Sl wr w.heap.size 4 encG (some ⟨b, off, none⟩) (q.gs.take k)).below HB1.out) (by simp; omega) (by simp; omega) (alloc_cell rfl) (by simp))
      have hn' := Lib.hid hn
      cases ht : (q.gs.take k).any (fun x => strEq x.name q.gs[k].name)
      rotate_left
      · have HE := Lib.hid (gErr_at hlt He.out (by rw [gErrAt_twice hlt hn ht]; decide))
        have HE2 := Lib.hid (gErrAt_twice hlt hn ht)
        rw [hgA] at q6 ⊢
        go_wp2_with (first | (go_at_call 66; refine (isName_any q.gs[k].name (by have := Hn.out; unfold maxLen; omega) _).mono ?_; rintro e w1 ⟨rfl, rfl⟩) | (go_at_call 102; refine HCon.out.mono ?_; rintro e w1 ⟨rfl, hb1⟩))
        go_ret
        exact ⟨ret_int (by rw [HC.out, HE.out, HE2.out]), Hbel.out.trans (HB1.out.trans (hb1.mono (by simp; omega)))⟩
      have HE0 := Lib.hid (gErrAt_rest hlt hn ht)
      cases hgb : gaugeB q.gs[k]
      · have HE := Lib.hid (gErr_at hlt He.out (by rw [HE0.out, hgb]; decide))
        rw [hgA] at q6 ⊢
        go_wp2_with (first | (go_at_call 66; refine (isName_any q.gs[k].name (by have := Hn.out; unfold maxLen; omega) _).mono ?_; rintro e w1 ⟨rfl, rfl⟩) | (go_at_call 102; refine HCon.out.mono ?_; rintro e w1 ⟨rfl, hb1⟩; obtain ⟨hcl, hfr⟩ := bcell hb1) | (go_at_call 46; refine (checkGauge_any q.gs[k] _).mono ?_; rintro e w2 ⟨rfl, hb2⟩))
        go_ret
        exact ⟨ret_int (by rw [HC.out, HE.out, HE0.out, hgb]; rfl), Hbel.out.trans (HB1.out.trans ((hb1.mono (by simp; omega)).trans (hb2.mono (by have := hb1.size; simp at this; omega))))⟩
      · rw [hgA] at q6 ⊢
        go_wp2_with (first | (go_at_call 66; refine (isName_any q.gs[k].name (by have := Hn.out; unfold maxLen; omega) _).mono ?_; rintro e w1 ⟨rfl, rfl⟩) | (go_at_call 102; refine HCon.out.mono ?_; rintro e w1 ⟨rfl, hb1⟩; obtain ⟨hcl, hfr⟩ := bcell hb1) | (go_at_call 46; refine (checkGauge_any q.gs[k] _).mono ?_; rintro e w2 ⟨rfl, hb2⟩))
        go_roundw
        case rel => exact ⟨k + 1, by omega, by go_num, Lib.hid (by rw [firstErr_succ He.out, HE0.out, hgb]; rfl), by rw [hgA] at Hb; exact Lib.hid (Hb.out.trans (((Below.refl _ _).alloc (by omega) _).trans ((hb1.mono (by simp; omega)).trans (hb2.mono (by have := hb1.size; simp at this; omega)))))⟩
        case measure => simp [intOf]; omega
    · go_wp2
      go_ret
      exact ⟨ret_int (by rw [HC.out, gErr, ← He.out]; congr 1; omega), Hbel.out⟩
end Go.Proofs.YtcgnpndfhhcplaaGreatDoor
namespace Go.Proofs.YtcgnpndfhhcplaaGreatDoor
open Go.RowKit W7
set_option maxHeartbeats 4000000 in
theorem quantities_any (l : List Quantity) (A : Option Addr) (c B : Nat) (w : World) (hA : Sl w B 7 encQ A l) (hin : ∀ q ∈ l, QIn w B q) (hB : B ≤ w.heap.size) (hl : l.length ≤ c) (_hc : c ≤ 9223372036854775807) :
    Calls Tryz.prog 30 #[.slice A l.length c] w fun e w' => e = .returned (.int .i64 (qsErr l)) ∧ Below w.heap.size w w' := by
  by_cases h6 : l.length ≤ 16
  rotate_left
  · have HC := Lib.hid (show qsErr l = 3 from by simp [qsErr, h6])
    go_enter Tryz.func30, Tryz.ntmps30
    go_wp2
    go_ret
    exact ⟨ret_int HC.out.symm, (by (repeat (refine Below.alloc ?_ (by first | exact Nat.le_refl _ | omega | (simp; done) | (simp; omega)) _)); exact Below.refl _ _)⟩
  have HC := Lib.hid (show qsErr l = firstErr (qErrAt l) l.length from by simp [qsErr, h6])
  have HA := Lib.hid hA; have Hin := Lib.hid hin
  clear hA hin
  go_enter Tryz.func30, Tryz.ntmps30
  go_wp2
  go_loopw [11] (fun i wr => ∃ k : Nat, k ≤ l.length ∧ i = .int .i64 k ∧ Hid (firstErr (qErrAt l) k = 0) ∧ Hid (Below w.heap.size w wr)) (fun i _ => l.length - (intOf i).toNat)
  case atStart => exact ⟨0, by omega, rfl, Lib.hid rfl, Lib.hid (Below.refl _ _)⟩
  case round =>
    obtain ⟨k, hk, rfl, He, Hb⟩ := hrel
    have hsz : w.heap.size ≤ wr.heap.size := Hb.out.size
    by_cases hlt : k < l.length
    · obtain ⟨b, off, rfl, hbB, hcells⟩ := HA.out (by omega)
      have h0 := hcells k hlt
      have Hq := Lib.hid (((Hin.out l[k] (List.getElem_mem hlt)).mono hB).below Hb.out)
      have hnm := Hq.out.nm
      have HA2 := Lib.hid ((HA.out.mono hB).below Hb.out)
      clear hcells
      have c0 : wr.cell? ⟨b, off + k * 7, none⟩ = some (.string l[k].name) := (Hb.out.cell (p := ⟨b, _, none⟩) (by simp; omega)).trans (h0 0 _ rfl)
      have c1 : wr.cell? ⟨b, off + k * 7 + 1, none⟩ = some (.int .i64 l[k].lo) := (Hb.out.cell (p := ⟨b, _, none⟩) (by simp; omega)).trans (h0 1 _ rfl)
      have c2 : wr.cell? ⟨b, off + k * 7 + 2, none⟩ = some (.int .i64 l[k].hi) := (Hb.out.cell (p := ⟨b, _, none⟩) (by simp; omega)).trans (h0 2 _ rfl)
      have c3 : wr.cell? ⟨b, off + k * 7 + 3, none⟩ = some (.int .i64 l[k].rise) := (Hb.out.cell (p := ⟨b, _, none⟩) (by simp; omega)).trans (h0 3 _ rfl)
      have c4 : wr.cell? ⟨b, off + k * 7 + 4, none⟩ = some (.int .i64 l[k].fall) := (Hb.out.cell (p := ⟨b, _, none⟩) (by simp; omega)).trans (h0 4 _ rfl)
      have c5 : wr.cell? ⟨b, off + k * 7 + 5, none⟩ = some (.int .i64 l[k].bad) := (Hb.out.cell (p := ⟨b, _, none⟩) (by simp; omega)).trans (h0 5 _ rfl)
      have c6 : wr.cell? ⟨b, off + k * 7 + 6, none⟩ = some (.slice l[k].gA l[k].gs.length l[k].gc) := (Hb.out.cell (p := ⟨b, _, none⟩) (by simp; omega)).trans (h0 6 _ rfl)
      clear h0
      obtain ⟨cs, hcs⟩ : ∃ cs : Array Value, cs = #[.string l[k].name, .int .i64 l[k].lo, .int .i64 l[k].hi, .int .i64 l[k].rise, .int .i64 l[k].fall, .int .i64 l[k].bad, .slice l[k].gA l[k].gs.length l[k].gc] := ⟨_, rfl⟩
      have HB1 := Lib.hid ((Below.refl w.heap.size wr).alloc hsz (.cells cs 47))
      have HCon := Lib.hid (conQuantity_any (l.take k) l[k].name k (by simp; omega) (some ⟨b, off, none⟩) c w.heap.size wr.heap.size (wr.alloc (.cells cs 47))
        ((HA2.out.take k).below HB1.out) (by simp; omega) (by simp; omega) (alloc_cell (by rw [hcs]; rfl)) (by simp))
      rw [hcs] at HB1 HCon
      clear hcs
      cases hn : nameB l[k].name
      · have HE := Lib.hid (firstErr_at He.out (by rw [qErrAt_name hlt hn]; decide) hlt)
        have HE2 := Lib.hid (qErrAt_name hlt hn)
        go_wp2_with (go_at_call 66; refine (isName_any l[k].name (by unfold maxLen; omega) _).mono ?_; rintro e w1 ⟨rfl, rfl⟩)
        go_ret
        exact ⟨ret_int (by rw [HC.out, HE.out, HE2.out]), Hb.out.trans HB1.out⟩
      cases ht : (l.take k).any (fun x => strEq x.name l[k].name)
      rotate_left
      · have HE := Lib.hid (firstErr_at He.out (by rw [qErrAt_twice hlt hn ht]; decide) hlt)
        have HE2 := Lib.hid (qErrAt_twice hlt hn ht)
        go_wp2_with (first | (go_at_call 66; refine (isName_any l[k].name (by unfold maxLen; omega) _).mono ?_; rintro e w1 ⟨rfl, rfl⟩) | (go_at_call 67; refine HCon.out.mono ?_; rintro e w1 ⟨rfl, hb1⟩))
        go_ret
        exact ⟨ret_int (by rw [HC.out, HE.out, HE2.out]), Hb.out.trans (HB1.out.trans (hb1.mono (by simp; omega)))⟩
      have HE0 := Lib.hid (qErrAt_rest hlt hn ht)
      cases hgb : (checkQB l[k] != 0)
      · have hgb' : checkQB l[k] = 0 := by simpa using hgb
        have Hgb := Lib.hid hgb'; clear hgb'
        go_wp2_with (first | (go_at_call 66; refine (isName_any l[k].name (by unfold maxLen; omega) _).mono ?_; rintro e w1 ⟨rfl, rfl⟩) | (go_at_call 67; refine HCon.out.mono ?_; rintro e w1 ⟨rfl, hb1⟩; obtain ⟨hcl, hfr⟩ := bcell hb1; have Hq1 := Lib.hid (Hq.out.mono hsz); have Hs1 := Lib.hid hb1.size) | (go_at_call 69; refine (checkQuantity_any l[k] wr.heap.size _ ((Hq1.out.below ((Below.refl _ _).alloc (Nat.le_refl _) _)).below (hb1.mono (by simp))) (by have := Hs1.out; simp at this; omega)).mono ?_; rintro e w2 ⟨rfl, hb2⟩))
        go_roundw
        case rel => exact ⟨k + 1, by omega, by go_num, Lib.hid (by rw [firstErr_succ He.out, HE0.out, Hgb.out]), Lib.hid (Hb.out.trans (HB1.out.trans ((hb1.mono (by simp; omega)).trans (hb2.mono (by have := hb1.size; simp at this; omega)))))⟩
        case measure => simp [intOf]; omega
      · have HE := Lib.hid (firstErr_at He.out (by rw [HE0.out]; simpa using hgb) hlt)
        go_wp2_with (first | (go_at_call 66; refine (isName_any l[k].name (by unfold maxLen; omega) _).mono ?_; rintro e w1 ⟨rfl, rfl⟩) | (go_at_call 67; refine HCon.out.mono ?_; rintro e w1 ⟨rfl, hb1⟩; obtain ⟨hcl, hfr⟩ := bcell hb1; have Hq1 := Lib.hid (Hq.out.mono hsz); have Hs1 := Lib.hid hb1.size) | (go_at_call 69; refine (checkQuantity_any l[k] wr.heap.size _ ((Hq1.out.below ((Below.refl _ _).alloc (Nat.le_refl _) _)).below (hb1.mono (by simp))) (by have := Hs1.out; simp at this; omega)).mono ?_; rintro e w2 ⟨rfl, hb2⟩))
        go_ret
        exact ⟨ret_int (by rw [HC.out, HE.out, HE0.out]), Hb.out.trans (HB1.out.trans ((hb1.mono (by simp; omega)).trans (hb2.mono (by have := hb1.size; simp at this; omega))))⟩
    · go_wp2
      go_ret
      exact ⟨ret_int (by rw [HC.out, ← He.out]; congr 1; omega), Hb.out⟩
end Go.Proofs.YtcgnpndfhhcplaaGreatDoor
namespace W7
structure Measure where
  name : ByteArray
  crew : ByteArray
  rank : Int
  lag : Int
  takes : Int
deriving Inhabited
structure Alarm where
  q : Int
  level : Int
  limit : Int
  m : Int
deriving Inhabited
structure Plan where
  qA : Option Go.Addr
  qc : Nat
  qs : List Quantity
  mA : Option Go.Addr
  mc : Nat
  ms : List Measure
  aA : Option Go.Addr
  ac : Nat
  al : List Alarm
deriving Inhabited
def encM (m : Measure) : List Go.Value := [.string m.name, .string m.crew, .int .i64 m.rank, .int .i64 m.lag, .int .i64 m.takes]
def encA (a : Alarm) : List Go.Value := [.int .i64 a.q, .int .i64 a.level, .int .i64 a.limit, .int .i64 a.m]
/-- how a plan lies in memory -/
structure PIn (w : Go.World) (B : Nat) (p : Plan) : Prop where
  qsl : Sl w B 7 encQ p.qA p.qs
  qin : ∀ q ∈ p.qs, QIn w B q
  qlc : p.qs.length ≤ p.qc
  qc2 : p.qc ≤ 9223372036854775807
  msl : Sl w B 5 encM p.mA p.ms
  mnm : ∀ m ∈ p.ms, m.name.size ≤ 9223372036854775807 ∧ m.crew.size ≤ 9223372036854775807
  mlc : p.ms.length ≤ p.mc
  mc2 : p.mc ≤ 9223372036854775807
  asl : Sl w B 4 encA p.aA p.al
  alc : p.al.length ≤ p.ac
  ac2 : p.ac ≤ 9223372036854775807
theorem PIn.below {w w' : Go.World} {B : Nat} {p : Plan} (h : PIn w B p) (hb : Go.RowKit.Below B w w') : PIn w' B p := ⟨h.qsl.below hb, fun q hq => (h.qin q hq).below hb, h.qlc, h.qc2, h.msl.below hb, h.mnm, h.mlc, h.mc2, h.asl.below hb, h.alc, h.ac2⟩
theorem PIn.mono {w : Go.World} {B B' : Nat} {p : Plan} (h : PIn w B p) (hb : B ≤ B') : PIn w B' p := ⟨h.qsl.mono hb, fun q hq => (h.qin q hq).mono hb, h.qlc, h.qc2, h.msl.mono hb, h.mnm, h.mlc, h.mc2, h.asl.mono hb, h.alc, h.ac2⟩
/-- is a measure's name, crew; its times -/
def mNameB (m : Measure) : Bool := nameB m.name && nameB m.crew
def mTimeB (m : Measure) : Bool := isTm m.rank && isTm m.lag && isTm m.takes
def mErrAt (l : List Measure) (i : Nat) : Int :=
  if mNameB (l.getD i default) then
    if (l.take i).any (fun x => strEq x.name (l.getD i default).name) then 6 else
      if mTimeB (l.getD i default) then
        if (l.take i).any (fun x => strEq x.crew (l.getD i default).crew && (x.rank == (l.getD i default).rank)) then 10 else 0
      else 1
  else 5
/-- the first error of measures -/
def msErr (l : List Measure) : Int := if l.length ≤ 16 then firstErr (mErrAt l) l.length else 3
def aErrAt (p : Plan) (i : Nat) : Int :=
  if withinB (p.al.getD i default).q 0 ((p.qs.length : Int) - 1) && withinB (p.al.getD i default).m 0 ((p.ms.length : Int) - 1) then
    if isVal (p.al.getD i default).level && isVal (p.al.getD i default).limit then
      if (p.al.take i).any (fun x => x.m == (p.al.getD i default).m) then 6 else 0
    else 1
  else 7
/-- the first error of a plan -/
def planErr (p : Plan) : Int :=
  if qsErr p.qs = 0 then
    if msErr p.ms = 0 then
      if p.al.length ≤ 16 then firstErr (aErrAt p) p.al.length else 3
    else msErr p.ms
  else qsErr p.qs
theorem getD_lt {α : Type} [Inhabited α] {l : List α} {i : Nat} (h : i < l.length) : l.getD i default = l[i] := by
  rw [List.getD_eq_getElem?_getD, List.getElem?_eq_getElem h, Option.getD_some]
theorem mErr_v1 {l : List Measure} {k : Nat} (hk : k < l.length) (h : mNameB l[k] = false) : mErrAt l k = 5 := by
  unfold mErrAt; rw [getD_lt hk, h]; rfl
theorem mErr_v2 {l : List Measure} {k : Nat} (hk : k < l.length) (h : mNameB l[k] = true) (h2 : (l.take k).any (fun x => strEq x.name l[k].name) = true) : mErrAt l k = 6 := by
  unfold mErrAt; rw [getD_lt hk, h, if_pos rfl, h2]; rfl
theorem mErr_v3 {l : List Measure} {k : Nat} (hk : k < l.length) (h : mNameB l[k] = true) (h2 : (l.take k).any (fun x => strEq x.name l[k].name) = false) (h3 : mTimeB l[k] = false) : mErrAt l k = 1 := by
  unfold mErrAt; rw [getD_lt hk, h, if_pos rfl, h2, h3]; rfl
theorem mErr_v4 {l : List Measure} {k : Nat} (hk : k < l.length) (h : mNameB l[k] = true) (h2 : (l.take k).any (fun x => strEq x.name l[k].name) = false) (h3 : mTimeB l[k] = true) (h4 : (l.take k).any (fun x => strEq x.crew l[k].crew && (x.rank == l[k].rank)) = true) : mErrAt l k = 10 := by
  unfold mErrAt; rw [getD_lt hk, h, if_pos rfl, h2, h3, if_neg (by decide), if_pos rfl, h4]; rfl
theorem mErr_v5 {l : List Measure} {k : Nat} (hk : k < l.length) (h : mNameB l[k] = true) (h2 : (l.take k).any (fun x => strEq x.name l[k].name) = false) (h3 : mTimeB l[k] = true) (h4 : (l.take k).any (fun x => strEq x.crew l[k].crew && (x.rank == l[k].rank)) = false) : mErrAt l k = 0 := by
  unfold mErrAt; rw [getD_lt hk, h, if_pos rfl, h2, h3, if_neg (by decide), if_pos rfl, h4]; rfl
theorem aErr_v1 {p : Plan} {k : Nat} (hk : k < p.al.length) (h : (withinB p.al[k].q 0 ((p.qs.length : Int) - 1) && withinB p.al[k].m 0 ((p.ms.length : Int) - 1)) = false) : aErrAt p k = 7 := by
  unfold aErrAt; rw [getD_lt hk, h]; rfl
theorem aErr_v2 {p : Plan} {k : Nat} (hk : k < p.al.length) (h : (withinB p.al[k].q 0 ((p.qs.length : Int) - 1) && withinB p.al[k].m 0 ((p.ms.length : Int) - 1)) = true) (h2 : (isVal p.al[k].level && isVal p.al[k].limit) = false) : aErrAt p k = 1 := by
  unfold aErrAt; rw [getD_lt hk, h, if_pos rfl, h2]; rfl
theorem aErr_v3 {p : Plan} {k : Nat} (hk : k < p.al.length) (h : (withinB p.al[k].q 0 ((p.qs.length : Int) - 1) && withinB p.al[k].m 0 ((p.ms.length : Int) - 1)) = true) (h2 : (isVal p.al[k].level && isVal p.al[k].limit) = true) (h3 : (p.al.take k).any (fun x => x.m == p.al[k].m) = true) : aErrAt p k = 6 := by
  unfold aErrAt; rw [getD_lt hk, h, if_pos rfl, h2, if_pos rfl, h3]; rfl
theorem aErr_v4 {p : Plan} {k : Nat} (hk : k < p.al.length) (h : (withinB p.al[k].q 0 ((p.qs.length : Int) - 1) && withinB p.al[k].m 0 ((p.ms.length : Int) - 1)) = true) (h2 : (isVal p.al[k].level && isVal p.al[k].limit) = true) (h3 : (p.al.take k).any (fun x => x.m == p.al[k].m) = false) : aErrAt p k = 0 := by
  unfold aErrAt; rw [getD_lt hk, h, if_pos rfl, h2, if_pos rfl, h3]; rfl
end W7
namespace Go.Proofs.YtcgnpndfhhcplaaGreatDoor
open Go.RowKit W7
theorem checkReading_any (q : Quantity) (r : Reading) (w : World) (hl : q.gs.length ≤ 9223372036854775807) :
    Calls Tryz.prog 85 #[.agg #[.string q.name, .int .i64 q.lo, .int .i64 q.hi, .int .i64 q.rise, .int .i64 q.fall, .int .i64 q.bad, .slice q.gA q.gs.length q.gc], .agg #[.int .i64 r.g, .int .i64 r.t, .int .i64 r.v]] w fun e w' =>
      e = .returned (.int .i64 (rErr q r)) ∧ Below w.heap.size w w' := by
  cases h1 : withinB r.g 0 ((q.gs.length : Int) - 1)
  · have HC := Lib.hid (show rErr q r = 7 from by simp [rErr, h1])
    go_enter Tryz.func85, Tryz.ntmps85
    go_wp2_with (first | (go_at_call 32; refine (within_any _ _ _ _).mono ?_; rintro e w' ⟨rfl, rfl⟩))
    go_ret
    exact ⟨ret_int HC.out.symm, (by (repeat (refine Below.alloc ?_ (by first | exact Nat.le_refl _ | omega | (simp; done) | (simp; omega)) _)); exact Below.refl _ _)⟩
  cases h2 : isTm r.t
  · have HC := Lib.hid (show rErr q r = 1 from by simp [rErr, h1, h2])
    go_enter Tryz.func85, Tryz.ntmps85
    go_wp2_with (first | (go_at_call 32; refine (within_any _ _ _ _).mono ?_; rintro e w' ⟨rfl, rfl⟩) | (go_at_call 47; refine (isTime_any _ _).mono ?_; rintro e w' ⟨rfl, rfl⟩))
    go_ret
    exact ⟨ret_int HC.out.symm, (by (repeat (refine Below.alloc ?_ (by first | exact Nat.le_refl _ | omega | (simp; done) | (simp; omega)) _)); exact Below.refl _ _)⟩
  cases h3 : isVal r.v
  · have HC := Lib.hid (show rErr q r = 1 from by simp [rErr, h1, h2, h3])
    go_enter Tryz.func85, Tryz.ntmps85
    go_wp2_with (first | (go_at_call 32; refine (within_any _ _ _ _).mono ?_; rintro e w' ⟨rfl, rfl⟩) | (go_at_call 47; refine (isTime_any _ _).mono ?_; rintro e w' ⟨rfl, rfl⟩) | (go_at_call 33; refine (isValue_any _ _).mono ?_; rintro e w' ⟨rfl, rfl⟩))
    go_ret
    exact ⟨ret_int HC.out.symm, (by (repeat (refine Below.alloc ?_ (by first | exact Nat.le_refl _ | omega | (simp; done) | (simp; omega)) _)); exact Below.refl _ _)⟩
  · have HC := Lib.hid (show rErr q r = 0 from by simp [rErr, h1, h2, h3])
    go_enter Tryz.func85, Tryz.ntmps85
    go_wp2_with (first | (go_at_call 32; refine (within_any _ _ _ _).mono ?_; rintro e w' ⟨rfl, rfl⟩) | (go_at_call 47; refine (isTime_any _ _).mono ?_; rintro e w' ⟨rfl, rfl⟩) | (go_at_call 33; refine (isValue_any _ _).mono ?_; rintro e w' ⟨rfl, rfl⟩))
    go_ret
    exact ⟨ret_int HC.out.symm, (by (repeat (refine Below.alloc ?_ (by first | exact Nat.le_refl _ | omega | (simp; done) | (simp; omega)) _)); exact Below.refl _ _)⟩
theorem rErrAt_at {q : Quantity} {l : List Reading} {k : Nat} (hk : k < l.length) : rErrAt q l k = rErr q l[k] := by
  simp [rErrAt, List.getD_eq_getElem?_getD, List.getElem?_eq_getElem hk]
set_option maxHeartbeats 4000000 in
theorem checked_any (q : Quantity) (l : List Reading) (A : Option Addr) (c B : Nat) (w : World) (hq : QIn w B q) (hA : Sl w B 3 encR A l) (hB : B ≤ w.heap.size) (_hl : l.length ≤ c) (_hc : c ≤ 9223372036854775807) :
    Calls Tryz.prog 57 #[.agg #[.string q.name, .int .i64 q.lo, .int .i64 q.hi, .int .i64 q.rise, .int .i64 q.fall, .int .i64 q.bad, .slice q.gA q.gs.length q.gc], .slice A l.length c] w fun e w' =>
      e = .returned (.int .i64 (checkedE q l)) ∧ Below w.heap.size w w' := by
  have hgl := hq.len
  obtain ⟨cs, hcs⟩ : ∃ cs : Array Value, cs = #[.string q.name, .int .i64 q.lo, .int .i64 q.hi, .int .i64 q.rise, .int .i64 q.fall, .int .i64 q.bad, .slice q.gA q.gs.length q.gc] := ⟨_, rfl⟩
  have hcs' : cs.toList = encQ q := by rw [hcs]; rfl
  have HB0 := Lib.hid (((Below.refl w.heap.size w).alloc (Nat.le_refl _) (.cells cs 47)).alloc (by simp) (.cells cs 47))
  have HQs := Lib.hid (quantities_any [q] (some ⟨w.heap.size + 1, 0, none⟩) 1 (w.heap.size + 2) ((w.alloc (.cells cs 47)).alloc (.cells cs 47))
    (fun _ => ⟨_, _, rfl, by omega, fun i hi j v hv => by
      obtain rfl : i = 0 := by simpa using hi
      have h := alloc_cell (w := w.alloc (.cells cs 47)) (cs := cs) (e := 47) (j := j) (v := v) (by rw [← Array.getElem?_toList, hcs']; exact hv)
      simpa using h⟩)
    (fun x hx => by
      obtain rfl : x = q := by simpa using hx
      exact (hq.below (HB0.out.mono hB)).mono (by omega)) (by simp) (by simp) (by simp))
  have Hrs := Lib.hid ((hA.below (HB0.out.mono hB)).mono (B' := w.heap.size) hB)
  rw [hcs] at HQs HB0 Hrs
  clear hcs' hcs hA
  cases hqe : (qsErr [q] != 0)
  rotate_left
  · have HC := Lib.hid (show checkedE q l = qsErr [q] from by simp at hqe; simp [checkedE, hqe])
    go_enter Tryz.func57, Tryz.ntmps57
    go_wp2_with (go_at_call 30; refine HQs.out.mono ?_; rintro e w1 ⟨rfl, hb1⟩)
    go_ret
    exact ⟨ret_int HC.out.symm, HB0.out.trans (hb1.mono (by simp; omega))⟩
  have Hqe := Lib.hid (show qsErr [q] = 0 by simpa using hqe)
  by_cases h64 : l.length ≤ 64
  rotate_left
  · have HC := Lib.hid (show checkedE q l = 3 from by simp [checkedE, Hqe.out, h64])
    go_enter Tryz.func57, Tryz.ntmps57
    go_wp2_with (go_at_call 30; refine HQs.out.mono ?_; rintro e w1 ⟨rfl, hb1⟩)
    go_ret
    exact ⟨ret_int HC.out.symm, HB0.out.trans (hb1.mono (by simp; omega))⟩
  have HC := Lib.hid (show checkedE q l = firstErr (rErrAt q l) l.length from by simp [checkedE, Hqe.out, h64])
  go_enter Tryz.func57, Tryz.ntmps57
  go_wp2_with (go_at_call 30; refine HQs.out.mono ?_; rintro e w1 ⟨rfl, hb1⟩; have Hb1 := Lib.hid hb1; clear hb1)
  obtain ⟨w1, hw1⟩ : ∃ W, W = w1 := ⟨_, rfl⟩
  subst hw1
  have HBw := Lib.hid (HB0.out.trans (Hb1.out.mono (by simp; omega)))
  have hs1 : w.heap.size < w1.heap.size := by have := Hb1.out.size; simp at this; omega
  go_loopw [20] (fun i wr => ∃ k : Nat, k ≤ l.length ∧ i = .int .i64 k ∧ Hid (firstErr (rErrAt q l) k = 0) ∧ Hid (Below w1.heap.size w1 wr)) (fun i _ => l.length - (intOf i).toNat)
  case atStart => exact ⟨0, by omega, rfl, Lib.hid rfl, Lib.hid (Below.refl _ _)⟩
  case round =>
    obtain ⟨k, hk, rfl, He, Hb⟩ := hrel
    have hsz : w.heap.size < wr.heap.size := Nat.lt_of_lt_of_le hs1 Hb.out.size
    have Hbel := Lib.hid (HBw.out.trans (Hb.out.mono (Nat.le_of_lt hs1)))
    by_cases hlt : k < l.length
    · have HA := Lib.hid ((Hrs.out.below (Hb1.out.mono (by simp; omega))).below (Hb.out.mono (Nat.le_of_lt hs1)))
      obtain ⟨b, off, rfl, hbB, hcells⟩ := HA.out (by omega)
      have h0 := hcells k hlt
      clear hcells
      have c0 : wr.cell? ⟨b, off + k * 3, none⟩ = some (.int .i64 l[k].g) := h0 0 _ rfl
      have c1 : wr.cell? ⟨b, off + k * 3 + 1, none⟩ = some (.int .i64 l[k].t) := h0 1 _ rfl
      have c2 : wr.cell? ⟨b, off + k * 3 + 2, none⟩ = some (.int .i64 l[k].v) := h0 2 _ rfl
      have q0 : ∀ j v, (#[Value.string q.name, .int .i64 q.lo, .int .i64 q.hi, .int .i64 q.rise, .int .i64 q.fall, .int .i64 q.bad, .slice q.gA q.gs.length q.gc] : Array Value)[j]? = some v → wr.cell? ⟨w.heap.size, j, none⟩ = some v := fun j v hv => (Hb.out.cell (p := ⟨w.heap.size, j, none⟩) hs1).trans ((Hb1.out.cell (p := ⟨w.heap.size, j, none⟩) (by simp; omega)).trans ((World.cell?_alloc_lt _ _ _ (by simp)).trans (alloc_cell hv)))
      have e0 := q0 0 _ rfl
      have e1 := q0 1 _ rfl
      have e2 := q0 2 _ rfl
      have e3 := q0 3 _ rfl
      have e4 := q0 4 _ rfl
      have e5 := q0 5 _ rfl
      have e6 := q0 6 _ rfl
      clear h0 q0
      have HE0 := Lib.hid (rErrAt_at (q := q) (l := l) hlt)
      cases hgb : (rErr q l[k] != 0)
      · have Hgb := Lib.hid (show rErr q l[k] = 0 by simpa using hgb)
        go_wp2_with (first | (go_at_call 85; refine (checkReading_any q l[k] _ hgl).mono ?_; rintro e w2 ⟨rfl, hb2⟩))
        go_roundw
        case rel => exact ⟨k + 1, by omega, by go_num, Lib.hid (by rw [firstErr_succ He.out, HE0.out, Hgb.out]), Lib.hid (Hb.out.trans (((Below.refl _ _).alloc Hb.out.size _).trans (hb2.mono (by have := Hb.out.size; simp; omega))))⟩
        case measure => simp [intOf]; omega
      · have HE := Lib.hid (firstErr_at He.out (by rw [HE0.out]; simpa using hgb) hlt)
        go_wp2_with (first | (go_at_call 85; refine (checkReading_any q l[k] _ hgl).mono ?_; rintro e w2 ⟨rfl, hb2⟩))
        go_ret
        exact ⟨ret_int (by rw [HC.out, HE.out, HE0.out]), Hbel.out.trans (((Below.refl _ _).alloc (Nat.le_of_lt hsz) _).trans (hb2.mono (by simp; omega)))⟩
    · go_wp2
      go_ret
      exact ⟨ret_int (by rw [HC.out, ← He.out]; congr 1; omega), Hbel.out⟩
end Go.Proofs.YtcgnpndfhhcplaaGreatDoor
