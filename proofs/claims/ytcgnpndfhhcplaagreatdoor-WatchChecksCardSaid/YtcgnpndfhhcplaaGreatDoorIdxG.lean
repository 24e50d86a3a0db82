/-
  slices.IndexFunc and ContainsFunc over gauges and quantities, by name. Condition: how the slice lies in memory.
-/
import Derived.Test.YtcgnpndfhhcplaaGreatDoorLeaf
namespace Go.Proofs.YtcgnpndfhhcplaaGreatDoor
open Go.RowKit W7
theorem checkQuantity1_any (x : Gauge) (nm : ByteArray) (bg : Nat) (w : World) (hc : w.cell? ⟨bg, 0, none⟩ = some (.string nm)) (hbg : bg < w.heap.size) :
    Calls Tryz.prog 103 #[.agg #[.string x.name, .int .i64 x.acc, .int .i64 x.drift, .int .i64 x.since], .pointer (some ⟨bg, 0, none⟩)] w fun e w' => e = .returned (.bool (strEq x.name nm)) ∧ Below w.heap.size w w' := by
  go_enter Tryz.func103, Tryz.ntmps103
  go_wp2
  go_ret
  exact ⟨rfl, (by (repeat (refine Below.alloc ?_ (by first | exact Nat.le_refl _ | omega | (simp; done) | (simp; omega)) _)); exact Below.refl _ _)⟩
set_option maxHeartbeats 1000000 in
theorem idxGauge_any (xs : List Gauge) (nm : ByteArray) (n : Nat) (hn : n = xs.length) (A : Option Addr) (c B bg : Nat) (w : World) (hA : Sl w B 4 encG A xs) (hB : B ≤ w.heap.size) (hl : xs.length ≤ 1000000000)
    (hc0 : w.cell? ⟨bg, 0, none⟩ = some (.string nm)) (hbg : bg < w.heap.size) :
    Calls Tryz.prog 123 #[.slice A n c, .func (.func 103) #[] #[.pointer (some ⟨bg, 0, none⟩)]] w fun e w' =>
      e = .returned (.int .i64 (idxB (fun x : Gauge => strEq x.name nm) xs)) ∧ Below w.heap.size w w' := by
  subst hn
  have HA := Lib.hid hA
  clear hA
  have Hc0 := Lib.hid hc0; clear hc0
  go_enter Tryz.func123, Tryz.ntmps123
  go_wp2
  go_loopw [8] (fun i wr => ∃ k : Nat, k ≤ xs.length ∧ i = .int .i64 k ∧ Hid ((xs.take k).any (fun x : Gauge => strEq x.name nm) = false) ∧ Below w.heap.size w wr) (fun i _ => xs.length - (intOf i).toNat)
  case atStart => exact ⟨0, by omega, rfl, Lib.hid (by simp), Below.refl _ _⟩
  case round =>
    obtain ⟨k, hk, rfl, Hno, hb⟩ := hrel
    by_cases hlt : k < xs.length
    · obtain ⟨b, off, rfl, hbB, hcells⟩ := HA.out (by omega)
      have h0 := hcells k hlt
      clear hcells
      have c0 : wr.cell? ⟨b, off + k * 4, none⟩ = some (.string xs[k].name) := (hb.cell (p := ⟨b, _, none⟩) (by simp; omega)).trans (h0 0 _ rfl)
      have c1 : wr.cell? ⟨b, off + k * 4 + 1, none⟩ = some (.int .i64 xs[k].acc) := (hb.cell (p := ⟨b, _, none⟩) (by simp; omega)).trans (h0 1 _ rfl)
      have c2 : wr.cell? ⟨b, off + k * 4 + 2, none⟩ = some (.int .i64 xs[k].drift) := (hb.cell (p := ⟨b, _, none⟩) (by simp; omega)).trans (h0 2 _ rfl)
      have c3 : wr.cell? ⟨b, off + k * 4 + 3, none⟩ = some (.int .i64 xs[k].since) := (hb.cell (p := ⟨b, _, none⟩) (by simp; omega)).trans (h0 3 _ rfl)
      have hcg0 : wr.cell? ⟨bg, 0, none⟩ = some (.string nm) := (hb.cell (p := ⟨bg, 0, none⟩) hbg).trans Hc0.out
      have Hs := Lib.hid (any_take_succ (p := fun x : Gauge => strEq x.name nm) hlt Hno.out)
      have Hh := Lib.hid (idxB_hit (p := fun x : Gauge => strEq x.name nm) hlt Hno.out)
      have hsz := hb.size
      clear h0
      cases hp : (fun x : Gauge => strEq x.name nm) xs[k]
      · go_wp2_with (go_at_call 103; refine (checkQuantity1_any xs[k] nm bg _ (by assumption) (by omega)).mono ?_; rintro e w1 ⟨rfl, hb1⟩)
        go_roundw
        case rel => exact ⟨k + 1, by omega, by go_num, Lib.hid (Hs.out (by assumption)), hb.trans (hb1.mono hsz)⟩
        case measure => simp [intOf]; omega
      · go_wp2_with (go_at_call 103; refine (checkQuantity1_any xs[k] nm bg _ (by assumption) (by omega)).mono ?_; rintro e w1 ⟨rfl, hb1⟩)
        go_ret
        exact ⟨ret_int (Hh.out (by assumption)).symm, hb.trans (hb1.mono hsz)⟩
    · have HN := Lib.hid (idxB_none (p := fun x : Gauge => strEq x.name nm) (xs := xs) (by rw [← Hno.out, List.take_of_length_le (by omega)]))
      go_wp2
      go_ret
      exact ⟨ret_int HN.out.symm, hb⟩
theorem conGauge_any (xs : List Gauge) (nm : ByteArray) (n : Nat) (hn : n = xs.length) (A : Option Addr) (c B bg : Nat) (w : World) (hA : Sl w B 4 encG A xs) (hB : B ≤ w.heap.size) (hl : xs.length ≤ 1000000000)
    (hc0 : w.cell? ⟨bg, 0, none⟩ = some (.string nm)) (hbg : bg < w.heap.size) :
    Calls Tryz.prog 102 #[.slice A n c, .func (.func 103) #[] #[.pointer (some ⟨bg, 0, none⟩)]] w fun e w' =>
      e = .returned (.bool (xs.any (fun x : Gauge => strEq x.name nm))) ∧ Below w.heap.size w w' := by
  have H := Lib.hid (idxGauge_any xs nm n hn A c B bg w hA hB hl hc0 hbg)
  clear hA hn hc0
  go_enter Tryz.func102, Tryz.ntmps102
  go_wp2_with (go_at_call 123; refine H.out.mono ?_; rintro e w1 ⟨rfl, hb1⟩)
  go_ret
  exact ⟨ret_bool idxB_any, hb1⟩

theorem quantities1_any (x : Quantity) (nm : ByteArray) (bg : Nat) (w : World) (hc : w.cell? ⟨bg, 0, none⟩ = some (.string nm)) (hbg : bg < w.heap.size) :
    Calls Tryz.prog 68 #[.agg #[.string x.name, .int .i64 x.lo, .int .i64 x.hi, .int .i64 x.rise, .int .i64 x.fall, .int .i64 x.bad, .slice x.gA x.gs.length x.gc], .pointer (some ⟨bg, 0, none⟩)] w fun e w' => e = .returned (.bool (strEq x.name nm)) ∧ Below w.heap.size w w' := by
  go_enter Tryz.func68, Tryz.ntmps68
  go_wp2
  go_ret
  exact ⟨rfl, (by (repeat (refine Below.alloc ?_ (by first | exact Nat.le_refl _ | omega | (simp; done) | (simp; omega)) _)); exact Below.refl _ _)⟩
set_option maxHeartbeats 1000000 in
theorem idxQuantity_any (xs : List Quantity) (nm : ByteArray) (n : Nat) (hn : n = xs.length) (A : Option Addr) (c B bg : Nat) (w : World) (hA : Sl w B 7 encQ A xs) (hB : B ≤ w.heap.size) (hl : xs.length ≤ 1000000000)
    (hc0 : w.cell? ⟨bg, 0, none⟩ = some (.string nm)) (hbg : bg < w.heap.size) :
    Calls Tryz.prog 101 #[.slice A n c, .func (.func 68) #[] #[.pointer (some ⟨bg, 0, none⟩)]] w fun e w' =>
      e = .returned (.int .i64 (idxB (fun x : Quantity => strEq x.name nm) xs)) ∧ Below w.heap.size w w' := by
  subst hn
  have HA := Lib.hid hA
  clear hA
  have Hc0 := Lib.hid hc0; clear hc0
  go_enter Tryz.func101, Tryz.ntmps101
  go_wp2
  go_loopw [8] (fun i wr => ∃ k : Nat, k ≤ xs.length ∧ i = .int .i64 k ∧ Hid ((xs.take k).any (fun x : Quantity => strEq x.name nm) = false) ∧ Below w.heap.size w wr) (fun i _ => xs.length - (intOf i).toNat)
  case atStart => exact ⟨0, by omega, rfl, Lib.hid (by simp), Below.refl _ _⟩
  case round =>
    obtain ⟨k, hk, rfl, Hno, hb⟩ := hrel
    by_cases hlt : k < xs.length
    · obtain ⟨b, off, rfl, hbB, hcells⟩ := HA.out (by omega)
      have h0 := hcells k hlt
      clear hcells
      have c0 : wr.cell? ⟨b, off + k * 7, none⟩ = some (.string xs[k].name) := (hb.cell (p := ⟨b, _, none⟩) (by simp; omega)).trans (h0 0 _ rfl)
      have c1 : wr.cell? ⟨b, off + k * 7 + 1, none⟩ = some (.int .i64 xs[k].lo) := (hb.cell (p := ⟨b, _, none⟩) (by simp; omega)).trans (h0 1 _ rfl)
      have c2 : wr.cell? ⟨b, off + k * 7 + 2, none⟩ = some (.int .i64 xs[k].hi) := (hb.cell (p := ⟨b, _, none⟩) (by simp; omega)).trans (h0 2 _ rfl)
      have c3 : wr.cell? ⟨b, off + k * 7 + 3, none⟩ = some (.int .i64 xs[k].rise) := (hb.cell (p := ⟨b, _, none⟩) (by simp; omega)).trans (h0 3 _ rfl)
      have c4 : wr.cell? ⟨b, off + k * 7 + 4, none⟩ = some (.int .i64 xs[k].fall) := (hb.cell (p := ⟨b, _, none⟩) (by simp; omega)).trans (h0 4 _ rfl)
      have c5 : wr.cell? ⟨b, off + k * 7 + 5, none⟩ = some (.int .i64 xs[k].bad) := (hb.cell (p := ⟨b, _, none⟩) (by simp; omega)).trans (h0 5 _ rfl)
      have c6 : wr.cell? ⟨b, off + k * 7 + 6, none⟩ = some (.slice xs[k].gA xs[k].gs.length xs[k].gc) := (hb.cell (p := ⟨b, _, none⟩) (by simp; omega)).trans (h0 6 _ rfl)
      have hcg0 : wr.cell? ⟨bg, 0, none⟩ = some (.string nm) := (hb.cell (p := ⟨bg, 0, none⟩) hbg).trans Hc0.out
      have Hs := Lib.hid (any_take_succ (p := fun x : Quantity => strEq x.name nm) hlt Hno.out)
      have Hh := Lib.hid (idxB_hit (p := fun x : Quantity => strEq x.name nm) hlt Hno.out)
      have hsz := hb.size
      clear h0
      cases hp : (fun x : Quantity => strEq x.name nm) xs[k]
      · go_wp2_with (go_at_call 68; refine (quantities1_any xs[k] nm bg _ (by assumption) (by omega)).mono ?_; rintro e w1 ⟨rfl, hb1⟩)
        go_roundw
        case rel => exact ⟨k + 1, by omega, by go_num, Lib.hid (Hs.out (by assumption)), hb.trans (hb1.mono hsz)⟩
        case measure => simp [intOf]; omega
      · go_wp2_with (go_at_call 68; refine (quantities1_any xs[k] nm bg _ (by assumption) (by omega)).mono ?_; rintro e w1 ⟨rfl, hb1⟩)
        go_ret
        exact ⟨ret_int (Hh.out (by assumption)).symm, hb.trans (hb1.mono hsz)⟩
    · have HN := Lib.hid (idxB_none (p := fun x : Quantity => strEq x.name nm) (xs := xs) (by rw [← Hno.out, List.take_of_length_le (by omega)]))
      go_wp2
      go_ret
      exact ⟨ret_int HN.out.symm, hb⟩
theorem conQuantity_any (xs : List Quantity) (nm : ByteArray) (n : Nat) (hn : n = xs.length) (A : Option Addr) (c B bg : Nat) (w : World) (hA : Sl w B 7 encQ A xs) (hB : B ≤ w.heap.size) (hl : xs.length ≤ 1000000000)
    (hc0 : w.cell? ⟨bg, 0, none⟩ = some (.string nm)) (hbg : bg < w.heap.size) :
    Calls Tryz.prog 67 #[.slice A n c, .func (.func 68) #[] #[.pointer (some ⟨bg, 0, none⟩)]] w fun e w' =>
      e = .returned (.bool (xs.any (fun x : Quantity => strEq x.name nm))) ∧ Below w.heap.size w w' := by
  have H := Lib.hid (idxQuantity_any xs nm n hn A c B bg w hA hB hl hc0 hbg)
  clear hA hn hc0
  go_enter Tryz.func67, Tryz.ntmps67
  go_wp2_with (go_at_call 101; refine H.out.mono ?_; rintro e w1 ⟨rfl, hb1⟩)
  go_ret
  exact ⟨ret_bool idxB_any, hb1⟩

end Go.Proofs.YtcgnpndfhhcplaaGreatDoor
