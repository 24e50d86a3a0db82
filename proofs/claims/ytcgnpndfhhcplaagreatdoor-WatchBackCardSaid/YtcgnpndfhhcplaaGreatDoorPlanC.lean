/-
  Package watch's measures: the first error of measures. Condition: how they lie in memory.
  Package watch's Check: the first error of a plan. Condition: how it lies in memory.
-/
import Derived.Test.YtcgnpndfhhcplaaGreatDoorChkQ
namespace Go.Proofs.YtcgnpndfhhcplaaGreatDoor
open Go.RowKit W7
theorem measures1_any (x : Measure) (nm : ByteArray) (bg : Nat) (w : World) (hc : w.cell? ⟨bg, 0, none⟩ = some (.string nm)) (hbg : bg < w.heap.size) :
    Calls Tryz.prog 71 #[.agg #[.string x.name, .string x.crew, .int .i64 x.rank, .int .i64 x.lag, .int .i64 x.takes], .pointer (some ⟨bg, 0, none⟩)] w fun e w' => e = .returned (.bool (strEq x.name nm)) ∧ Below w.heap.size w w' := by
  go_enter Tryz.func71, Tryz.ntmps71
  go_wp2
  go_ret
  exact ⟨rfl, (by (repeat (refine Below.alloc ?_ (by first | exact Nat.le_refl _ | omega | (simp; done) | (simp; omega)) _)); exact Below.refl _ _)⟩
theorem measures2_any (x : Measure) (cw : ByteArray) (rk : Int) (bg : Nat) (w : World) (hc : w.cell? ⟨bg, 1, none⟩ = some (.string cw)) (hc2 : w.cell? ⟨bg, 2, none⟩ = some (.int .i64 rk)) (hbg : bg < w.heap.size) :
    Calls Tryz.prog 72 #[.agg #[.string x.name, .string x.crew, .int .i64 x.rank, .int .i64 x.lag, .int .i64 x.takes], .pointer (some ⟨bg, 0, none⟩)] w fun e w' => e = .returned (.bool (strEq x.crew cw && (x.rank == rk))) ∧ Below w.heap.size w w' := by
  by_cases h : x.crew.toList = cw.toList
  · have HE := Lib.hid (show strEq x.crew cw = true by unfold strEq; simp [h])
    go_enter Tryz.func72, Tryz.ntmps72
    go_wp2
    go_ret
    exact ⟨ret_bool (by rw [HE.out]; rfl), (by (repeat (refine Below.alloc ?_ (by first | exact Nat.le_refl _ | omega | (simp; done) | (simp; omega)) _)); exact Below.refl _ _)⟩
  · have HE := Lib.hid (show strEq x.crew cw = false by unfold strEq; simp [h])
    go_enter Tryz.func72, Tryz.ntmps72
    go_wp2
    go_ret
    exact ⟨ret_bool (by rw [HE.out]; rfl), (by (repeat (refine Below.alloc ?_ (by first | exact Nat.le_refl _ | omega | (simp; done) | (simp; omega)) _)); exact Below.refl _ _)⟩
set_option maxHeartbeats 1000000 in
theorem idxMeasA_any (xs : List Measure) (nm : ByteArray) (n : Nat) (hn : n = xs.length) (A : Option Addr) (c B bg : Nat) (w : World) (hA : Sl w B 5 encM A xs) (hB : B ≤ w.heap.size) (hl : xs.length ≤ 1000000000)
    (hc0 : w.cell? ⟨bg, 0, none⟩ = some (.string nm)) (hbg : bg < w.heap.size) :
    Calls Tryz.prog 104 #[.slice A n c, .func (.func 71) #[] #[.pointer (some ⟨bg, 0, none⟩)]] w fun e w' =>
      e = .returned (.int .i64 (idxB (fun x : Measure => strEq x.name nm) xs)) ∧ Below w.heap.size w w' := by
  subst hn
  have HA := Lib.hid hA
  clear hA
  have Hc0 := Lib.hid hc0; clear hc0
  go_enter Tryz.func104, Tryz.ntmps104
  go_wp2
  go_loopw [8] (fun i wr => ∃ k : Nat, k ≤ xs.length ∧ i = .int .i64 k ∧ Hid ((xs.take k).any (fun x : Measure => strEq x.name nm) = false) ∧ Below w.heap.size w wr) (fun i _ => xs.length - (intOf i).toNat)
  case atStart => exact ⟨0, by omega, rfl, Lib.hid (by simp), Below.refl _ _⟩
  case round =>
    obtain ⟨k, hk, rfl, Hno, hb⟩ := hrel
    by_cases hlt : k < xs.length
    · obtain ⟨b, off, rfl, hbB, hcells⟩ := HA.out (by omega)
      have h0 := hcells k hlt
      clear hcells
      have c0 : wr.cell? ⟨b, off + k * 5, none⟩ = some (.string xs[k].name) := (hb.cell (p := ⟨b, _, none⟩) (by simp; omega)).trans (h0 0 _ rfl)
      have c1 : wr.cell? ⟨b, off + k * 5 + 1, none⟩ = some (.string xs[k].crew) := (hb.cell (p := ⟨b, _, none⟩) (by simp; omega)).trans (h0 1 _ rfl)
      have c2 : wr.cell? ⟨b, off + k * 5 + 2, none⟩ = some (.int .i64 xs[k].rank) := (hb.cell (p := ⟨b, _, none⟩) (by simp; omega)).trans (h0 2 _ rfl)
      have c3 : wr.cell? ⟨b, off + k * 5 + 3, none⟩ = some (.int .i64 xs[k].lag) := (hb.cell (p := ⟨b, _, none⟩) (by simp; omega)).trans (h0 3 _ rfl)
      have c4 : wr.cell? ⟨b, off + k * 5 + 4, none⟩ = some (.int .i64 xs[k].takes) := (hb.cell (p := ⟨b, _, none⟩) (by simp; omega)).trans (h0 4 _ rfl)
      have hcg0 : wr.cell? ⟨bg, 0, none⟩ = some (.string nm) := (hb.cell (p := ⟨bg, 0, none⟩) hbg).trans Hc0.out
      have Hs := Lib.hid (any_take_succ (p := fun x : Measure => strEq x.name nm) hlt Hno.out)
      have Hh := Lib.hid (idxB_hit (p := fun x : Measure => strEq x.name nm) hlt Hno.out)
      have hsz := hb.size
      clear h0
      cases hp : (fun x : Measure => strEq x.name nm) xs[k]
      · go_wp2_with (go_at_call 71; refine (measures1_any xs[k] nm bg _ (by assumption) (by omega)).mono ?_; rintro e w1 ⟨rfl, hb1⟩)
        go_roundw
        case rel => exact ⟨k + 1, by omega, by go_num, Lib.hid (Hs.out (by assumption)), hb.trans (hb1.mono hsz)⟩
        case measure => simp [intOf]; omega
      · go_wp2_with (go_at_call 71; refine (measures1_any xs[k] nm bg _ (by assumption) (by omega)).mono ?_; rintro e w1 ⟨rfl, hb1⟩)
        go_ret
        exact ⟨ret_int (Hh.out (by assumption)).symm, hb.trans (hb1.mono hsz)⟩
    · have HN := Lib.hid (idxB_none (p := fun x : Measure => strEq x.name nm) (xs := xs) (by rw [← Hno.out, List.take_of_length_le (by omega)]))
      go_wp2
      go_ret
      exact ⟨ret_int HN.out.symm, hb⟩
theorem conMeasA_any (xs : List Measure) (nm : ByteArray) (n : Nat) (hn : n = xs.length) (A : Option Addr) (c B bg : Nat) (w : World) (hA : Sl w B 5 encM A xs) (hB : B ≤ w.heap.size) (hl : xs.length ≤ 1000000000)
    (hc0 : w.cell? ⟨bg, 0, none⟩ = some (.string nm)) (hbg : bg < w.heap.size) :
    Calls Tryz.prog 70 #[.slice A n c, .func (.func 71) #[] #[.pointer (some ⟨bg, 0, none⟩)]] w fun e w' =>
      e = .returned (.bool (xs.any (fun x : Measure => strEq x.name nm))) ∧ Below w.heap.size w w' := by
  have H := Lib.hid (idxMeasA_any xs nm n hn A c B bg w hA hB hl hc0 hbg)
  clear hA hn hc0
  go_enter Tryz.func70, Tryz.ntmps70
  go_wp2_with (go_at_call 104; refine H.out.mono ?_; rintro e w1 ⟨rfl, hb1⟩)
  go_ret
  exact ⟨ret_bool idxB_any, hb1⟩

set_option maxHeartbeats 1000000 in
theorem idxMeasB_any (xs : List Measure) (cw : ByteArray) (rk : Int) (n : Nat) (hn : n = xs.length) (A : Option Addr) (c B bg : Nat) (w : World) (hA : Sl w B 5 encM A xs) (hB : B ≤ w.heap.size) (hl : xs.length ≤ 1000000000)
    (hc0 : w.cell? ⟨bg, 1, none⟩ = some (.string cw)) (hc1 : w.cell? ⟨bg, 2, none⟩ = some (.int .i64 rk)) (hbg : bg < w.heap.size) :
    Calls Tryz.prog 104 #[.slice A n c, .func (.func 72) #[] #[.pointer (some ⟨bg, 0, none⟩)]] w fun e w' =>
      e = .returned (.int .i64 (idxB (fun x : Measure => strEq x.crew cw && (x.rank == rk)) xs)) ∧ Below w.heap.size w w' := by
  subst hn
  have HA := Lib.hid hA
  clear hA
  have Hc0 := Lib.hid hc0; clear hc0
  have Hc1 := Lib.hid hc1; clear hc1
  go_enter Tryz.func104, Tryz.ntmps104
  go_wp2
  go_loopw [8] (fun i wr => ∃ k : Nat, k ≤ xs.length ∧ i = .int .i64 k ∧ Hid ((xs.take k).any (fun x : Measure => strEq x.crew cw && (x.rank == rk)) = false) ∧ Below w.heap.size w wr) (fun i _ => xs.length - (intOf i).toNat)
  case atStart => exact ⟨0, by omega, rfl, Lib.hid (by simp), Below.refl _ _⟩
  case round =>
    obtain ⟨k, hk, rfl, Hno, hb⟩ := hrel
    by_cases hlt : k < xs.length
    · obtain ⟨b, off, rfl, hbB, hcells⟩ := HA.out (by omega)
      have h0 := hcells k hlt
      clear hcells
      have c0 : wr.cell? ⟨b, off + k * 5, none⟩ = some (.string xs[k].name) := (hb.cell (p := ⟨b, _, none⟩) (by simp; omega)).trans (h0 0 _ rfl)
      have c1 : wr.cell? ⟨b, off + k * 5 + 1, none⟩ = some (.string xs[k].crew) := (hb.cell (p := ⟨b, _, none⟩) (by simp; omega)).trans (h0 1 _ rfl)
      have c2 : wr.cell? ⟨b, off + k * 5 + 2, none⟩ = some (.int .i64 xs[k].rank) := (hb.cell (p := ⟨b, _, none⟩) (by simp; omega)).trans (h0 2 _ rfl)
      have c3 : wr.cell? ⟨b, off + k * 5 + 3, none⟩ = some (.int .i64 xs[k].lag) := (hb.cell (p := ⟨b, _, none⟩) (by simp; omega)).trans (h0 3 _ rfl)
      have c4 : wr.cell? ⟨b, off + k * 5 + 4, none⟩ = some (.int .i64 xs[k].takes) := (hb.cell (p := ⟨b, _, none⟩) (by simp; omega)).trans (h0 4 _ rfl)
      have hcg0 : wr.cell? ⟨bg, 1, none⟩ = some (.string cw) := (hb.cell (p := ⟨bg, 1, none⟩) hbg).trans Hc0.out
      have hcg1 : wr.cell? ⟨bg, 2, none⟩ = some (.int .i64 rk) := (hb.cell (p := ⟨bg, 2, none⟩) hbg).trans Hc1.out
      have Hs := Lib.hid (any_take_succ (p := fun x : Measure => strEq x.crew cw && (x.rank == rk)) hlt Hno.out)
      have Hh := Lib.hid (idxB_hit (p := fun x : Measure => strEq x.crew cw && (x.rank == rk)) hlt Hno.out)
      have hsz := hb.size
      clear h0
      cases hp : (fun x : Measure => strEq x.crew cw && (x.rank == rk)) xs[k]
      · go_wp2_with (go_at_call 72; refine (measures2_any xs[k] cw rk bg _ (by assumption) (by assumption) (by omega)).mono ?_; rintro e w1 ⟨rfl, hb1⟩)
        go_roundw
        case rel => exact ⟨k + 1, by omega, by go_num, Lib.hid (Hs.out (by assumption)), hb.trans (hb1.mono hsz)⟩
        case measure => simp [intOf]; omega
      · go_wp2_with (go_at_call 72; refine (measures2_any xs[k] cw rk bg _ (by assumption) (by assumption) (by omega)).mono ?_; rintro e w1 ⟨rfl, hb1⟩)
        go_ret
        exact ⟨ret_int (Hh.out (by assumption)).symm, hb.trans (hb1.mono hsz)⟩
    · have HN := Lib.hid (idxB_none (p := fun x : Measure => strEq x.crew cw && (x.rank == rk)) (xs := xs) (by rw [← Hno.out, List.take_of_length_le (by omega)]))
      go_wp2
      go_ret
      exact ⟨ret_int HN.out.symm, hb⟩
theorem conMeasB_any (xs : List Measure) (cw : ByteArray) (rk : Int) (n : Nat) (hn : n = xs.length) (A : Option Addr) (c B bg : Nat) (w : World) (hA : Sl w B 5 encM A xs) (hB : B ≤ w.heap.size) (hl : xs.length ≤ 1000000000)
    (hc0 : w.cell? ⟨bg, 1, none⟩ = some (.string cw)) (hc1 : w.cell? ⟨bg, 2, none⟩ = some (.int .i64 rk)) (hbg : bg < w.heap.size) :
    Calls Tryz.prog 70 #[.slice A n c, .func (.func 72) #[] #[.pointer (some ⟨bg, 0, none⟩)]] w fun e w' =>
      e = .returned (.bool (xs.any (fun x : Measure => strEq x.crew cw && (x.rank == rk)))) ∧ Below w.heap.size w w' := by
  have H := Lib.hid (idxMeasB_any xs cw rk n hn A c B bg w hA hB hl hc0 hc1 hbg)
  clear hA hn hc0 hc1
  go_enter Tryz.func70, Tryz.ntmps70
  go_wp2_with (go_at_call 104; refine H.out.mono ?_; rintro e w1 ⟨rfl, hb1⟩)
  go_ret
  exact ⟨ret_bool idxB_any, hb1⟩

set_option maxHeartbeats 4000000 in
theorem measures_any (l : List Measure) (A : Option Addr) (c B : Nat) (w : World) (hA : Sl w B 5 encM A l) (hin : ∀ m ∈ l, m.name.size ≤ 9223372036854775807 ∧ m.crew.size ≤ 9223372036854775807) (hB : B ≤ w.heap.size) (hl : l.length ≤ c) (_hc : c ≤ 9223372036854775807) :
    Calls Tryz.prog 31 #[.slice A l.length c] w fun e w' => e = .returned (.int .i64 (msErr l)) ∧ Below w.heap.size w w' := by
  by_cases h6 : l.length ≤ 16
  rotate_left
  · have HC := Lib.hid (show msErr l = 3 from by simp [msErr, h6])
    go_enter Tryz.func31, Tryz.ntmps31
    go_wp2
    go_ret
    exact ⟨ret_int HC.out.symm, (by (repeat (refine Below.alloc ?_ (by first | exact Nat.le_refl _ | omega | (simp; done) | (simp; omega)) _)); exact Below.refl _ _)⟩
  have HC := Lib.hid (show msErr l = firstErr (mErrAt l) l.length from by simp [msErr, h6])
  have HA := Lib.hid hA; have Hin := Lib.hid hin
  clear hA hin
  go_enter Tryz.func31, Tryz.ntmps31
  go_wp2
  go_loopw [10] (fun i wr => ∃ k : Nat, k ≤ l.length ∧ i = .int .i64 k ∧ Hid (firstErr (mErrAt l) k = 0) ∧ Hid (Below w.heap.size w wr)) (fun i _ => l.length - (intOf i).toNat)
  case atStart => exact ⟨0, by omega, rfl, Lib.hid rfl, Lib.hid (Below.refl _ _)⟩
  case round =>
    obtain ⟨k, hk, rfl, He, Hb⟩ := hrel
    have hsz : w.heap.size ≤ wr.heap.size := Hb.out.size
    by_cases hlt : k < l.length
    · obtain ⟨b, off, rfl, hbB, hcells⟩ := HA.out (by omega)
      have h0 := hcells k hlt
      have hnm := Hin.out l[k] (List.getElem_mem hlt)
      have HA2 := Lib.hid ((HA.out.mono hB).below Hb.out)
      clear hcells
      have c0 : wr.cell? ⟨b, off + k * 5, none⟩ = some (.string l[k].name) := (Hb.out.cell (p := ⟨b, _, none⟩) (by simp; omega)).trans (h0 0 _ rfl)
      have c1 : wr.cell? ⟨b, off + k * 5 + 1, none⟩ = some (.string l[k].crew) := (Hb.out.cell (p := ⟨b, _, none⟩) (by simp; omega)).trans (h0 1 _ rfl)
      have c2 : wr.cell? ⟨b, off + k * 5 + 2, none⟩ = some (.int .i64 l[k].rank) := (Hb.out.cell (p := ⟨b, _, none⟩) (by simp; omega)).trans (h0 2 _ rfl)
      have c3 : wr.cell? ⟨b, off + k * 5 + 3, none⟩ = some (.int .i64 l[k].lag) := (Hb.out.cell (p := ⟨b, _, none⟩) (by simp; omega)).trans (h0 3 _ rfl)
      have c4 : wr.cell? ⟨b, off + k * 5 + 4, none⟩ = some (.int .i64 l[k].takes) := (Hb.out.cell (p := ⟨b, _, none⟩) (by simp; omega)).trans (h0 4 _ rfl)
      clear h0
      obtain ⟨m, hm⟩ : ∃ m, m = l[k] := ⟨_, rfl⟩
      have V1 := Lib.hid (@mErr_v1 l k hlt)
      have V2 := Lib.hid (@mErr_v2 l k hlt)
      have V3 := Lib.hid (@mErr_v3 l k hlt)
      have V4 := Lib.hid (@mErr_v4 l k hlt)
      have V5 := Lib.hid (@mErr_v5 l k hlt)
      rw [← hm] at c0 c1 c2 c3 c4 V1 V2 V3 V4 V5 hnm
      clear hm
      obtain ⟨W1, hW1⟩ : ∃ W1, W1 = wr.alloc (.cells #[.string m.name, .string m.crew, .int .i64 m.rank, .int .i64 m.lag, .int .i64 m.takes] 49) := ⟨_, rfl⟩
      have HB1 := Lib.hid (show Below w.heap.size wr W1 by rw [hW1]; exact (Below.refl w.heap.size wr).alloc hsz _)
      have hs1 : wr.heap.size < W1.heap.size := by rw [hW1]; simp
      have HCx := Lib.hid (show ∀ (Y : World), Below W1.heap.size W1 Y → ∀ j v, (#[.string m.name, .string m.crew, .int .i64 m.rank, .int .i64 m.lag, .int .i64 m.takes] : Array Value)[j]? = some v → Y.cell? ⟨wr.heap.size, j, none⟩ = some v from fun Y hY j v hv =>
        (hY.cell (p := ⟨wr.heap.size, j, none⟩) hs1).trans (by rw [hW1]; exact alloc_cell hv))
      have HConA := Lib.hid (conMeasA_any (l.take k) m.name k (by simp; omega) (some ⟨b, off, none⟩) c w.heap.size wr.heap.size W1
        ((HA2.out.take k).below HB1.out) (by omega) (by simp; omega) (HCx.out W1 (Below.refl _ _) 0 _ rfl) hs1)
      have HConB := Lib.hid (fun (Y : World) (hY : Below W1.heap.size W1 Y) => conMeasB_any (l.take k) m.crew m.rank k (by simp; omega) (some ⟨b, off, none⟩) c w.heap.size wr.heap.size Y
        ((HA2.out.take k).below (HB1.out.trans (hY.mono (by omega)))) (by have := hY.size; omega) (by simp; omega) (HCx.out Y hY 1 _ rfl) (HCx.out Y hY 2 _ rfl) (by have := hY.size; omega))
      have HW1 := Lib.hid hW1
      clear hW1
      have HEnd := Lib.hid (fun (e : Int) (h : mErrAt l k = e) (h0 : e ≠ 0) => show e = msErr l by rw [HC.out, firstErr_at He.out (by rw [h]; exact h0) hlt, h])
      cases hn1 : nameB m.name
      · have HE := Lib.hid (HEnd.out 5 (V1.out (by unfold mNameB; rw [hn1]; rfl)) (by decide))
        go_wp2_with (go_at_call 66; refine (isName_any m.name (by unfold maxLen; omega) _).mono ?_; rintro e w1 ⟨rfl, rfl⟩)
        go_ret
        exact ⟨ret_int HE.out, by rw [← HW1.out]; exact Hb.out.trans HB1.out⟩
      cases hn2 : nameB m.crew
      · have HE := Lib.hid (HEnd.out 5 (V1.out (by unfold mNameB; rw [hn1, hn2]; rfl)) (by decide))
        have HNm := Lib.hid (isName_any m.name (by unfold maxLen; omega))
        have HCr := Lib.hid (isName_any m.crew (by unfold maxLen; omega))
        rw [hn1] at HNm
        rw [hn2] at HCr
        go_wp2_with (go_at_call 66; fail)
        refine (HNm.out _).mono ?_
        rintro e w1 ⟨rfl, rfl⟩
        go_wp2_with (go_at_call 66; fail)
        refine (HCr.out _).mono ?_
        rintro e w2 ⟨rfl, rfl⟩
        go_wp2
        go_ret
        exact ⟨ret_int HE.out, by rw [← HW1.out]; exact Hb.out.trans HB1.out⟩
      have hmn : mNameB m = true := by unfold mNameB; rw [hn1, hn2]; rfl
      have HNm := Lib.hid (isName_any m.name (by unfold maxLen; omega))
      have HCr := Lib.hid (isName_any m.crew (by unfold maxLen; omega))
      rw [hn1] at HNm
      rw [hn2] at HCr
      clear hn1 hn2
      go_wp2_with (go_at_call 66; fail)
      refine (HNm.out _).mono ?_
      rintro e w1 ⟨rfl, rfl⟩
      go_wp2_with (go_at_call 66; fail)
      refine (HCr.out _).mono ?_
      rintro e w2 ⟨rfl, rfl⟩
      go_wp2_with (go_at_call 66; fail)
      rw [← HW1.out]
      cases ht : (l.take k).any (fun x => strEq x.name m.name)
      rotate_left
      · have HE := Lib.hid (HEnd.out 6 (V2.out hmn ht) (by decide))
        rw [ht] at HConA
        refine HConA.out.mono ?_
        rintro e w3 ⟨rfl, hb3⟩
        go_wp2
        go_ret
        exact ⟨ret_int HE.out, (Hb.out.trans HB1.out).trans (hb3.mono (by omega))⟩
      rw [ht] at HConA
      refine HConA.out.mono ?_
      rintro e w3 ⟨rfl, hb3⟩
      have Hb3 := Lib.hid hb3
      have hs3 := hb3.size
      have d2 : w3.cell? ⟨wr.heap.size, 2, none⟩ = some (.int .i64 m.rank) := HCx.out w3 hb3 2 _ rfl
      have d3 : w3.cell? ⟨wr.heap.size, 3, none⟩ = some (.int .i64 m.lag) := HCx.out w3 hb3 3 _ rfl
      have d4 : w3.cell? ⟨wr.heap.size, 4, none⟩ = some (.int .i64 m.takes) := HCx.out w3 hb3 4 _ rfl
      have HT1 := Lib.hid (isTime_any m.rank)
      have HT2 := Lib.hid (isTime_any m.lag)
      have HT3 := Lib.hid (isTime_any m.takes)
      clear hb3 HConA c0 c1 c2 c3 c4
      cases t1 : isTm m.rank
      · have HE := Lib.hid (HEnd.out 1 (V3.out hmn ht (by unfold mTimeB; rw [t1]; rfl)) (by decide))
        rw [t1] at HT1
        go_wp2_with (go_at_call 47; refine (HT1.out _).mono ?_; rintro e w4 ⟨rfl, rfl⟩)
        go_ret
        exact ⟨ret_int HE.out, (Hb.out.trans HB1.out).trans (Hb3.out.mono (by omega))⟩
      rw [t1] at HT1
      cases t2 : isTm m.lag
      · have HE := Lib.hid (HEnd.out 1 (V3.out hmn ht (by unfold mTimeB; rw [t1, t2]; rfl)) (by decide))
        rw [t2] at HT2
        go_wp2_with (go_at_call 66; fail)
        refine (HT1.out _).mono ?_
        rintro e w4 ⟨rfl, rfl⟩
        go_wp2_with (go_at_call 66; fail)
        refine (HT2.out _).mono ?_
        rintro e w4 ⟨rfl, rfl⟩
        go_wp2
        go_ret
        exact ⟨ret_int HE.out, (Hb.out.trans HB1.out).trans (Hb3.out.mono (by omega))⟩
      rw [t2] at HT2
      go_wp2_with (go_at_call 66; fail)
      refine (HT1.out _).mono ?_
      rintro e w4 ⟨rfl, rfl⟩
      go_wp2_with (go_at_call 66; fail)
      refine (HT2.out _).mono ?_
      rintro e w4 ⟨rfl, rfl⟩
      go_wp2_with (go_at_call 66; fail)
      cases t3 : isTm m.takes
      · have HE := Lib.hid (HEnd.out 1 (V3.out hmn ht (by unfold mTimeB; rw [t1, t2, t3]; rfl)) (by decide))
        rw [t3] at HT3
        refine (HT3.out _).mono ?_
        rintro e w4 ⟨rfl, rfl⟩
        go_wp2
        go_ret
        exact ⟨ret_int HE.out, (Hb.out.trans HB1.out).trans (Hb3.out.mono (by omega))⟩
      rw [t3] at HT3
      refine (HT3.out _).mono ?_
      rintro e w4 ⟨rfl, rfl⟩
      have hmt : mTimeB m = true := by unfold mTimeB; rw [t1, t2, t3]; rfl
      clear t1 t2 t3
      go_wp2_with (go_at_call 66; fail)
      have HConB3 := Lib.hid (HConB.out w3 Hb3.out)
      cases hcl : (l.take k).any (fun x => strEq x.crew m.crew && (x.rank == m.rank))
      · have HE := Lib.hid (V5.out hmn ht hmt hcl)
        rw [hcl] at HConB3
        refine HConB3.out.mono ?_
        rintro e w5 ⟨rfl, hb5⟩
        have Hb5 := Lib.hid hb5
        go_wp2
        go_roundw
        case rel => exact ⟨k + 1, by omega, by go_num, Lib.hid (by rw [firstErr_succ He.out, HE.out]), Lib.hid (((Hb.out.trans HB1.out).trans (Hb3.out.mono (by omega))).trans (Hb5.out.mono (by omega)))⟩
        case measure => simp [intOf]; omega
      · have HE := Lib.hid (HEnd.out 10 (V4.out hmn ht hmt hcl) (by decide))
        rw [hcl] at HConB3
        refine HConB3.out.mono ?_
        rintro e w5 ⟨rfl, hb5⟩
        go_wp2
        go_ret
        exact ⟨ret_int HE.out, ((Hb.out.trans HB1.out).trans (Hb3.out.mono (by omega))).trans (hb5.mono (by omega))⟩
    · go_wp2
      go_ret
      exact ⟨ret_int (by rw [HC.out, ← He.out]; congr 1; omega), Hb.out⟩
end Go.Proofs.YtcgnpndfhhcplaaGreatDoor
namespace Go.Proofs.YtcgnpndfhhcplaaGreatDoor
open Go.RowKit W7
theorem check1_any (x : Alarm) (mm : Int) (bg : Nat) (w : World) (hc : w.cell? ⟨bg, 3, none⟩ = some (.int .i64 mm)) (hbg : bg < w.heap.size) :
    Calls Tryz.prog 35 #[.agg #[.int .i64 x.q, .int .i64 x.level, .int .i64 x.limit, .int .i64 x.m], .pointer (some ⟨bg, 0, none⟩)] w fun e w' => e = .returned (.bool (x.m == mm)) ∧ Below w.heap.size w w' := by
  go_enter Tryz.func35, Tryz.ntmps35
  go_wp2
  go_ret
  exact ⟨rfl, (by (repeat (refine Below.alloc ?_ (by first | exact Nat.le_refl _ | omega | (simp; done) | (simp; omega)) _)); exact Below.refl _ _)⟩
set_option maxHeartbeats 1000000 in
theorem idxAlarm_any (xs : List Alarm) (mm : Int) (n : Nat) (hn : n = xs.length) (A : Option Addr) (c B bg : Nat) (w : World) (hA : Sl w B 4 encA A xs) (hB : B ≤ w.heap.size) (hl : xs.length ≤ 1000000000)
    (hc0 : w.cell? ⟨bg, 3, none⟩ = some (.int .i64 mm)) (hbg : bg < w.heap.size) :
    Calls Tryz.prog 73 #[.slice A n c, .func (.func 35) #[] #[.pointer (some ⟨bg, 0, none⟩)]] w fun e w' =>
      e = .returned (.int .i64 (idxB (fun x : Alarm => x.m == mm) xs)) ∧ Below w.heap.size w w' := by
  subst hn
  have HA := Lib.hid hA
  clear hA
  have Hc0 := Lib.hid hc0; clear hc0
  go_enter Tryz.func73, Tryz.ntmps73
  go_wp2
  go_loopw [8] (fun i wr => ∃ k : Nat, k ≤ xs.length ∧ i = .int .i64 k ∧ Hid ((xs.take k).any (fun x : Alarm => x.m == mm) = false) ∧ Below w.heap.size w wr) (fun i _ => xs.length - (intOf i).toNat)
  case atStart => exact ⟨0, by omega, rfl, Lib.hid (by simp), Below.refl _ _⟩
  case round =>
    obtain ⟨k, hk, rfl, Hno, hb⟩ := hrel
    by_cases hlt : k < xs.length
    · obtain ⟨b, off, rfl, hbB, hcells⟩ := HA.out (by omega)
      have h0 := hcells k hlt
      clear hcells
      have c0 : wr.cell? ⟨b, off + k * 4, none⟩ = some (.int .i64 xs[k].q) := (hb.cell (p := ⟨b, _, none⟩) (by simp; omega)).trans (h0 0 _ rfl)
      have c1 : wr.cell? ⟨b, off + k * 4 + 1, none⟩ = some (.int .i64 xs[k].level) := (hb.cell (p := ⟨b, _, none⟩) (by simp; omega)).trans (h0 1 _ rfl)
      have c2 : wr.cell? ⟨b, off + k * 4 + 2, none⟩ = some (.int .i64 xs[k].limit) := (hb.cell (p := ⟨b, _, none⟩) (by simp; omega)).trans (h0 2 _ rfl)
      have c3 : wr.cell? ⟨b, off + k * 4 + 3, none⟩ = some (.int .i64 xs[k].m) := (hb.cell (p := ⟨b, _, none⟩) (by simp; omega)).trans (h0 3 _ rfl)
      have hcg0 : wr.cell? ⟨bg, 3, none⟩ = some (.int .i64 mm) := (hb.cell (p := ⟨bg, 3, none⟩) hbg).trans Hc0.out
      have Hs := Lib.hid (any_take_succ (p := fun x : Alarm => x.m == mm) hlt Hno.out)
      have Hh := Lib.hid (idxB_hit (p := fun x : Alarm => x.m == mm) hlt Hno.out)
      have hsz := hb.size
      clear h0
      cases hp : (fun x : Alarm => x.m == mm) xs[k]
      · go_wp2_with (go_at_call 35; refine (check1_any xs[k] mm bg _ (by assumption) (by omega)).mono ?_; rintro e w1 ⟨rfl, hb1⟩)
        go_roundw
        case rel => exact ⟨k + 1, by omega, by go_num, Lib.hid (Hs.out (by assumption)), hb.trans (hb1.mono hsz)⟩
        case measure => simp [intOf]; omega
      · go_wp2_with (go_at_call 35; refine (check1_any xs[k] mm bg _ (by assumption) (by omega)).mono ?_; rintro e w1 ⟨rfl, hb1⟩)
        go_ret
        exact ⟨ret_int (Hh.out (by assumption)).symm, hb.trans (hb1.mono hsz)⟩
    · have HN := Lib.hid (idxB_none (p := fun x : Alarm => x.m == mm) (xs := xs) (by rw [← Hno.out, List.take_of_length_le (by omega)]))
      go_wp2
      go_ret
      exact ⟨ret_int HN.out.symm, hb⟩
theorem conAlarm_any (xs : List Alarm) (mm : Int) (n : Nat) (hn : n = xs.length) (A : Option Addr) (c B bg : Nat) (w : World) (hA : Sl w B 4 encA A xs) (hB : B ≤ w.heap.size) (hl : xs.length ≤ 1000000000)
    (hc0 : w.cell? ⟨bg, 3, none⟩ = some (.int .i64 mm)) (hbg : bg < w.heap.size) :
    Calls Tryz.prog 34 #[.slice A n c, .func (.func 35) #[] #[.pointer (some ⟨bg, 0, none⟩)]] w fun e w' =>
      e = .returned (.bool (xs.any (fun x : Alarm => x.m == mm))) ∧ Below w.heap.size w w' := by
  have H := Lib.hid (idxAlarm_any xs mm n hn A c B bg w hA hB hl hc0 hbg)
  clear hA hn hc0
  go_enter Tryz.func34, Tryz.ntmps34
  go_wp2_with (go_at_call 73; refine H.out.mono ?_; rintro e w1 ⟨rfl, hb1⟩)
  go_ret
  exact ⟨ret_bool idxB_any, hb1⟩

set_option maxHeartbeats 4000000 in
set_option maxRecDepth 100000 in
theorem Check_any (p : Plan) (B : Nat) (w : World) (hp : PIn w B p) (hB : B ≤ w.heap.size) :
    Calls Tryz.prog 10 #[.agg #[.slice p.qA p.qs.length p.qc, .slice p.mA p.ms.length p.mc, .slice p.aA p.al.length p.ac]] w fun e w' => e = .returned (.int .i64 (planErr p)) ∧ Below w.heap.size w w' := by
  obtain ⟨AA, hAA⟩ : ∃ AA, p.aA = AA := ⟨_, rfl⟩
  rw [hAA]
  obtain ⟨W0, hW0⟩ : ∃ W0, W0 = w.alloc (.cells #[.slice p.qA p.qs.length p.qc, .slice p.mA p.ms.length p.mc, .slice AA p.al.length p.ac] 26) := ⟨_, rfl⟩
  have HB0 := Lib.hid (show Below w.heap.size w W0 by rw [hW0]; exact (Below.refl _ _).alloc (Nat.le_refl _) _)
  have hs0 : w.heap.size < W0.heap.size := by rw [hW0]; simp
  have HQ0 := Lib.hid (show ∀ (X : World), Below W0.heap.size W0 X → ∀ j v, (#[.slice p.qA p.qs.length p.qc, .slice p.mA p.ms.length p.mc, .slice AA p.al.length p.ac] : Array Value)[j]? = some v → X.cell? ⟨w.heap.size, j, none⟩ = some v from fun X hX j v hv =>
    (hX.cell (p := ⟨w.heap.size, j, none⟩) hs0).trans (by rw [hW0]; exact alloc_cell hv))
  have HP := Lib.hid (fun (X : World) (hX : Below W0.heap.size W0 X) => (hp.mono hB).below (HB0.out.trans (hX.mono (Nat.le_of_lt hs0))))
  have HU := Lib.hid (fun (X : World) (hX : Below W0.heap.size W0 X) => show Below w.heap.size w X from HB0.out.trans (hX.mono (Nat.le_of_lt hs0)))
  have HAsl := Lib.hid (fun (X : World) (hX : Below W0.heap.size W0 X) => show Sl X w.heap.size 4 encA AA p.al by rw [← hAA]; exact (HP.out X hX).asl)
  have hal := hp.alc
  have hac := hp.ac2
  have hql := hp.qlc
  have hqc := hp.qc2
  have hml := hp.mlc
  have hmc := hp.mc2
  have HQs := Lib.hid (quantities_any p.qs p.qA p.qc w.heap.size W0 (HP.out W0 (Below.refl _ _)).qsl (HP.out W0 (Below.refl _ _)).qin (by omega) hp.qlc hp.qc2)
  have q0 : W0.cell? ⟨w.heap.size, 0, none⟩ = some (.slice p.qA p.qs.length p.qc) := HQ0.out W0 (Below.refl _ _) 0 _ rfl
  have HPe := Lib.hid (show planErr p = if qsErr p.qs = 0 then (if msErr p.ms = 0 then (if p.al.length ≤ 16 then firstErr (aErrAt p) p.al.length else 3) else msErr p.ms) else qsErr p.qs from rfl)
  obtain ⟨qe, hqe⟩ : ∃ qe, qe = qsErr p.qs := ⟨_, rfl⟩
  obtain ⟨me, hme⟩ : ∃ me, me = msErr p.ms := ⟨_, rfl⟩
  rw [← hqe] at HQs HPe
  rw [← hme] at HPe
  have Hme := Lib.hid hme
  have HW0 := Lib.hid hW0
  clear hW0 hp hqe hme hAA
  go_enter Tryz.func10, Tryz.ntmps10
  go_wp2_with (go_at_call 66; fail)
  rw [← HW0.out]
  refine HQs.out.mono ?_
  rintro e w1 ⟨rfl, hb1⟩
  have Hb1 := Lib.hid hb1
  have hs1 := hb1.size
  clear hb1 q0
  cases h1 : (qe != 0)
  rotate_left
  · have HE := Lib.hid (show planErr p = qe by rw [HPe.out, if_neg (by simpa using h1)])
    go_wp2
    go_ret
    exact ⟨ret_int HE.out.symm, HU.out w1 Hb1.out⟩
  have q1 : w1.cell? ⟨w.heap.size, 1, none⟩ = some (.slice p.mA p.ms.length p.mc) := HQ0.out w1 Hb1.out 1 _ rfl
  have HMs := Lib.hid (measures_any p.ms p.mA p.mc w.heap.size w1 (HP.out w1 Hb1.out).msl (HP.out w1 Hb1.out).mnm (by omega) hml hmc)
  rw [← Hme.out] at HMs
  go_wp2_with (go_at_call 66; fail)
  refine HMs.out.mono ?_
  rintro e w2 ⟨rfl, hb2⟩
  have Hb2 := Lib.hid (Hb1.out.trans (hb2.mono hs1))
  have hs2 := hb2.size
  clear hb2 q1 HMs
  cases h2 : (me != 0)
  rotate_left
  · have HE := Lib.hid (show planErr p = me by rw [HPe.out, if_pos (by simpa using h1), if_neg (by simpa using h2)])
    go_wp2
    go_ret
    exact ⟨ret_int HE.out.symm, HU.out w2 Hb2.out⟩
  have q2 : w2.cell? ⟨w.heap.size, 2, none⟩ = some (.slice AA p.al.length p.ac) := HQ0.out w2 Hb2.out 2 _ rfl
  by_cases h16 : p.al.length ≤ 16
  rotate_left
  · have HE := Lib.hid (show planErr p = 3 by rw [HPe.out, if_pos (by simpa using h1), if_pos (by simpa using h2), if_neg h16])
    go_wp2
    go_ret
    exact ⟨ret_int HE.out.symm, HU.out w2 Hb2.out⟩
  have HC := Lib.hid (show planErr p = firstErr (aErrAt p) p.al.length by rw [HPe.out, if_pos (by simpa using h1), if_pos (by simpa using h2), if_pos h16])
  go_wp2
  clear h1 h2
  go_loopw [26] (fun i wr => ∃ k : Nat, k ≤ p.al.length ∧ i = .int .i64 k ∧ Hid (firstErr (aErrAt p) k = 0) ∧ Hid (Below W0.heap.size W0 wr)) (fun i _ => p.al.length - (intOf i).toNat)
  case atStart => exact ⟨0, by omega, rfl, Lib.hid rfl, Hb2⟩
  case round =>
    obtain ⟨k, hk, rfl, He, Hb⟩ := hrel
    have hsz : W0.heap.size ≤ wr.heap.size := Hb.out.size
    have hwr : w.heap.size < wr.heap.size := by omega
    by_cases hlt : k < p.al.length
    · have HAl := Lib.hid (HAsl.out wr Hb.out)
      obtain ⟨b, off, rfl, hbB, hcells⟩ := HAl.out (by omega)
      have h0 := hcells k hlt
      clear hcells
      have c0 : wr.cell? ⟨b, off + k * 4, none⟩ = some (.int .i64 p.al[k].q) := h0 0 _ rfl
      have c1 : wr.cell? ⟨b, off + k * 4 + 1, none⟩ = some (.int .i64 p.al[k].level) := h0 1 _ rfl
      have c2 : wr.cell? ⟨b, off + k * 4 + 2, none⟩ = some (.int .i64 p.al[k].limit) := h0 2 _ rfl
      have c3 : wr.cell? ⟨b, off + k * 4 + 3, none⟩ = some (.int .i64 p.al[k].m) := h0 3 _ rfl
      have q0 : wr.cell? ⟨w.heap.size, 0, none⟩ = some (.slice p.qA p.qs.length p.qc) := HQ0.out wr Hb.out 0 _ rfl
      have q1 : wr.cell? ⟨w.heap.size, 1, none⟩ = some (.slice p.mA p.ms.length p.mc) := HQ0.out wr Hb.out 1 _ rfl
      have q2 : wr.cell? ⟨w.heap.size, 2, none⟩ = some (.slice (some ⟨b, off, none⟩) p.al.length p.ac) := HQ0.out wr Hb.out 2 _ rfl
      clear h0
      obtain ⟨a, ha⟩ : ∃ a, a = p.al[k] := ⟨_, rfl⟩
      have V1 := Lib.hid (@aErr_v1 p k hlt)
      have V2 := Lib.hid (@aErr_v2 p k hlt)
      have V3 := Lib.hid (@aErr_v3 p k hlt)
      have V4 := Lib.hid (@aErr_v4 p k hlt)
      rw [← ha] at c0 c1 c2 c3 V1 V2 V3 V4
      clear ha
      obtain ⟨W1, hW1⟩ : ∃ W1, W1 = wr.alloc (.cells #[.int .i64 a.q, .int .i64 a.level, .int .i64 a.limit, .int .i64 a.m] 75) := ⟨_, rfl⟩
      have HB1 := Lib.hid (show Below W0.heap.size wr W1 by rw [hW1]; exact (Below.refl W0.heap.size wr).alloc hsz _)
      have hs1' : wr.heap.size < W1.heap.size := by rw [hW1]; simp
      have HCx3 := Lib.hid (show W1.cell? ⟨wr.heap.size, 3, none⟩ = some (.int .i64 a.m) by rw [hW1]; exact alloc_cell rfl)
      have HConA := Lib.hid (conAlarm_any (p.al.take k) a.m k (by simp; omega) (some ⟨b, off, none⟩) p.ac w.heap.size wr.heap.size W1
        ((HAl.out.take k).below (HB1.out.mono (by omega))) (by omega) (by simp; omega) HCx3.out hs1')
      have HW1 := Lib.hid hW1
      clear hW1
      have HEnd := Lib.hid (fun (e : Int) (h : aErrAt p k = e) (h0 : e ≠ 0) => show e = planErr p by rw [HC.out, firstErr_at He.out (by rw [h]; exact h0) hlt, h])
      have HU1 := Lib.hid (HU.out W1 (Hb.out.trans HB1.out))
      have HWq := Lib.hid (within_any a.q 0 ((p.qs.length : Int) - 1))
      have HWm := Lib.hid (within_any a.m 0 ((p.ms.length : Int) - 1))
      have HVl := Lib.hid (isValue_any a.level)
      have HVi := Lib.hid (isValue_any a.limit)
      cases w1e : withinB a.q 0 ((p.qs.length : Int) - 1)
      · have HE := Lib.hid (HEnd.out 7 (V1.out (by rw [w1e]; rfl)) (by decide))
        rw [w1e] at HWq
        go_wp2_with (go_at_call 66; fail)
        refine (HWq.out _).mono ?_
        rintro e w3 ⟨rfl, rfl⟩
        go_wp2
        go_ret
        exact ⟨ret_int HE.out, by rw [← HW1.out]; exact HU1.out⟩
      rw [w1e] at HWq
      go_wp2_with (go_at_call 66; fail)
      refine (HWq.out _).mono ?_
      rintro e w3 ⟨rfl, rfl⟩
      go_wp2_with (go_at_call 66; fail)
      cases w2e : withinB a.m 0 ((p.ms.length : Int) - 1)
      · have HE := Lib.hid (HEnd.out 7 (V1.out (by rw [w1e, w2e]; rfl)) (by decide))
        rw [w2e] at HWm
        refine (HWm.out _).mono ?_
        rintro e w3 ⟨rfl, rfl⟩
        go_wp2
        go_ret
        exact ⟨ret_int HE.out, by rw [← HW1.out]; exact HU1.out⟩
      rw [w2e] at HWm
      refine (HWm.out _).mono ?_
      rintro e w3 ⟨rfl, rfl⟩
      have hwi : (withinB a.q 0 ((p.qs.length : Int) - 1) && withinB a.m 0 ((p.ms.length : Int) - 1)) = true := by rw [w1e, w2e]; rfl
      clear w1e w2e
      go_wp2_with (go_at_call 66; fail)
      cases v1e : isVal a.level
      · have HE := Lib.hid (HEnd.out 1 (V2.out hwi (by rw [v1e]; rfl)) (by decide))
        rw [v1e] at HVl
        refine (HVl.out _).mono ?_
        rintro e w3 ⟨rfl, rfl⟩
        go_wp2
        go_ret
        exact ⟨ret_int HE.out, by rw [← HW1.out]; exact HU1.out⟩
      rw [v1e] at HVl
      refine (HVl.out _).mono ?_
      rintro e w3 ⟨rfl, rfl⟩
      go_wp2_with (go_at_call 66; fail)
      cases v2e : isVal a.limit
      · have HE := Lib.hid (HEnd.out 1 (V2.out hwi (by rw [v1e, v2e]; rfl)) (by decide))
        rw [v2e] at HVi
        refine (HVi.out _).mono ?_
        rintro e w3 ⟨rfl, rfl⟩
        go_wp2
        go_ret
        exact ⟨ret_int HE.out, by rw [← HW1.out]; exact HU1.out⟩
      rw [v2e] at HVi
      refine (HVi.out _).mono ?_
      rintro e w3 ⟨rfl, rfl⟩
      have hvi : (isVal a.level && isVal a.limit) = true := by rw [v1e, v2e]; rfl
      clear v1e v2e
      go_wp2_with (go_at_call 66; fail)
      rw [← HW1.out]
      cases hcl : (p.al.take k).any (fun x => x.m == a.m)
      · have HE := Lib.hid (V4.out hwi hvi hcl)
        rw [hcl] at HConA
        refine HConA.out.mono ?_
        rintro e w5 ⟨rfl, hb5⟩
        have Hb5 := Lib.hid hb5
        go_wp2
        go_roundw
        case rel => exact ⟨k + 1, by omega, by go_num, Lib.hid (by rw [firstErr_succ He.out, HE.out]), Lib.hid ((Hb.out.trans HB1.out).trans (Hb5.out.mono (by omega)))⟩
        case measure => simp [intOf]; omega
      · have HE := Lib.hid (HEnd.out 6 (V3.out hwi hvi hcl) (by decide))
        rw [hcl] at HConA
        refine HConA.out.mono ?_
        rintro e w5 ⟨rfl, hb5⟩
        go_wp2
        go_ret
        exact ⟨ret_int HE.out, HU1.out.trans (hb5.mono (by omega))⟩
    · go_wp2
      go_ret
      exact ⟨ret_int (by rw [HC.out, ← He.out]; congr 1; omega), HU.out wr Hb.out⟩
end Go.Proofs.YtcgnpndfhhcplaaGreatDoor
