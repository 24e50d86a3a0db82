/-
  Package watch's quantities, checkReading and checked: the first error of quantities, of a reading, of a quantity with its readings. Condition: how they lie in memory.
-/
import Derived.Test.YtcgnpndfhhcplaaGreatDoorChkQ
namespace Go.Proofs.YtcgnpndfhhcplaaGreatDoor
open Go.RowKit W7
set_option maxHeartbeats 4000000 in
theorem quantities_any (l : List Quantity) (A : Option Addr) (c B : Nat) (w : World) (hA : Sl w B 7 encQ A l) (hin : ∀ q ∈ l, QIn w B q) (hB : B ≤ w.heap.size) (hl : l.length ≤ c) (_hc : c ≤ 9223372036854775807) :
    Calls Tryz.prog 30 #[.slice A l.length c] w fun e w' => e = .returned (.int .i64 (qsErr l)) ∧ Below w.heap.size w w' := by
  by_cases h6 : l.length ≤ 16
  rotate_left
  · have HC := Lib.hid (show qsErr l = 3 from by simp [qsErr, h6])
    go_enter Tryz.func30, Tryz.ntmps30
    go_wp2
    go_ret
    exact ⟨ret_int HC.out.symm, (by (repeat (refine Below.alloc ?_ (by first | exact Nat.le_refl _ | omega | (simp; done) | (simp; omega)) _)); exact Below.refl _ _)⟩
  have HC := Lib.hid (show qsErr l = firstErr (qErrAt l) l.length from by simp [qsErr, h6])
  have HA := Lib.hid hA; have Hin := Lib.hid hin
  clear hA hin
  go_enter Tryz.func30, Tryz.ntmps30
  go_wp2
  go_loopw [11] (fun i wr => ∃ k : Nat, k ≤ l.length ∧ i = .int .i64 k ∧ Hid (firstErr (qErrAt l) k = 0) ∧ Hid (Below w.heap.size w wr)) (fun i _ => l.length - (intOf i).toNat)
  case atStart => exact ⟨0, by omega, rfl, Lib.hid rfl, Lib.hid (Below.refl _ _)⟩
  case round =>
    obtain ⟨k, hk, rfl, He, Hb⟩ := hrel
    have hsz : w.heap.size ≤ wr.heap.size := Hb.out.size
    by_cases hlt : k < l.length
    · obtain ⟨b, off, rfl, hbB, hcells⟩ := HA.out (by omega)
      have h0 := hcells k hlt
      have Hq := Lib.hid (((Hin.out l[k] (List.getElem_mem hlt)).mono hB).below Hb.out)
      have hnm := Hq.out.nm
      have HA2 := Lib.hid ((HA.out.mono hB).below Hb.out)
      clear hcells
      have c0 : wr.cell? ⟨b, off + k * 7, none⟩ = some (.string l[k].name) := (Hb.out.cell (p := ⟨b, _, none⟩) (by simp; omega)).trans (h0 0 _ rfl)
      have c1 : wr.cell? ⟨b, off + k * 7 + 1, none⟩ = some (.int .i64 l[k].lo) := (Hb.out.cell (p := ⟨b, _, none⟩) (by simp; omega)).trans (h0 1 _ rfl)
      have c2 : wr.cell? ⟨b, off + k * 7 + 2, none⟩ = some (.int .i64 l[k].hi) := (Hb.out.cell (p := ⟨b, _, none⟩) (by simp; omega)).trans (h0 2 _ rfl)
      have c3 : wr.cell? ⟨b, off + k * 7 + 3, none⟩ = some (.int .i64 l[k].rise) := (Hb.out.cell (p := ⟨b, _, none⟩) (by simp; omega)).trans (h0 3 _ rfl)
      have c4 : wr.cell? ⟨b, off + k * 7 + 4, none⟩ = some (.int .i64 l[k].fall) := (Hb.out.cell (p := ⟨b, _, none⟩) (by simp; omega)).trans (h0 4 _ rfl)
      have c5 : wr.cell? ⟨b, off + k * 7 + 5, none⟩ = some (.int .i64 l[k].bad) := (Hb.out.cell (p := ⟨b, _, none⟩) (by simp; omega)).trans (h0 5 _ rfl)
      have c6 : wr.cell? ⟨b, off + k * 7 + 6, none⟩ = some (.slice l[k].gA l[k].gs.length l[k].gc) := (Hb.out.cell (p := ⟨b, _, none⟩) (by simp; omega)).trans (h0 6 _ rfl)
      clear h0
      obtain ⟨cs, hcs⟩ : ∃ cs : Array Value, cs = #[.string l[k].name, .int .i64 l[k].lo, .int .i64 l[k].hi, .int .i64 l[k].rise, .int .i64 l[k].fall, .int .i64 l[k].bad, .slice l[k].gA l[k].gs.length l[k].gc] := ⟨_, rfl⟩
      have HB1 := Lib.hid ((Below.refl w.heap.size wr).alloc hsz (.cells cs 47))
      have HCon := Lib.hid (conQuantity_any (l.take k) l[k].name k (by simp; omega) (some ⟨b, off, none⟩) c w.heap.size wr.heap.size (wr.alloc (.cells cs 47))
        ((HA2.out.take k).below HB1.out) (by simp; omega) (by simp; omega) (alloc_cell (by rw [hcs]; rfl)) (by simp))
      rw [hcs] at HB1 HCon
      clear hcs
      cases hn : nameB l[k].name
      · have HE := Lib.hid (firstErr_at He.out (by rw [qErrAt_name hlt hn]; decide) hlt)
        have HE2 := Lib.hid (qErrAt_name hlt hn)
        go_wp2_with (go_at_call 66; refine (isName_any l[k].name (by unfold maxLen; omega) _).mono ?_; rintro e w1 ⟨rfl, rfl⟩)
        go_ret
        exact ⟨ret_int (by rw [HC.out, HE.out, HE2.out]), Hb.out.trans HB1.out⟩
      cases ht : (l.take k).any (fun x => strEq x.name l[k].name)
      rotate_left
      · have HE := Lib.hid (firstErr_at He.out (by rw [qErrAt_twice hlt hn ht]; decide) hlt)
        have HE2 := Lib.hid (qErrAt_twice hlt hn ht)
        go_wp2_with (first | (go_at_call 66; refine (isName_any l[k].name (by unfold maxLen; omega) _).mono ?_; rintro e w1 ⟨rfl, rfl⟩) | (go_at_call 67; refine HCon.out.mono ?_; rintro e w1 ⟨rfl, hb1⟩))
        go_ret
        exact ⟨ret_int (by rw [HC.out, HE.out, HE2.out]), Hb.out.trans (HB1.out.trans (hb1.mono (by simp; omega)))⟩
      have HE0 := Lib.hid (qErrAt_rest hlt hn ht)
      cases hgb : (checkQB l[k] != 0)
      · have hgb' : checkQB l[k] = 0 := by simpa using hgb
        have Hgb := Lib.hid hgb'; clear hgb'
        go_wp2_with (first | (go_at_call 66; refine (isName_any l[k].name (by unfold maxLen; omega) _).mono ?_; rintro e w1 ⟨rfl, rfl⟩) | (go_at_call 67; refine HCon.out.mono ?_; rintro e w1 ⟨rfl, hb1⟩; obtain ⟨hcl, hfr⟩ := bcell hb1; have Hq1 := Lib.hid (Hq.out.mono hsz); have Hs1 := Lib.hid hb1.size) | (go_at_call 69; refine (checkQuantity_any l[k] wr.heap.size _ ((Hq1.out.below ((Below.refl _ _).alloc (Nat.le_refl _) _)).below (hb1.mono (by simp))) (by have := Hs1.out; simp at this; omega)).mono ?_; rintro e w2 ⟨rfl, hb2⟩))
        go_roundw
        case rel => exact ⟨k + 1, by omega, by go_num, Lib.hid (by rw [firstErr_succ He.out, HE0.out, Hgb.out]), Lib.hid (Hb.out.trans (HB1.out.trans ((hb1.mono (by simp; omega)).trans (hb2.mono (by have := hb1.size; simp at this; omega)))))⟩
        case measure => simp [intOf]; omega
      · have HE := Lib.hid (firstErr_at He.out (by rw [HE0.out]; simpa using hgb) hlt)
        go_wp2_with (first | (go_at_call 66; refine (isName_any l[k].name (by unfold maxLen; omega) _).mono ?_; rintro e w1 ⟨rfl, rfl⟩) | (go_at_call 67; refine HCon.out.mono ?_; rintro e w1 ⟨rfl, hb1⟩; obtain ⟨hcl, hfr⟩ := bcell hb1; have Hq1 := Lib.hid (Hq.out.mono hsz); have Hs1 := Lib.hid hb1.size) | (go_at_call 69; refine (checkQuantity_any l[k] wr.heap.size _ ((Hq1.out.below ((Below.refl _ _).alloc (Nat.le_refl _) _)).below (hb1.mono (by simp))) (by have := Hs1.out; simp at this; omega)).mono ?_; rintro e w2 ⟨rfl, hb2⟩))
        go_ret
        exact ⟨ret_int (by rw [HC.out, HE.out, HE0.out]), Hb.out.trans (HB1.out.trans ((hb1.mono (by simp; omega)).trans (hb2.mono (by have := hb1.size; simp at this; omega))))⟩
    · go_wp2
      go_ret
      exact ⟨ret_int (by rw [HC.out, ← He.out]; congr 1; omega), Hb.out⟩
end Go.Proofs.YtcgnpndfhhcplaaGreatDoor
