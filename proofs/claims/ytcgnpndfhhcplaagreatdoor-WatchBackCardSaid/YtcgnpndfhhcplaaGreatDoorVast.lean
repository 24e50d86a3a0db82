/-
  Is a plan too great to be asked: the law's vast returns. Conditions: how the plan lies in memory.
-/
import Derived.Test.YtcgnpndfhhcplaaGreatDoorChkQ
import Derived.Deep.CutRange
import Derived.BigQuiet
namespace Go.Proofs.YtcgnpndfhhcplaaGreatDoor
open Go.RowKit W7
attribute [local go_sem] Oper.semAt_some
set_option maxHeartbeats 2000000 in
set_option maxRecDepth 100000 in
theorem vast_any (p : Plan) (B : Nat) (w : World) (hp : PIn w B p) (hB : B ≤ w.heap.size) :
    Calls Tryz.prog 6 #[.agg #[.slice p.qA p.qs.length p.qc, .slice p.mA p.ms.length p.mc, .slice p.aA p.al.length p.ac]] w fun e w' => ∃ b, e = .returned (.bool b) ∧ Below w.heap.size w w' := by
  obtain ⟨QQ, hQQ⟩ : ∃ QQ, p.qA = QQ := ⟨_, rfl⟩
  obtain ⟨MM, hMM⟩ : ∃ MM, p.mA = MM := ⟨_, rfl⟩
  rw [hQQ, hMM]
  obtain ⟨W0, hW0⟩ : ∃ W0, W0 = w.alloc (.cells #[.slice QQ p.qs.length p.qc, .slice MM p.ms.length p.mc, .slice p.aA p.al.length p.ac] 26) := ⟨_, rfl⟩
  have HB0 := Lib.hid (show Below w.heap.size w W0 by rw [hW0]; exact (Below.refl _ _).alloc (Nat.le_refl _) _)
  have hs0 : w.heap.size < W0.heap.size := by rw [hW0]; simp
  have HQ0 := Lib.hid (show ∀ (X : World), Below W0.heap.size W0 X → X.cell? ⟨w.heap.size, 0, none⟩ = some (.slice QQ p.qs.length p.qc) ∧ X.cell? ⟨w.heap.size, 1, none⟩ = some (.slice MM p.ms.length p.mc) ∧ X.cell? ⟨w.heap.size, 2, none⟩ = some (.slice p.aA p.al.length p.ac) from fun X hX =>
    ⟨(hX.cell (p := ⟨w.heap.size, 0, none⟩) hs0).trans (by rw [hW0]; exact alloc_cell rfl), (hX.cell (p := ⟨w.heap.size, 1, none⟩) hs0).trans (by rw [hW0]; exact alloc_cell rfl), (hX.cell (p := ⟨w.heap.size, 2, none⟩) hs0).trans (by rw [hW0]; exact alloc_cell rfl)⟩)
  have HP := Lib.hid (fun (X : World) (hX : Below W0.heap.size W0 X) => (hp.mono hB).below (HB0.out.trans (hX.mono (Nat.le_of_lt hs0))))
  have HU := Lib.hid (fun (X : World) (hX : Below W0.heap.size W0 X) => show Below w.heap.size w X from HB0.out.trans (hX.mono (Nat.le_of_lt hs0)))
  have HQs := Lib.hid (fun (X : World) (hX : Below W0.heap.size W0 X) => show Sl X w.heap.size 7 encQ QQ p.qs by rw [← hQQ]; exact (HP.out X hX).qsl)
  have HMs := Lib.hid (fun (X : World) (hX : Below W0.heap.size W0 X) => show Sl X w.heap.size 5 encM MM p.ms by rw [← hMM]; exact (HP.out X hX).msl)
  have hql := hp.qlc
  have hqc := hp.qc2
  have hml := hp.mlc
  have hmc := hp.mc2
  obtain ⟨q0, q1, q2⟩ := HQ0.out W0 (Below.refl _ _)
  have HW0 := Lib.hid hW0
  clear hW0 hp hQQ hMM
  go_enter Tryz.func6, Tryz.ntmps6
  go_upto_region 1 with fail
  rw [← HW0.out]
  go_upto_region 2 with fail
  go_wp2
  clear q0 q1 q2
  go_loopw [3, 4] (fun v3 v4 wr => ∃ (i : Nat) (n : Int), i ≤ p.qs.length ∧ v4 = .int .i64 i ∧ v3 = .int .i64 n ∧ Hid (Below W0.heap.size W0 wr)) (fun _ v4 _ => p.qs.length - (intOf v4).toNat)
  case atStart => exact ⟨0, _, by omega, rfl, rfl, Lib.hid (Below.refl _ _)⟩
  case round =>
    obtain ⟨i, n, hi, rfl, rfl, Hb⟩ := hrel
    have hsz := Hb.out.size
    have hwr : w.heap.size < wr.heap.size := by omega
    obtain ⟨q0, q1, q2⟩ := HQ0.out wr Hb.out
    by_cases hlt : i < p.qs.length
    · cases hn : decide (n < 100)
      · skip
        go_wp2
        clear q0 q1 q2
        go_loopw [3, 5] (fun v3 v5 wx => ∃ (i : Nat) (n : Int), i ≤ p.ms.length ∧ v5 = .int .i64 i ∧ v3 = .int .i64 n ∧ Hid (Below W0.heap.size W0 wx)) (fun _ v5 _ => p.ms.length - (intOf v5).toNat)
        case atStart => exact ⟨0, _, by omega, rfl, rfl, Hb⟩
        case round =>
          obtain ⟨j, n2, hj, rfl, rfl, Hb2⟩ := hrel
          have hsz2 := Hb2.out.size
          have hwr2 : w.heap.size < wr.heap.size := by omega
          obtain ⟨q0, q1, q2⟩ := HQ0.out wr Hb2.out
          by_cases hlm : j < p.ms.length
          · cases hn2 : decide (n2 < 100)
            · go_wp2
              go_ret
              exact ⟨_, rfl, HU.out wr Hb2.out⟩
            · obtain ⟨b, off, rfl, hbB, hcells⟩ := (HMs.out wr Hb2.out) (by omega)
              have hbr : b < wr.heap.size := by omega
              have c0 : wr.cell? ⟨b, off + j * 5, none⟩ = some (.string p.ms[j].name) := hcells j hlm 0 _ rfl
              have c1 : wr.cell? ⟨b, off + j * 5 + 1, none⟩ = some (.string p.ms[j].crew) := hcells j hlm 1 _ rfl
              clear hcells
              go_wp2
              go_quiet (fail)
              go_wp2
              go_roundw
              case rel => exact ⟨j + 1, _, by omega, by go_num, rfl, Lib.hid (below_drewN Hb2.out _)⟩
              case measure => simp [intOf]; omega
          · obtain rfl : j = p.ms.length := by omega
            go_wp2
            go_ret
            exact ⟨_, rfl, HU.out wr Hb2.out⟩
      · obtain ⟨b, off, rfl, hbB, hcells⟩ := (HQs.out wr Hb.out) (by omega)
        have hbr : b < wr.heap.size := by omega
        have c0 : wr.cell? ⟨b, off + i * 7, none⟩ = some (.string p.qs[i].name) := hcells i hlt 0 _ rfl
        have c6 : wr.cell? ⟨b, off + i * 7 + 6, none⟩ = some (.slice p.qs[i].gA p.qs[i].gs.length p.qs[i].gc) := hcells i hlt 6 _ rfl
        clear hcells
        go_wp2
        go_quiet (fail)
        go_wp2
        go_roundw
        case rel => exact ⟨i + 1, _, by omega, by go_num, rfl, Lib.hid (below_drewN Hb.out _)⟩
        case measure => simp [intOf]; omega
    · obtain rfl : i = p.qs.length := by omega
      go_wp2
      clear q0 q1 q2
      go_loopw [3, 5] (fun v3 v5 wx => ∃ (i : Nat) (n : Int), i ≤ p.ms.length ∧ v5 = .int .i64 i ∧ v3 = .int .i64 n ∧ Hid (Below W0.heap.size W0 wx)) (fun _ v5 _ => p.ms.length - (intOf v5).toNat)
      case atStart => exact ⟨0, _, by omega, rfl, rfl, Hb⟩
      case round =>
        obtain ⟨j, n2, hj, rfl, rfl, Hb2⟩ := hrel
        have hsz2 := Hb2.out.size
        have hwr2 : w.heap.size < wr.heap.size := by omega
        obtain ⟨q0, q1, q2⟩ := HQ0.out wr Hb2.out
        by_cases hlm : j < p.ms.length
        · cases hn2 : decide (n2 < 100)
          · go_wp2
            go_ret
            exact ⟨_, rfl, HU.out wr Hb2.out⟩
          · obtain ⟨b, off, rfl, hbB, hcells⟩ := (HMs.out wr Hb2.out) (by omega)
            have hbr : b < wr.heap.size := by omega
            have c0 : wr.cell? ⟨b, off + j * 5, none⟩ = some (.string p.ms[j].name) := hcells j hlm 0 _ rfl
            have c1 : wr.cell? ⟨b, off + j * 5 + 1, none⟩ = some (.string p.ms[j].crew) := hcells j hlm 1 _ rfl
            clear hcells
            go_wp2
            go_quiet (fail)
            go_wp2
            go_roundw
            case rel => exact ⟨j + 1, _, by omega, by go_num, rfl, Lib.hid (below_drewN Hb2.out _)⟩
            case measure => simp [intOf]; omega
        · obtain rfl : j = p.ms.length := by omega
          go_wp2
          go_ret
          exact ⟨_, rfl, HU.out wr Hb2.out⟩
end Go.Proofs.YtcgnpndfhhcplaaGreatDoor
