/-
  The law WatchTimes answers true. Conditions: how its arguments lie in memory.
-/
import Derived.Test.YtcgnpndfhhcplaaRLate
import Derived.Test.YtcgnpndfhhcplaaRSmall
import Derived.Test.YtcgnpndfhhcplaaWakes
import Derived.Test.YtcgnpndfhhcplaaInside
import Derived.Deep.CutRange
namespace Go.Proofs.Ytcgnpndfhhcplaa
open Go.RowKit W7
attribute [local go_sem] Oper.semAt_some
set_option maxHeartbeats 2000000 in
set_option maxRecDepth 100000 in
theorem vast_any (p : Plan) (B : Nat) (w : World) (hp : PIn w B p) (hB : B ≤ w.heap.size) :
    Calls Try.prog 29 #[.agg #[.slice p.qA p.qs.length p.qc, .slice p.mA p.ms.length p.mc, .slice p.aA p.al.length p.ac]] w fun e w' => ∃ b, e = .returned (.bool b) ∧ Below w.heap.size w w' := by
  obtain ⟨QQ, hQQ⟩ : ∃ QQ, p.qA = QQ := ⟨_, rfl⟩
  obtain ⟨MM, hMM⟩ : ∃ MM, p.mA = MM := ⟨_, rfl⟩
  rw [hQQ, hMM]
  obtain ⟨W0, hW0⟩ : ∃ W0, W0 = w.alloc (.cells #[.slice QQ p.qs.length p.qc, .slice MM p.ms.length p.mc, .slice p.aA p.al.length p.ac] 64) := ⟨_, rfl⟩
  have HB0 := Lib.hid (show Below w.heap.size w W0 by rw [hW0]; exact (Below.refl _ _).alloc (Nat.le_refl _) _)
  have hs0 : w.heap.size < W0.heap.size := by rw [hW0]; simp
  have HQ0 := Lib.hid (show ∀ (X : World), Below W0.heap.size W0 X → X.cell? ⟨w.heap.size, 0, none⟩ = some (.slice QQ p.qs.length p.qc) ∧ X.cell? ⟨w.heap.size, 1, none⟩ = some (.slice MM p.ms.length p.mc) ∧ X.cell? ⟨w.heap.size, 2, none⟩ = some (.slice p.aA p.al.length p.ac) from fun X hX =>
    ⟨(hX.cell (p := ⟨w.heap.size, 0, none⟩) hs0).trans (by rw [hW0]; exact alloc_cell rfl), (hX.cell (p := ⟨w.heap.size, 1, none⟩) hs0).trans (by rw [hW0]; exact alloc_cell rfl), (hX.cell (p := ⟨w.heap.size, 2, none⟩) hs0).trans (by rw [hW0]; exact alloc_cell rfl)⟩)
  have HP := Lib.hid (fun (X : World) (hX : Below W0.heap.size W0 X) => (hp.mono hB).below (HB0.out.trans (hX.mono (Nat.le_of_lt hs0))))
  have HU := Lib.hid (fun (X : World) (hX : Below W0.heap.size W0 X) => show Below w.heap.size w X from HB0.out.trans (hX.mono (Nat.le_of_lt hs0)))
  have HQs := Lib.hid (fun (X : World) (hX : Below W0.heap.size W0 X) => show Sl X w.heap.size 7 encQ QQ p.qs by rw [← hQQ]; exact (HP.out X hX).qsl)
  have HMs := Lib.hid (fun (X : World) (hX : Below W0.heap.size W0 X) => show Sl X w.heap.size 5 encM MM p.ms by rw [← hMM]; exact (HP.out X hX).msl)
  have hql := hp.qlc
  have hqc := hp.qc2
  have hml := hp.mlc
  have hmc := hp.mc2
  obtain ⟨q0, q1, q2⟩ := HQ0.out W0 (Below.refl _ _)
  have HW0 := Lib.hid hW0
  clear hW0 hp hQQ hMM
  go_enter Try.func29, Try.ntmps29
  go_upto_region 1 with fail
  rw [← HW0.out]
  go_upto_region 2 with fail
  go_wp2
  clear q0 q1 q2
  go_loopw [3, 4] (fun v3 v4 wr => ∃ (i : Nat) (n : Int), i ≤ p.qs.length ∧ v4 = .int .i64 i ∧ v3 = .int .i64 n ∧ Hid (Below W0.heap.size W0 wr)) (fun _ v4 _ => p.qs.length - (intOf v4).toNat)
  case atStart => exact ⟨0, _, by omega, rfl, rfl, Lib.hid (Below.refl _ _)⟩
  case round =>
    obtain ⟨i, n, hi, rfl, rfl, Hb⟩ := hrel
    have hsz := Hb.out.size
    have hwr : w.heap.size < wr.heap.size := by omega
    obtain ⟨q0, q1, q2⟩ := HQ0.out wr Hb.out
    by_cases hlt : i < p.qs.length
    · cases hn : decide (n < 100)
      · skip
        go_wp2
        clear q0 q1 q2
        go_loopw [3, 5] (fun v3 v5 wx => ∃ (i : Nat) (n : Int), i ≤ p.ms.length ∧ v5 = .int .i64 i ∧ v3 = .int .i64 n ∧ Hid (Below W0.heap.size W0 wx)) (fun _ v5 _ => p.ms.length - (intOf v5).toNat)
        case atStart => exact ⟨0, _, by omega, rfl, rfl, Hb⟩
        case round =>
          obtain ⟨j, n2, hj, rfl, rfl, Hb2⟩ := hrel
          have hsz2 := Hb2.out.size
          have hwr2 : w.heap.size < wr.heap.size := by omega
          obtain ⟨q0, q1, q2⟩ := HQ0.out wr Hb2.out
          by_cases hlm : j < p.ms.length
          · cases hn2 : decide (n2 < 100)
            · go_wp2
              go_ret
              exact ⟨_, rfl, HU.out wr Hb2.out⟩
            · obtain ⟨b, off, rfl, hbB, hcells⟩ := (HMs.out wr Hb2.out) (by omega)
              have hbr : b < wr.heap.size := by omega
              have c0 : wr.cell? ⟨b, off + j * 5, none⟩ = some (.string p.ms[j].name) := hcells j hlm 0 _ rfl
              have c1 : wr.cell? ⟨b, off + j * 5 + 1, none⟩ = some (.string p.ms[j].crew) := hcells j hlm 1 _ rfl
              clear hcells
              go_wp2
              go_quiet (fail)
              go_wp2
              go_roundw
              case rel => exact ⟨j + 1, _, by omega, by go_num, rfl, Lib.hid (below_drewN Hb2.out _)⟩
              case measure => simp [intOf]; omega
          · obtain rfl : j = p.ms.length := by omega
            go_wp2
            go_ret
            exact ⟨_, rfl, HU.out wr Hb2.out⟩
      · obtain ⟨b, off, rfl, hbB, hcells⟩ := (HQs.out wr Hb.out) (by omega)
        have hbr : b < wr.heap.size := by omega
        have c0 : wr.cell? ⟨b, off + i * 7, none⟩ = some (.string p.qs[i].name) := hcells i hlt 0 _ rfl
        have c6 : wr.cell? ⟨b, off + i * 7 + 6, none⟩ = some (.slice p.qs[i].gA p.qs[i].gs.length p.qs[i].gc) := hcells i hlt 6 _ rfl
        clear hcells
        go_wp2
        go_quiet (fail)
        go_wp2
        go_roundw
        case rel => exact ⟨i + 1, _, by omega, by go_num, rfl, Lib.hid (below_drewN Hb.out _)⟩
        case measure => simp [intOf]; omega
    · obtain rfl : i = p.qs.length := by omega
      go_wp2
      clear q0 q1 q2
      go_loopw [3, 5] (fun v3 v5 wx => ∃ (i : Nat) (n : Int), i ≤ p.ms.length ∧ v5 = .int .i64 i ∧ v3 = .int .i64 n ∧ Hid (Below W0.heap.size W0 wx)) (fun _ v5 _ => p.ms.length - (intOf v5).toNat)
      case atStart => exact ⟨0, _, by omega, rfl, rfl, Hb⟩
      case round =>
        obtain ⟨j, n2, hj, rfl, rfl, Hb2⟩ := hrel
        have hsz2 := Hb2.out.size
        have hwr2 : w.heap.size < wr.heap.size := by omega
        obtain ⟨q0, q1, q2⟩ := HQ0.out wr Hb2.out
        by_cases hlm : j < p.ms.length
        · cases hn2 : decide (n2 < 100)
          · go_wp2
            go_ret
            exact ⟨_, rfl, HU.out wr Hb2.out⟩
          · obtain ⟨b, off, rfl, hbB, hcells⟩ := (HMs.out wr Hb2.out) (by omega)
            have hbr : b < wr.heap.size := by omega
            have c0 : wr.cell? ⟨b, off + j * 5, none⟩ = some (.string p.ms[j].name) := hcells j hlm 0 _ rfl
            have c1 : wr.cell? ⟨b, off + j * 5 + 1, none⟩ = some (.string p.ms[j].crew) := hcells j hlm 1 _ rfl
            clear hcells
            go_wp2
            go_quiet (fail)
            go_wp2
            go_roundw
            case rel => exact ⟨j + 1, _, by omega, by go_num, rfl, Lib.hid (below_drewN Hb2.out _)⟩
            case measure => simp [intOf]; omega
        · obtain rfl : j = p.ms.length := by omega
          go_wp2
          go_ret
          exact ⟨_, rfl, HU.out wr Hb2.out⟩
theorem lateV_len (p : Plan) (h : ∀ m ∈ p.ms, m.name.size ≤ 9223372036854775807 ∧ m.crew.size ≤ 9223372036854775807) : (lateV p).length ≤ 1000000 := by
  unfold lateV
  split
  · rename_i h0
    have h1 := (planOk h0 h).a16
    have h2 : (lateAt p p.al.length).length ≤ p.al.length := selN_len _ _
    omega
  · simp
theorem mapI (l : List Int) : l.map (Value.int .i64) = l.flatMap encInt1 := by
  induction l with
  | nil => rfl
  | cons x l ih => simp [encInt1, ih]
set_option maxHeartbeats 2000000 in
set_option maxRecDepth 100000 in
theorem LawTimes_any (p : Plan) (n : Int) (w : World) (hp : PIn w w.heap.size p) :
    Calls Try.prog 8 #[.agg #[.slice p.qA p.qs.length p.qc, .slice p.mA p.ms.length p.mc, .slice p.aA p.al.length p.ac], .int .i64 n] w fun e w' => e = .returned (.bool true) ∧ Below w.heap.size w w' := by
  obtain ⟨W0, hW0⟩ : ∃ W0, W0 = w.alloc (.cells #[.slice p.qA p.qs.length p.qc, .slice p.mA p.ms.length p.mc, .slice p.aA p.al.length p.ac] 64) := ⟨_, rfl⟩
  have HB0 := Lib.hid (show Below w.heap.size w W0 by rw [hW0]; exact (Below.refl _ _).alloc (Nat.le_refl _) _)
  have hs0 : w.heap.size < W0.heap.size := by rw [hW0]; simp
  have HQ0 := Lib.hid (show ∀ (X : World), Below W0.heap.size W0 X → X.cell? ⟨w.heap.size, 0, none⟩ = some (.slice p.qA p.qs.length p.qc) ∧ X.cell? ⟨w.heap.size, 1, none⟩ = some (.slice p.mA p.ms.length p.mc) ∧ X.cell? ⟨w.heap.size, 2, none⟩ = some (.slice p.aA p.al.length p.ac) from fun X hX =>
    ⟨(hX.cell (p := ⟨w.heap.size, 0, none⟩) hs0).trans (by rw [hW0]; exact alloc_cell rfl), (hX.cell (p := ⟨w.heap.size, 1, none⟩) hs0).trans (by rw [hW0]; exact alloc_cell rfl), (hX.cell (p := ⟨w.heap.size, 2, none⟩) hs0).trans (by rw [hW0]; exact alloc_cell rfl)⟩)
  have HP := Lib.hid (fun (X : World) (hX : Below W0.heap.size W0 X) => hp.below (HB0.out.trans (hX.mono (Nat.le_of_lt hs0))))
  have HU := Lib.hid (fun (X : World) (hX : Below W0.heap.size W0 X) => show Below w.heap.size w X from HB0.out.trans (hX.mono (Nat.le_of_lt hs0)))
  have HVa := Lib.hid (vast_any p w.heap.size W0 (HP.out W0 (Below.refl _ _)) (by omega))
  have HLl := Lib.hid (lateV_len p hp.mnm)
  obtain ⟨q0, q1, q2⟩ := HQ0.out W0 (Below.refl _ _)
  have HW0 := Lib.hid hW0
  clear hW0 hp
  go_enter Try.func8, Try.ntmps8
  go_wp2_with (go_at_call 34; fail)
  rw [← HW0.out]
  refine HVa.out.mono ?_
  rintro r w1 ⟨b, rfl, hb1⟩
  have HB1 := Lib.hid hb1
  have hs1 := hb1.size
  clear hb1 HVa q0 q1 q2
  obtain ⟨q0, q1, q2⟩ := HQ0.out w1 HB1.out
  cases b
  rotate_left
  · go_wp2_with (go_at_call 10; refine (wakes_any _).mono ?_; rintro r w2 ⟨rfl, hb2⟩)
    go_ret
    exact ⟨rfl, (HU.out w1 HB1.out).trans (hb2.mono (by omega))⟩
  have H2 := Lib.hid (Response_any p n w.heap.size w1 (HP.out w1 HB1.out) (by omega))
  go_wp2_with (go_at_call 34; fail)
  refine H2.out.mono ?_
  rintro r w2 ⟨rfl, hb2⟩
  have HB2 := Lib.hid (HB1.out.trans (hb2.mono hs1))
  have hs2 := hb2.size
  clear hb2 H2 q0 q1 q2
  obtain ⟨q0, q1, q2⟩ := HQ0.out w2 HB2.out
  have H3 := Lib.hid (refResp_any p n w.heap.size w2 (HP.out w2 HB2.out) (by omega))
  go_wp2_with (go_at_call 34; fail)
  refine H3.out.mono ?_
  rintro r w3 ⟨rfl, hb3⟩
  have HB3 := Lib.hid (HB2.out.trans (hb3.mono (by omega)))
  have hs3 := hb3.size
  clear hb3 H3 q0 q1 q2
  obtain ⟨q0, q1, q2⟩ := HQ0.out w3 HB3.out
  have H4 := Lib.hid (Late_any p w.heap.size w3 (HP.out w3 HB3.out) (by omega))
  generalize resV p n = rv
  generalize resE p n = re
  have hrv : (rv != rv) = false := by simp
  have hre : (re != re) = false := by simp
  go_wp2_with (go_at_call 34; fail)
  refine H4.out.mono ?_
  rintro r w4 ⟨v1, rfl, ho1, hb4⟩
  have HB4 := Lib.hid (HB3.out.trans (hb4.mono (by omega)))
  have hs4 := hb4.size
  rw [mapI] at ho1
  obtain ⟨A1, k1, rfl, hk11, hk12⟩ := own_cap ho1
  have Ho1 := Lib.hid ho1
  clear hb4 H4 q0 q1 q2 ho1
  obtain ⟨q0, q1, q2⟩ := HQ0.out w4 HB4.out
  have H5 := Lib.hid (refLate_any p w.heap.size w4 (HP.out w4 HB4.out) (by omega))
  go_wp2_with (go_at_call 34; fail)
  refine H5.out.mono ?_
  rintro r w5 ⟨v2, rfl, ho2, hb5⟩
  have HB5 := Lib.hid (HB4.out.trans (hb5.mono (by omega)))
  have hs5 := hb5.size
  rw [mapI] at ho2
  obtain ⟨A2, k2, rfl, hk21, hk22⟩ := own_cap ho2
  have HEq := Lib.hid (intsEq_any (lateV p) A1 A2 k1 k2 w5.heap.size (lateV p).length rfl w5 (sl_own (enc := encInt1) (fun _ => rfl) (own_below Ho1.out hb5)) (sl_own (enc := encInt1) (fun _ => rfl) ho2) (Nat.le_refl _) HLl.out)
  generalize planErr p = pe
  have hpe : (pe == pe) = true := by simp
  generalize (lateV p).length = n1 at *
  clear hb5 H5 q0 q1 q2 ho2
  go_wp2_with (go_at_call 34; fail)
  refine HEq.out.mono ?_
  rintro r w6 ⟨rfl, hb6⟩
  have HB6 := Lib.hid (HB5.out.trans (hb6.mono (by omega)))
  have hs6 := hb6.size
  clear hb6 HEq
  go_wp2_with (go_at_call 10; refine (wakes_any _).mono ?_; rintro r w7 ⟨rfl, hb7⟩)
  go_ret
  exact ⟨rfl, (HU.out w6 HB6.out).trans (hb7.mono (by omega))⟩
end Go.Proofs.Ytcgnpndfhhcplaa
