/-
  The specification's Text gives the text of a valid plan. Conditions: how the plan lies in memory; it is valid.
-/
import Derived.Test.YtcgnpndfhhcplaaGreatDoorDec
import Derived.Test.YtcgnpndfhhcplaaGreatDoorRegion
import Derived.Deep.CutRange
namespace Go.Proofs.YtcgnpndfhhcplaaGreatDoor
open Go.RowKit W7
attribute [local go_sem] Oper.semAt_some
set_option maxHeartbeats 4000000 in
set_option maxRecDepth 100000 in
theorem refText_any (p : Plan) (B : Nat) (w : World) (hp : PIn w B p) (hB : B ≤ w.heap.size) (hF : PlanFull p) :
    Calls Tryz.prog 29 #[.agg #[.slice p.qA p.qs.length p.qc, .slice p.mA p.ms.length p.mc, .slice p.aA p.al.length p.ac]] w fun e w' => e = .returned (.string ⟨(txt p).toArray⟩) ∧ Below w.heap.size w w' := by
  obtain ⟨QQ, hQQ⟩ : ∃ QQ, p.qA = QQ := ⟨_, rfl⟩
  obtain ⟨MM, hMM⟩ : ∃ MM, p.mA = MM := ⟨_, rfl⟩
  obtain ⟨AA, hAA⟩ : ∃ AA, p.aA = AA := ⟨_, rfl⟩
  rw [hQQ, hMM, hAA]
  obtain ⟨W0, hW0⟩ : ∃ W0, W0 = w.alloc (.cells #[.slice QQ p.qs.length p.qc, .slice MM p.ms.length p.mc, .slice AA p.al.length p.ac] 26) := ⟨_, rfl⟩
  have HB0 := Lib.hid (show Below w.heap.size w W0 by rw [hW0]; exact (Below.refl _ _).alloc (Nat.le_refl _) _)
  have hs0 : w.heap.size < W0.heap.size := by rw [hW0]; simp
  have HQ0 := Lib.hid (show ∀ (X : World), Below W0.heap.size W0 X → X.cell? ⟨w.heap.size, 0, none⟩ = some (.slice QQ p.qs.length p.qc) ∧ X.cell? ⟨w.heap.size, 1, none⟩ = some (.slice MM p.ms.length p.mc) ∧ X.cell? ⟨w.heap.size, 2, none⟩ = some (.slice AA p.al.length p.ac) from fun X hX =>
    ⟨(hX.cell (p := ⟨w.heap.size, 0, none⟩) hs0).trans (by rw [hW0]; exact alloc_cell rfl), (hX.cell (p := ⟨w.heap.size, 1, none⟩) hs0).trans (by rw [hW0]; exact alloc_cell rfl), (hX.cell (p := ⟨w.heap.size, 2, none⟩) hs0).trans (by rw [hW0]; exact alloc_cell rfl)⟩)
  have HP := Lib.hid (fun (X : World) (hX : Below W0.heap.size W0 X) => (hp.mono hB).below (HB0.out.trans (hX.mono (Nat.le_of_lt hs0))))
  have HU := Lib.hid (fun (X : World) (hX : Below W0.heap.size W0 X) => show Below w.heap.size w X from HB0.out.trans (hX.mono (Nat.le_of_lt hs0)))
  have HQs := Lib.hid (fun (X : World) (hX : Below W0.heap.size W0 X) => show Sl X w.heap.size 7 encQ QQ p.qs by rw [← hQQ]; exact (HP.out X hX).qsl)
  have HMs := Lib.hid (fun (X : World) (hX : Below W0.heap.size W0 X) => show Sl X w.heap.size 5 encM MM p.ms by rw [← hMM]; exact (HP.out X hX).msl)
  have HAs := Lib.hid (fun (X : World) (hX : Below W0.heap.size W0 X) => show Sl X w.heap.size 4 encA AA p.al by rw [← hAA]; exact (HP.out X hX).asl)
  have hql : p.qs.length ≤ 9223372036854775807 := by have := hp.qlc; have := hp.qc2; omega
  have hml : p.ms.length ≤ 9223372036854775807 := by have := hp.mlc; have := hp.mc2; omega
  have hal : p.al.length ≤ 9223372036854775807 := by have := hp.alc; have := hp.ac2; omega
  have Hgl := Lib.hid (fun q (hq : q ∈ p.qs) => (hp.qin q hq).len)
  have HG := Lib.hid hF
  obtain ⟨q0, q1, q2⟩ := HQ0.out W0 (Below.refl _ _)
  have HW0 := Lib.hid hW0
  clear hW0 hp hQQ hMM hAA hF
  go_enter Tryz.func29, Tryz.ntmps29
  go_upto_region 1 with fail
  rw [← HW0.out]
  go_wp2
  clear q0 q1 q2
  go_loopw [3, 4] (fun v3 v wr => ∃ (k : Nat) (S : ByteArray), k ≤ p.qs.length ∧ v = .int .i64 k ∧ v3 = .string S ∧ Hid (S = ⟨(qsTxt (p.qs.take k)).toArray⟩) ∧ Hid (Below W0.heap.size W0 wr)) (fun _ v _ => p.qs.length - (intOf v).toNat)
  case atStart => exact ⟨0, ⟨#[]⟩, by omega, rfl, rfl, Lib.hid rfl, Lib.hid (Below.refl _ _)⟩
  case round =>
    obtain ⟨k, S, hk, rfl, rfl, HS, Hb⟩ := hrel
    have hsz := Hb.out.size
    obtain ⟨q0, q1, q2⟩ := HQ0.out wr Hb.out
    have hw0 : w.heap.size < wr.heap.size := by omega
    by_cases hlt : k < p.qs.length
    · skip
      obtain ⟨b1, o1, rfl, hb1, hc1⟩ := (HQs.out wr Hb.out) (by omega)
      have hbw1 : b1 < wr.heap.size := by omega
      have hSs := size_mk HS.out (HG.out.qs_le k)
      have HAll := Lib.hid (HG.out.q p.qs[k] (List.getElem_mem hlt))
      have HGs := Lib.hid (fun j => HG.out.gs_le k j hlt)
      have HQl := Lib.hid (HG.out.qLine p.qs[k] (List.getElem_mem hlt))
      have HQa := Lib.hid (HG.out.qs_le k)
      have HSu := Lib.hid (show qsTxt (p.qs.take (k + 1)) = qsTxt (p.qs.take k) ++ (lineT (qWs p.qs[k]) ++ (p.qs[k].gs.map fun g => lineT (gWs g)).flatten) from flat_take_succ qTxt hlt)
      have hgl := Hgl.out p.qs[k] (List.getElem_mem hlt)
      have HGq := Lib.hid (show ∀ (X : World), Below W0.heap.size W0 X → Sl X w.heap.size 4 encG p.qs[k].gA p.qs[k].gs from fun X hX => ((HP.out X hX).qin _ (List.getElem_mem hlt)).sl)
      obtain ⟨q, hq⟩ : ∃ q, q = p.qs[k] := ⟨_, rfl⟩
      have g0 : wr.cell? ⟨b1, o1 + k * 7, none⟩ = some (.string q.name) := by rw [hq]; exact hc1 k hlt 0 _ rfl
      have g1 : wr.cell? ⟨b1, o1 + k * 7 + 1, none⟩ = some (.int .i64 q.lo) := by rw [hq]; exact hc1 k hlt 1 _ rfl
      have g2 : wr.cell? ⟨b1, o1 + k * 7 + 2, none⟩ = some (.int .i64 q.hi) := by rw [hq]; exact hc1 k hlt 2 _ rfl
      have g3 : wr.cell? ⟨b1, o1 + k * 7 + 3, none⟩ = some (.int .i64 q.rise) := by rw [hq]; exact hc1 k hlt 3 _ rfl
      have g4 : wr.cell? ⟨b1, o1 + k * 7 + 4, none⟩ = some (.int .i64 q.fall) := by rw [hq]; exact hc1 k hlt 4 _ rfl
      have g5 : wr.cell? ⟨b1, o1 + k * 7 + 5, none⟩ = some (.int .i64 q.bad) := by rw [hq]; exact hc1 k hlt 5 _ rfl
      have g6 : wr.cell? ⟨b1, o1 + k * 7 + 6, none⟩ = some (.slice q.gA q.gs.length q.gc) := by rw [hq]; exact hc1 k hlt 6 _ rfl
      simp only [← hq] at HAll HGs HSu hgl HGq HQl
      clear hq hc1
      obtain ⟨GA, hGA⟩ : ∃ GA, q.gA = GA := ⟨_, rfl⟩
      rw [hGA] at g6 HGq
      have hnm := HAll.out.2.1
      obtain ⟨r1, r2, r3, r4, r5⟩ := HAll.out.2.2.1
      have i1 := itB_size q.lo r1.1 r1.2
      have i2 := itB_size q.hi r2.1 r2.2
      have i3 := itB_size q.rise r3.1 r3.2
      have i4 := itB_size q.fall r4.1 r4.2
      have i5 := itB_size q.bad r5.1 r5.2
      have HPs := Lib.hid (show ∀ x ∈ qPs q, x.size ≤ 16 by
        simp only [qPs, List.forall_mem_cons, List.not_mem_nil, false_imp_iff, implies_true, and_true]
        exact ⟨by decide, hnm, by decide, i1, by decide, i2, by decide, i3, by decide, i4, by decide, i5, by decide⟩)
      obtain ⟨W5, hW5⟩ : ∃ W5, W5 = wr.alloc (.cells #[.string q.name, .int .i64 q.lo, .int .i64 q.hi, .int .i64 q.rise, .int .i64 q.fall, .int .i64 q.bad, .slice GA q.gs.length q.gc] 47) := ⟨_, rfl⟩
      have Hbl5 := Lib.hid (show Below wr.heap.size wr W5 by rw [hW5]; exact (Below.refl _ _).alloc (Nat.le_refl _) _)
      have HbA5 := Lib.hid (Hb.out.trans (Hbl5.out.mono hsz))
      have hs5 : wr.heap.size < W5.heap.size := by rw [hW5]; simp
      have x0 := later_cell (show W5.cell? ⟨wr.heap.size, 0, none⟩ = some (.string q.name) by rw [hW5]; exact alloc_cell rfl) (by omega)
      have x1 := later_cell (show W5.cell? ⟨wr.heap.size, 1, none⟩ = some (.int .i64 q.lo) by rw [hW5]; exact alloc_cell rfl) (by omega)
      have x2 := later_cell (show W5.cell? ⟨wr.heap.size, 2, none⟩ = some (.int .i64 q.hi) by rw [hW5]; exact alloc_cell rfl) (by omega)
      have x3 := later_cell (show W5.cell? ⟨wr.heap.size, 3, none⟩ = some (.int .i64 q.rise) by rw [hW5]; exact alloc_cell rfl) (by omega)
      have x4 := later_cell (show W5.cell? ⟨wr.heap.size, 4, none⟩ = some (.int .i64 q.fall) by rw [hW5]; exact alloc_cell rfl) (by omega)
      have x5 := later_cell (show W5.cell? ⟨wr.heap.size, 5, none⟩ = some (.int .i64 q.bad) by rw [hW5]; exact alloc_cell rfl) (by omega)
      have x6 := later_cell (show W5.cell? ⟨wr.heap.size, 6, none⟩ = some (.slice GA q.gs.length q.gc) by rw [hW5]; exact alloc_cell rfl) (by omega)
      have Hx6 := Lib.hid x6
      go_upto_region 6 with fail
      rw [← hW5]
      clear q0 q1 q2 g0 g1 g2 g3 g4 g5 g6 hW5
      refine wp_region_later (by kernel_rfl) (by kernel_rfl) ?_
      repeat (any_goals (first | go_big_quiet_step ((go_at_call 65; exact later_call _ (refDec_any _ _ (by omega) (by omega)))) | quiet_step ((go_at_call 65; exact later_call _ (refDec_any _ _ (by omega) (by omega))))))
      refine wpQuiet_nil ?_
      rintro w' ⟨e, rfl⟩
      have hse : W5.heap.size ≤ e.w.heap.size := e.b.size
      clear x0 x1 x2 x3 x4 x5 x6
      have HbE := Lib.hid (HbA5.out.trans (e.b.mono (show W0.heap.size ≤ W5.heap.size by omega)))
      have HSq := Lib.hid (cat_line HS.out (qPs_line q))
      go_wp2
      have Hx := Lib.hid (show ∀ (X : World), Below e.w.heap.size e.w X → X.cell? ⟨wr.heap.size, 6, none⟩ = some (.slice GA q.gs.length q.gc) from fun X hX => (hX.cell (p := ⟨wr.heap.size, 6, none⟩) (show wr.heap.size < e.w.heap.size by omega)).trans (Hx6.out e))
      have hse0 : W0.heap.size ≤ e.w.heap.size := by omega
      obtain ⟨W6, hW6⟩ : ∃ W6, W6 = e.w := ⟨_, rfl⟩
      rw [← hW6] at HbE Hx hse hse0 ⊢
      obtain ⟨bx, hbx⟩ : ∃ bx, bx = wr.heap.size := ⟨_, rfl⟩
      have hbxe : bx < W6.heap.size := by omega
      rw [← hbx] at Hx ⊢
      clear hW6 hbx hsz hw0 hs5 hbw1 hSs HS hnm r1 r2 r3 r4 r5 i1 i2 i3 i4 i5 HPs Hx6 Hbl5 HbA5 Hb
      go_loopw [3, 6] (fun v3 v wx => ∃ (j : Nat) (S2 : ByteArray), j ≤ q.gs.length ∧ v = .int .i64 j ∧ v3 = .string S2 ∧ Hid (S2 = ⟨(qsTxt (p.qs.take k) ++ lineT (qWs q) ++ ((q.gs.take j).map fun g => lineT (gWs g)).flatten).toArray⟩) ∧ Hid (Below W6.heap.size W6 wx)) (fun _ v _ => q.gs.length - (intOf v).toNat)
      case atStart => exact ⟨0, _, by omega, rfl, rfl, Lib.hid (HSq.out.trans (by simp)), Lib.hid (Below.refl _ _)⟩
      case round =>
        obtain ⟨j, S, hj, rfl, rfl, HS, Hb⟩ := hrel
        have hsz := Hb.out.size
        have HbW := Lib.hid (HbE.out.trans (Hb.out.mono hse0))
        have z6 := Hx.out wr Hb.out
        have hzw : bx < wr.heap.size := by omega
        by_cases hltj : j < q.gs.length
        · skip
          obtain ⟨b2, o2, rfl, hb2, hc2⟩ := (HGq.out wr HbW.out) (by omega)
          have hbw2 : b2 < wr.heap.size := by omega
          have hSs : S.size ≤ 20000 := size_mk HS.out (by have := HGs.out j; have := HQl.out; have := HQa.out; rw [List.length_append, List.length_append]; omega)
          have HGa := Lib.hid (HAll.out.2.2.2 q.gs[j] (List.getElem_mem hltj))
          have HSj := Lib.hid (flat_take_succ (fun g => lineT (gWs g)) hltj)
          obtain ⟨g, hg⟩ : ∃ g, g = q.gs[j] := ⟨_, rfl⟩
          have g0 : wr.cell? ⟨b2, o2 + j * 4, none⟩ = some (.string g.name) := by rw [hg]; exact hc2 j hltj 0 _ rfl
          have g1 : wr.cell? ⟨b2, o2 + j * 4 + 1, none⟩ = some (.int .i64 g.acc) := by rw [hg]; exact hc2 j hltj 1 _ rfl
          have g2 : wr.cell? ⟨b2, o2 + j * 4 + 2, none⟩ = some (.int .i64 g.drift) := by rw [hg]; exact hc2 j hltj 2 _ rfl
          have g3 : wr.cell? ⟨b2, o2 + j * 4 + 3, none⟩ = some (.int .i64 g.since) := by rw [hg]; exact hc2 j hltj 3 _ rfl
          simp only [← hg] at HGa HSj
          clear hg hc2
          have hnm := HGa.out.1
          obtain ⟨r1, r2, r3⟩ := HGa.out.2
          have i1 := itB_size g.acc r1.1 r1.2
          have i2 := itB_size g.drift r2.1 r2.2
          have i3 := itB_size g.since r3.1 r3.2
          have HPs := Lib.hid (show ∀ x ∈ gPs g, x.size ≤ 16 by
            simp only [gPs, List.forall_mem_cons, List.not_mem_nil, false_imp_iff, implies_true, and_true]
            exact ⟨by decide, hnm, by decide, i1, by decide, i2, by decide, i3, by decide⟩)
          obtain ⟨W7, hW7⟩ : ∃ W7, W7 = wr.alloc (.cells #[.string g.name, .int .i64 g.acc, .int .i64 g.drift, .int .i64 g.since] 28) := ⟨_, rfl⟩
          have Hbl7 := Lib.hid (show Below wr.heap.size wr W7 by rw [hW7]; exact (Below.refl _ _).alloc (Nat.le_refl _) _)
          have HbA7 := Lib.hid (Hb.out.trans (Hbl7.out.mono hsz))
          have hs7 : wr.heap.size < W7.heap.size := by rw [hW7]; simp
          have x0 := later_cell (show W7.cell? ⟨wr.heap.size, 0, none⟩ = some (.string g.name) by rw [hW7]; exact alloc_cell rfl) (by omega)
          have x1 := later_cell (show W7.cell? ⟨wr.heap.size, 1, none⟩ = some (.int .i64 g.acc) by rw [hW7]; exact alloc_cell rfl) (by omega)
          have x2 := later_cell (show W7.cell? ⟨wr.heap.size, 2, none⟩ = some (.int .i64 g.drift) by rw [hW7]; exact alloc_cell rfl) (by omega)
          have x3 := later_cell (show W7.cell? ⟨wr.heap.size, 3, none⟩ = some (.int .i64 g.since) by rw [hW7]; exact alloc_cell rfl) (by omega)
          go_upto_region 11 with fail
          rw [← hW7]
          clear z6 g0 g1 g2 g3 hW7
          refine wp_region_later (by kernel_rfl) (by kernel_rfl) ?_
          repeat (any_goals (first | go_big_quiet_step ((go_at_call 65; exact later_call _ (refDec_any _ _ (by omega) (by omega)))) | quiet_step ((go_at_call 65; exact later_call _ (refDec_any _ _ (by omega) (by omega))))))
          refine wpQuiet_nil ?_
          rintro w' ⟨e, rfl⟩
          have hse : W7.heap.size ≤ e.w.heap.size := e.b.size
          clear x0 x1 x2 x3
          have HSg := Lib.hid (cat_line HS.out (gPs_line g))
          go_wp2
          go_roundw
          case rel =>
            first
              | exact ⟨j + 1, _, by omega, by go_num, rfl, Lib.hid (HSg.out.trans (by rw [HSj.out, ← List.append_assoc])), Lib.hid (HbA7.out.trans (e.b.mono (by omega)))⟩
              | (repeat refine Exists.intro _ ?_
                 refine And.intro ?_ rfl
                 exact ⟨j + 1, _, by omega, by go_num, rfl, Lib.hid (HSg.out.trans (by rw [HSj.out, ← List.append_assoc])), Lib.hid (HbA7.out.trans (e.b.mono (by omega)))⟩)
          case measure => simp [intOf]; omega
        · obtain rfl : j = q.gs.length := by omega
          have HE := Lib.hid (show ((q.gs.take q.gs.length).map fun g => lineT (gWs g)).flatten = (q.gs.map fun g => lineT (gWs g)).flatten by rw [List.take_length])
          go_wp2
          go_roundw
          case rel =>
            first
              | exact ⟨k + 1, S, by omega, by go_num, rfl, Lib.hid (HS.out.trans (by rw [HSu.out, ← List.append_assoc, ← HE.out])), HbW⟩
              | (repeat refine Exists.intro _ ?_
                 refine And.intro ?_ rfl
                 exact ⟨k + 1, S, by omega, by go_num, rfl, Lib.hid (HS.out.trans (by rw [HSu.out, ← List.append_assoc, ← HE.out])), HbW⟩)
          case measure => simp [intOf]; omega
    · obtain rfl : k = p.qs.length := by omega
      have HE := Lib.hid (show qsTxt (p.qs.take p.qs.length) = qsTxt p.qs by rw [List.take_length])
      have HS1 := Lib.hid (HS.out.trans (by rw [HE.out]))
      have Hb1 := Hb
      go_wp2
      clear q0 q1 q2 HE
      go_loopw [3, 8] (fun v3 v wr => ∃ (k : Nat) (S : ByteArray), k ≤ p.ms.length ∧ v = .int .i64 k ∧ v3 = .string S ∧ Hid (S = ⟨(qsTxt p.qs ++ msTxt (p.ms.take k)).toArray⟩) ∧ Hid (Below W0.heap.size W0 wr)) (fun _ v _ => p.ms.length - (intOf v).toNat)
      case atStart => exact ⟨0, S, by omega, rfl, rfl, Lib.hid (HS1.out.trans (by simp [msTxt])), Hb1⟩
      case round =>
        clear hsz Hb Hb1 HS HS1 hw0
        obtain ⟨k, S, hk, rfl, rfl, HS, Hb⟩ := hrel
        have hsz := Hb.out.size
        obtain ⟨q0, q1, q2⟩ := HQ0.out wr Hb.out
        have hw0 : w.heap.size < wr.heap.size := by omega
        by_cases hlt : k < p.ms.length
        · skip
          obtain ⟨b1, o1, rfl, hb1, hc1⟩ := (HMs.out wr Hb.out) (by omega)
          have hbw1 : b1 < wr.heap.size := by omega
          have hSs : S.size ≤ 20000 := size_mk HS.out (by have := HG.out.qs_all; have := HG.out.ms_le k; rw [List.length_append]; omega)
          have HAll := Lib.hid (HG.out.m p.ms[k] (List.getElem_mem hlt))
          have HSu := Lib.hid (show msTxt (p.ms.take (k + 1)) = msTxt (p.ms.take k) ++ lineT (mWs p.ms[k]) from flat_take_succ (fun m => lineT (mWs m)) hlt)
          obtain ⟨m, hm⟩ : ∃ m, m = p.ms[k] := ⟨_, rfl⟩
          have g0 : wr.cell? ⟨b1, o1 + k * 5, none⟩ = some (.string m.name) := by rw [hm]; exact hc1 k hlt 0 _ rfl
          have g1 : wr.cell? ⟨b1, o1 + k * 5 + 1, none⟩ = some (.string m.crew) := by rw [hm]; exact hc1 k hlt 1 _ rfl
          have g2 : wr.cell? ⟨b1, o1 + k * 5 + 2, none⟩ = some (.int .i64 m.rank) := by rw [hm]; exact hc1 k hlt 2 _ rfl
          have g3 : wr.cell? ⟨b1, o1 + k * 5 + 3, none⟩ = some (.int .i64 m.lag) := by rw [hm]; exact hc1 k hlt 3 _ rfl
          have g4 : wr.cell? ⟨b1, o1 + k * 5 + 4, none⟩ = some (.int .i64 m.takes) := by rw [hm]; exact hc1 k hlt 4 _ rfl
          simp only [← hm] at HAll HSu
          clear hm hc1
          obtain ⟨hnm, hnc, r1, r2, r3⟩ := HAll.out
          have i1 := itB_size m.rank r1.1 r1.2
          have i2 := itB_size m.lag r2.1 r2.2
          have i3 := itB_size m.takes r3.1 r3.2
          have HPs := Lib.hid (show ∀ x ∈ mPs m, x.size ≤ 16 by
            simp only [mPs, List.forall_mem_cons, List.not_mem_nil, false_imp_iff, implies_true, and_true]
            exact ⟨by decide, hnm, by decide, hnc, by decide, i1, by decide, i2, by decide, i3, by decide⟩)
          obtain ⟨W5, hW5⟩ : ∃ W5, W5 = wr.alloc (.cells #[.string m.name, .string m.crew, .int .i64 m.rank, .int .i64 m.lag, .int .i64 m.takes] 49) := ⟨_, rfl⟩
          have Hbl5 := Lib.hid (show Below wr.heap.size wr W5 by rw [hW5]; exact (Below.refl _ _).alloc (Nat.le_refl _) _)
          have HbA5 := Lib.hid (Hb.out.trans (Hbl5.out.mono hsz))
          have hs5 : wr.heap.size < W5.heap.size := by rw [hW5]; simp
          have x0 := later_cell (show W5.cell? ⟨wr.heap.size, 0, none⟩ = some (.string m.name) by rw [hW5]; exact alloc_cell rfl) (by omega)
          have x1 := later_cell (show W5.cell? ⟨wr.heap.size, 1, none⟩ = some (.string m.crew) by rw [hW5]; exact alloc_cell rfl) (by omega)
          have x2 := later_cell (show W5.cell? ⟨wr.heap.size, 2, none⟩ = some (.int .i64 m.rank) by rw [hW5]; exact alloc_cell rfl) (by omega)
          have x3 := later_cell (show W5.cell? ⟨wr.heap.size, 3, none⟩ = some (.int .i64 m.lag) by rw [hW5]; exact alloc_cell rfl) (by omega)
          have x4 := later_cell (show W5.cell? ⟨wr.heap.size, 4, none⟩ = some (.int .i64 m.takes) by rw [hW5]; exact alloc_cell rfl) (by omega)
          go_upto_region 16 with fail
          rw [← hW5]
          clear q0 q1 q2 g0 g1 g2 g3 g4 hW5
          refine wp_region_later (by kernel_rfl) (by kernel_rfl) ?_
          repeat (any_goals (first | go_big_quiet_step ((go_at_call 65; exact later_call _ (refDec_any _ _ (by omega) (by omega)))) | quiet_step ((go_at_call 65; exact later_call _ (refDec_any _ _ (by omega) (by omega))))))
          refine wpQuiet_nil ?_
          rintro w' ⟨e, rfl⟩
          have hse : W5.heap.size ≤ e.w.heap.size := e.b.size
          clear x0 x1 x2 x3 x4
          have HSg := Lib.hid (cat_line HS.out (mPs_line m))
          go_wp2
          go_roundw
          case rel =>
            first
              | exact ⟨k + 1, _, by omega, by go_num, rfl, Lib.hid (HSg.out.trans (by rw [HSu.out, ← List.append_assoc])), Lib.hid (HbA5.out.trans (e.b.mono (by omega)))⟩
              | (repeat refine Exists.intro _ ?_
                 refine And.intro ?_ rfl
                 exact ⟨k + 1, _, by omega, by go_num, rfl, Lib.hid (HSg.out.trans (by rw [HSu.out, ← List.append_assoc])), Lib.hid (HbA5.out.trans (e.b.mono (by omega)))⟩)
          case measure => simp [intOf]; omega
        · obtain rfl : k = p.ms.length := by omega
          have HE := Lib.hid (show msTxt (p.ms.take p.ms.length) = msTxt p.ms by rw [List.take_length])
          have HS1 := Lib.hid (HS.out.trans (by rw [HE.out]))
          have Hb1 := Hb
          go_wp2
          clear q0 q1 q2 HE
          go_loopw [3, 10] (fun v3 v wr => ∃ (k : Nat) (S : ByteArray), k ≤ p.al.length ∧ v = .int .i64 k ∧ v3 = .string S ∧ Hid (S = ⟨(qsTxt p.qs ++ msTxt p.ms ++ asTxt p (p.al.take k)).toArray⟩) ∧ Hid (Below W0.heap.size W0 wr)) (fun _ v _ => p.al.length - (intOf v).toNat)
          case atStart => exact ⟨0, S, by omega, rfl, rfl, Lib.hid (HS1.out.trans (by simp [asTxt])), Hb1⟩
          case round =>
            clear hsz Hb Hb1 HS HS1 hw0
            obtain ⟨k, S, hk, rfl, rfl, HS, Hb⟩ := hrel
            have hsz := Hb.out.size
            obtain ⟨q0, q1, q2⟩ := HQ0.out wr Hb.out
            have hw0 : w.heap.size < wr.heap.size := by omega
            by_cases hlt : k < p.al.length
            · skip
              obtain ⟨b1, o1, rfl, hb1, hc1⟩ := (HAs.out wr Hb.out) (by omega)
              have hbw1 : b1 < wr.heap.size := by omega
              have hSs : S.size ≤ 25000 := size_mk HS.out (by have := HG.out.qs_all; have := HG.out.ms_all; have := HG.out.as_le k; rw [List.length_append, List.length_append]; omega)
              have ho := HG.out.a p.al[k] (List.getElem_mem hlt)
              have HSu := Lib.hid (show asTxt p (p.al.take (k + 1)) = asTxt p (p.al.take k) ++ lineT (aWs p p.al[k]) from flat_take_succ (fun a => lineT (aWs p a)) hlt)
              obtain ⟨a, ha⟩ : ∃ a, a = p.al[k] := ⟨_, rfl⟩
              have c0 : wr.cell? ⟨b1, o1 + k * 4, none⟩ = some (.int .i64 a.q) := by rw [ha]; exact hc1 k hlt 0 _ rfl
              have c1 : wr.cell? ⟨b1, o1 + k * 4 + 1, none⟩ = some (.int .i64 a.level) := by rw [ha]; exact hc1 k hlt 1 _ rfl
              have c2 : wr.cell? ⟨b1, o1 + k * 4 + 2, none⟩ = some (.int .i64 a.limit) := by rw [ha]; exact hc1 k hlt 2 _ rfl
              have c3 : wr.cell? ⟨b1, o1 + k * 4 + 3, none⟩ = some (.int .i64 a.m) := by rw [ha]; exact hc1 k hlt 3 _ rfl
              rw [← ha] at ho HSu
              obtain ⟨qn, hqn⟩ : ∃ qn : Nat, a.q = (qn : Int) := ⟨a.q.toNat, by omega⟩
              obtain ⟨mn, hmn⟩ : ∃ mn : Nat, a.m = (mn : Int) := ⟨a.m.toNat, by omega⟩
              have hqn2 : qn < p.qs.length := by omega
              have hmn2 : mn < p.ms.length := by omega
              have hqI : (qn : Int) < (p.qs.length : Int) := by omega
              have hmI : (mn : Int) < (p.ms.length : Int) := by omega
              obtain ⟨bq, oq, rfl, hbqB, hqc⟩ := (HQs.out wr Hb.out) (by omega)
              obtain ⟨bm, om, rfl, hbmB, hmc⟩ := (HMs.out wr Hb.out) (by omega)
              obtain ⟨sq, hsq⟩ : ∃ s, s = (p.qs[qn]'hqn2).name := ⟨_, rfl⟩
              obtain ⟨sm, hsm⟩ : ∃ s, s = (p.ms[mn]'hmn2).name := ⟨_, rfl⟩
              have n0 : wr.cell? ⟨bq, oq + qn * 7, none⟩ = some (.string sq) := by rw [hsq]; exact hqc qn hqn2 0 _ rfl
              have n1 : wr.cell? ⟨bm, om + mn * 5, none⟩ = some (.string sm) := by rw [hsm]; exact hmc mn hmn2 0 _ rfl
              have HLn := Lib.hid (show ((aPs sq sm a).map (·.data.toList)).flatten = lineT (aWs p a) by rw [← aPs_line p a, hqn, hmn, Int.toNat_natCast, Int.toNat_natCast, getD_lt hqn2, getD_lt hmn2, hsq, hsm])
              have hsq2 : sq.size ≤ 16 := by rw [hsq]; exact (HG.out.q _ (List.getElem_mem hqn2)).2.1
              have hsm2 : sm.size ≤ 16 := by rw [hsm]; exact (HG.out.m _ (List.getElem_mem hmn2)).1
              rw [hqn] at c0
              rw [hmn] at c3
              obtain ⟨_, _, r1, r2⟩ := ho
              have i1 := itB_size a.level r1.1 r1.2
              have i2 := itB_size a.limit r2.1 r2.2
              have HPs := Lib.hid (show ∀ x ∈ aPs sq sm a, x.size ≤ 16 by
                simp only [aPs, List.forall_mem_cons, List.not_mem_nil, false_imp_iff, implies_true, and_true]
                exact ⟨by decide, hsq2, by decide, i1, by decide, i2, by decide, hsm2, by decide⟩)
              clear ha hc1 hqc hmc hsq hsm hqn hmn
              obtain ⟨W5, hW5⟩ : ∃ W5, W5 = wr.alloc (.cells #[.int .i64 (qn : Int), .int .i64 a.level, .int .i64 a.limit, .int .i64 (mn : Int)] 75) := ⟨_, rfl⟩
              have Hbl5 := Lib.hid (show Below wr.heap.size wr W5 by rw [hW5]; exact (Below.refl _ _).alloc (Nat.le_refl _) _)
              have HbA5 := Lib.hid (Hb.out.trans (Hbl5.out.mono hsz))
              have hs5 : wr.heap.size < W5.heap.size := by rw [hW5]; simp
              have x0 := later_cell (show W5.cell? ⟨wr.heap.size, 0, none⟩ = some (.int .i64 (qn : Int)) by rw [hW5]; exact alloc_cell rfl) (by omega)
              have x1 := later_cell (show W5.cell? ⟨wr.heap.size, 1, none⟩ = some (.int .i64 a.level) by rw [hW5]; exact alloc_cell rfl) (by omega)
              have x2 := later_cell (show W5.cell? ⟨wr.heap.size, 2, none⟩ = some (.int .i64 a.limit) by rw [hW5]; exact alloc_cell rfl) (by omega)
              have x3 := later_cell (show W5.cell? ⟨wr.heap.size, 3, none⟩ = some (.int .i64 (mn : Int)) by rw [hW5]; exact alloc_cell rfl) (by omega)
              go_upto_region 21 with fail
              rw [← hW5]
              clear q0 q1 q2 c0 c1 c2 c3
              obtain ⟨q0, q1, q2⟩ := HQ0.out W5 HbA5.out
              have y0 := later_cell q0 (by omega)
              have y1 := later_cell q1 (by omega)
              have y2 := later_cell q2 (by omega)
              have y3 := later_cell ((Hbl5.out.cell (p := ⟨bq, oq + qn * 7, none⟩) (show bq < wr.heap.size by omega)).trans n0) (show bq < W5.heap.size by omega)
              have y4 := later_cell ((Hbl5.out.cell (p := ⟨bm, om + mn * 5, none⟩) (show bm < wr.heap.size by omega)).trans n1) (show bm < W5.heap.size by omega)
              clear q0 q1 q2 n0 n1 hW5
              refine wp_region_later (by kernel_rfl) (by kernel_rfl) ?_
              repeat (any_goals (first | go_big_quiet_step ((go_at_call 65; exact later_call _ (refDec_any _ _ (by omega) (by omega)))) | quiet_step ((go_at_call 65; exact later_call _ (refDec_any _ _ (by omega) (by omega))))))
              refine wpQuiet_nil ?_
              rintro w' ⟨e, rfl⟩
              have hse : W5.heap.size ≤ e.w.heap.size := e.b.size
              clear x0 x1 x2 x3 y0 y1 y2 y3 y4
              have HSg := Lib.hid (cat_line HS.out HLn.out)
              go_wp2
              go_roundw
              case rel =>
                first
                  | exact ⟨k + 1, _, by omega, by go_num, rfl, Lib.hid (HSg.out.trans (by rw [HSu.out, ← List.append_assoc])), Lib.hid (HbA5.out.trans (e.b.mono (by omega)))⟩
                  | (repeat refine Exists.intro _ ?_
                     refine And.intro ?_ rfl
                     exact ⟨k + 1, _, by omega, by go_num, rfl, Lib.hid (HSg.out.trans (by rw [HSu.out, ← List.append_assoc])), Lib.hid (HbA5.out.trans (e.b.mono (by omega)))⟩)
              case measure => simp [intOf]; omega
            · obtain rfl : k = p.al.length := by omega
              have HE := Lib.hid (show qsTxt p.qs ++ msTxt p.ms ++ asTxt p (p.al.take p.al.length) = txt p by rw [List.take_length]; rfl)
              go_wp2
              go_ret
              exact ⟨by rw [← HE.out, ← HS.out]; rfl, HU.out wr Hb.out⟩
end Go.Proofs.YtcgnpndfhhcplaaGreatDoor
