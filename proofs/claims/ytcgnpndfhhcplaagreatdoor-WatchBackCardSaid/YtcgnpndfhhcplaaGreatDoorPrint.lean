/-
  Package watch's Print gives the plan's text, or its error. Conditions: how the plan lies in memory; the table of powers of ten reads as its initialiser lays it.
-/
import Derived.Test.YtcgnpndfhhcplaaGreatDoorLine
import Derived.Test.YtcgnpndfhhcplaaGreatDoorPlanC
import Derived.Test.YtcgnpndfhhcplaaGreatDoorRange
import Derived.Test.YtcgnpndfhhcplaaGreatDoorRegion
import Derived.Deep.CutRange
import Derived.Laws.EntriesVeiled
namespace Go.Proofs.YtcgnpndfhhcplaaGreatDoor
open Go.RowKit W7
attribute [local go_sem] Oper.semAt_some
/-- the text that Print gives: none where the plan has an error -/
def txtS (p : Plan) : ByteArray := if planErr p = 0 then ⟨(txt p).toArray⟩ else ⟨#[]⟩
theorem Tab.up {B B' : Nat} {w w' : World} (h : Tab B w) (hb : Below B w w') (hB : B ≤ B') : Tab B' w' := fun X hX => (Lib.TabBelow.on h hb) X (hX.mono hB)
theorem own_belowX {A : Prop} {w w' : World} {base e size n : Nat} {v : Value} {xs : List Value} (h : A ∧ w.ownsRow base e size v n xs) (hb : Below w.heap.size w w') : A ∧ w'.ownsRow base e size v n xs := ⟨h.1, own_below h.2 hb⟩
theorem neQU : 47 ≠ 5 := by decide
theorem neQS : 47 ≠ 9 := by decide
set_option maxHeartbeats 4000000 in
set_option maxRecDepth 100000 in
theorem Print_any (p : Plan) (B : Nat) (w : World) (hp : PIn w B p) (hB : B ≤ w.heap.size) (hT : Tab w.heap.size w) :
    Calls Tryz.prog 8 #[.agg #[.slice p.qA p.qs.length p.qc, .slice p.mA p.ms.length p.mc, .slice p.aA p.al.length p.ac]] w fun e w' => e = .returned (.tuple #[.string (txtS p), .int .i64 (planErr p)]) ∧ Below w.heap.size w w' := by
  obtain ⟨QQ, hQQ⟩ : ∃ QQ, p.qA = QQ := ⟨_, rfl⟩
  obtain ⟨MM, hMM⟩ : ∃ MM, p.mA = MM := ⟨_, rfl⟩
  obtain ⟨AA, hAA⟩ : ∃ AA, p.aA = AA := ⟨_, rfl⟩
  rw [hQQ, hMM, hAA]
  obtain ⟨W0, hW0⟩ : ∃ W0, W0 = w.alloc (.cells #[.slice QQ p.qs.length p.qc, .slice MM p.ms.length p.mc, .slice AA p.al.length p.ac] 26) := ⟨_, rfl⟩
  have HB0 := Lib.hid (show Below w.heap.size w W0 by rw [hW0]; exact (Below.refl _ _).alloc (Nat.le_refl _) _)
  have hs0 : w.heap.size < W0.heap.size := by rw [hW0]; simp
  have HQ0 := Lib.hid (show ∀ (X : World), Below W0.heap.size W0 X → X.cell? ⟨w.heap.size, 0, none⟩ = some (.slice QQ p.qs.length p.qc) ∧ X.cell? ⟨w.heap.size, 1, none⟩ = some (.slice MM p.ms.length p.mc) ∧ X.cell? ⟨w.heap.size, 2, none⟩ = some (.slice AA p.al.length p.ac) from fun X hX =>
    ⟨(hX.cell (p := ⟨w.heap.size, 0, none⟩) hs0).trans (by rw [hW0]; exact alloc_cell rfl), (hX.cell (p := ⟨w.heap.size, 1, none⟩) hs0).trans (by rw [hW0]; exact alloc_cell rfl), (hX.cell (p := ⟨w.heap.size, 2, none⟩) hs0).trans (by rw [hW0]; exact alloc_cell rfl)⟩)
  have HP := Lib.hid (fun (X : World) (hX : Below W0.heap.size W0 X) => (hp.mono hB).below (HB0.out.trans (hX.mono (Nat.le_of_lt hs0))))
  have HU := Lib.hid (fun (X : World) (hX : Below W0.heap.size W0 X) => show Below w.heap.size w X from HB0.out.trans (hX.mono (Nat.le_of_lt hs0)))
  have HQs := Lib.hid (fun (X : World) (hX : Below W0.heap.size W0 X) => show Sl X w.heap.size 7 encQ QQ p.qs by rw [← hQQ]; exact (HP.out X hX).qsl)
  have HMs := Lib.hid (fun (X : World) (hX : Below W0.heap.size W0 X) => show Sl X w.heap.size 5 encM MM p.ms by rw [← hMM]; exact (HP.out X hX).msl)
  have HAs := Lib.hid (fun (X : World) (hX : Below W0.heap.size W0 X) => show Sl X w.heap.size 4 encA AA p.al by rw [← hAA]; exact (HP.out X hX).asl)
  have HTb := Lib.hid (fun (X : World) (hX : Below W0.heap.size W0 X) => hT.up (HU.out X hX) (show w.heap.size ≤ X.heap.size by have := hX.size; omega))
  have HC := Lib.hid (Check_any p w.heap.size W0 (HP.out W0 (Below.refl _ _)) (by omega))
  rw [hQQ, hMM, hAA] at HC
  have hql : p.qs.length ≤ 9223372036854775807 := by have := hp.qlc; have := hp.qc2; omega
  have hml : p.ms.length ≤ 9223372036854775807 := by have := hp.mlc; have := hp.mc2; omega
  have hal : p.al.length ≤ 9223372036854775807 := by have := hp.alc; have := hp.ac2; omega
  have Hgl := Lib.hid (fun q (hq : q ∈ p.qs) => (hp.qin q hq).len)
  obtain ⟨pe, hpe⟩ : ∃ pe, pe = planErr p := ⟨_, rfl⟩
  have HTx := Lib.hid (show txtS p = if pe = 0 then ⟨(txt p).toArray⟩ else ⟨#[]⟩ by rw [hpe]; rfl)
  have HF := Lib.hid (show pe = 0 → PlanFull p from fun h => planFull (by rw [← hpe]; exact h))
  rw [← hpe] at HC ⊢
  obtain ⟨q0, q1, q2⟩ := HQ0.out W0 (Below.refl _ _)
  have HW0 := Lib.hid hW0
  clear hW0 hp hpe hQQ hMM hAA hT
  go_enter Tryz.func8, Tryz.ntmps8
  go_wp2_with (go_at_call 10; fail)
  rw [← HW0.out]
  refine HC.out.mono ?_
  rintro e w1 ⟨rfl, hb1⟩
  have Hb1 := Lib.hid hb1
  have hs1 := hb1.size
  clear hb1 q0 q1 q2 HC
  obtain ⟨q0, q1, q2⟩ := HQ0.out w1 Hb1.out
  cases h1 : (pe != 0)
  rotate_left
  · have He2 := Lib.hid (show txtS p = ⟨#[]⟩ by rw [HTx.out, if_neg (by simpa using h1)])
    go_wp2
    refine bodyPost_ret (v := .tuple #[.string ⟨#[]⟩, .int .i64 pe]) (by simp [results, Tryz.results8, go_sem]) rfl ?_
    exact ⟨by rw [He2.out], HU.out w1 Hb1.out⟩
  have hp0 : pe = 0 := by simpa using h1
  have HTx2 := Lib.hid (show txtS p = ⟨(txt p).toArray⟩ by rw [HTx.out, if_pos hp0])
  have HG := Lib.hid (HF.out hp0)
  have Hp0 := Lib.hid hp0
  have HX := Lib.hid (fun (X : World) (hX : Below w1.heap.size w1 X) => show Below W0.heap.size W0 X from Hb1.out.trans (hX.mono hs1))
  have hw1 : w.heap.size < w1.heap.size := by omega
  clear hp0
  go_wp2
  clear h1 q0 q1 q2
  have HTb1 := Lib.hid (fun (X : World) (hX : Below w1.heap.size w1 X) => show Tab w1.heap.size X from Lib.TabBelow.on (HTb.out w1 Hb1.out) hX)
  go_loopw [24] (fun v wr => ∃ k : Nat, k ≤ p.qs.length ∧ v = .int .i64 k ∧ Hid (Lib.IsBuilderF 65 5 w1.heap.size w1.heap.size (Lib.byteCells (qsTxt (p.qs.take k))) wr) ∧ Hid (Below w1.heap.size w1 wr)) (fun v _ => p.qs.length - (intOf v).toNat)
  case atStart => exact ⟨0, by omega, rfl, Lib.hid (Lib.IsBuilderF.of (Lib.fresh_isBuilder 65 5 w1)), Lib.hid ((Below.refl _ _).alloc (Nat.le_refl _) _)⟩
  case round =>
    obtain ⟨k, hk, rfl, HBd, Hb⟩ := hrel
    have hsz := Hb.out.size
    have hbl := bld_lt HBd.out
    obtain ⟨q0, q1, q2⟩ := HQ0.out wr (HX.out wr Hb.out)
    by_cases hlt : k < p.qs.length
    · skip
      obtain ⟨b1, o1, rfl, hb1, hc1⟩ := (HQs.out wr (HX.out wr Hb.out)) (by omega)
      have hbw1 : b1 < wr.heap.size := by omega
      have HAcc := Lib.hid (show (qsTxt (p.qs.take k)).length ≤ 100000 by have := HG.out.qs_le k; omega)
      have HAll := Lib.hid (HG.out.q p.qs[k] (List.getElem_mem hlt))
      have HGs := Lib.hid (fun j => HG.out.gs_le k j hlt)
      have HQl := Lib.hid (HG.out.qLine p.qs[k] (List.getElem_mem hlt))
      have HQa := Lib.hid (HG.out.qs_le k)
      have HSu := Lib.hid (show qsTxt (p.qs.take (k + 1)) = qsTxt (p.qs.take k) ++ (lineT (qWs p.qs[k]) ++ (p.qs[k].gs.map fun g => lineT (gWs g)).flatten) from flat_take_succ qTxt hlt)
      have hgl := Hgl.out p.qs[k] (List.getElem_mem hlt)
      have HGq := Lib.hid (show ∀ (X : World), Below W0.heap.size W0 X → Sl X w.heap.size 4 encG p.qs[k].gA p.qs[k].gs from fun X hX => ((HP.out X hX).qin _ (List.getElem_mem hlt)).sl)
      obtain ⟨q, hq⟩ : ∃ q, q = p.qs[k] := ⟨_, rfl⟩
      have g0 : wr.cell? ⟨b1, o1 + k * 7, none⟩ = some (.string q.name) := by rw [hq]; exact hc1 k hlt 0 _ rfl
      have g1 : wr.cell? ⟨b1, o1 + k * 7 + 1, none⟩ = some (.int .i64 q.lo) := by rw [hq]; exact hc1 k hlt 1 _ rfl
      have g2 : wr.cell? ⟨b1, o1 + k * 7 + 2, none⟩ = some (.int .i64 q.hi) := by rw [hq]; exact hc1 k hlt 2 _ rfl
      have g3 : wr.cell? ⟨b1, o1 + k * 7 + 3, none⟩ = some (.int .i64 q.rise) := by rw [hq]; exact hc1 k hlt 3 _ rfl
      have g4 : wr.cell? ⟨b1, o1 + k * 7 + 4, none⟩ = some (.int .i64 q.fall) := by rw [hq]; exact hc1 k hlt 4 _ rfl
      have g5 : wr.cell? ⟨b1, o1 + k * 7 + 5, none⟩ = some (.int .i64 q.bad) := by rw [hq]; exact hc1 k hlt 5 _ rfl
      have g6 : wr.cell? ⟨b1, o1 + k * 7 + 6, none⟩ = some (.slice q.gA q.gs.length q.gc) := by rw [hq]; exact hc1 k hlt 6 _ rfl
      simp only [← hq] at HAll HGs HSu hgl HGq HQl
      clear hq hc1
      obtain ⟨GA, hGA⟩ : ∃ GA, q.gA = GA := ⟨_, rfl⟩
      rw [hGA] at g6 HGq
      have Hws := Lib.hid (show ∀ x ∈ [⟨#[113, 117, 97, 110, 116, 105, 116, 121]⟩, q.name], x.size ≤ 16 by
        simp only [List.forall_mem_cons, List.not_mem_nil, false_imp_iff, implies_true, and_true]
        exact ⟨by decide, HAll.out.2.1⟩)
      have Hns := Lib.hid (show ∀ x ∈ [q.lo, q.hi, q.rise, q.fall, q.bad], -1000000000 ≤ x ∧ x ≤ 1000000000 by
        simp only [List.forall_mem_cons, List.not_mem_nil, false_imp_iff, implies_true, and_true]
        exact ⟨HAll.out.2.2.1.1, HAll.out.2.2.1.2.1, HAll.out.2.2.1.2.2.1, HAll.out.2.2.1.2.2.2.1, HAll.out.2.2.1.2.2.2.2⟩)
      obtain ⟨W5, hW5⟩ : ∃ W5, W5 = ((wr.alloc (.cells #[.string q.name, .int .i64 q.lo, .int .i64 q.hi, .int .i64 q.rise, .int .i64 q.fall, .int .i64 q.bad, .slice GA q.gs.length q.gc] 47)).alloc (.cells #[.string ⟨#[113, 117, 97, 110, 116, 105, 116, 121]⟩, .string q.name] 9)).alloc (.cells #[.int .i64 q.lo, .int .i64 q.hi, .int .i64 q.rise, .int .i64 q.fall, .int .i64 q.bad] 3) := ⟨_, rfl⟩
      have hW5w := Lib.hid (show W5.ownsRow w1.heap.size 9 1 (.slice (some ⟨wr.heap.size + 1, 0, none⟩) 2 2) 2 ([⟨#[113, 117, 97, 110, 116, 105, 116, 121]⟩, q.name].map Value.string) by rw [hW5]; have h := owns_new (w := wr.alloc (.cells #[.string q.name, .int .i64 q.lo, .int .i64 q.hi, .int .i64 q.rise, .int .i64 q.fall, .int .i64 q.bad, .slice GA q.gs.length q.gc] 47)) (base := w1.heap.size) (e := 9) (cs := #[.string ⟨#[113, 117, 97, 110, 116, 105, 116, 121]⟩, .string q.name]) (n := 2) (by simp; omega) rfl (by decide); rw [World.size_alloc] at h; exact h.alloc _)
      have hW5i := Lib.hid (show W5.ownsRow w1.heap.size 3 1 (.slice (some ⟨wr.heap.size + 1 + 1, 0, none⟩) 5 5) 5 ([q.lo, q.hi, q.rise, q.fall, q.bad].map (Value.int .i64)) by rw [hW5]; have h := owns_new (w := (wr.alloc (.cells #[.string q.name, .int .i64 q.lo, .int .i64 q.hi, .int .i64 q.rise, .int .i64 q.fall, .int .i64 q.bad, .slice GA q.gs.length q.gc] 47)).alloc (.cells #[.string ⟨#[113, 117, 97, 110, 116, 105, 116, 121]⟩, .string q.name] 9)) (base := w1.heap.size) (e := 3) (cs := #[.int .i64 q.lo, .int .i64 q.hi, .int .i64 q.rise, .int .i64 q.fall, .int .i64 q.bad]) (n := 5) (by simp; omega) rfl (by decide); rw [World.size_alloc, World.size_alloc] at h; exact h)
      have Hbx := Lib.hid (show W5.heap[wr.heap.size]? = some (.cells #[.string q.name, .int .i64 q.lo, .int .i64 q.hi, .int .i64 q.rise, .int .i64 q.fall, .int .i64 q.bad, .slice GA q.gs.length q.gc] 47 (0, 0)) by rw [hW5]; exact heap3)
      have Hbl5 := Lib.hid (show Below wr.heap.size wr W5 by rw [hW5]; exact below3)
      have HbA5 := Lib.hid (Hb.out.trans (Hbl5.out.mono hsz))
      have hs5 := Hbl5.out.size
      have HLi := Lib.hid (line_any [⟨#[113, 117, 97, 110, 116, 105, 116, 121]⟩, q.name] [q.lo, q.hi, q.rise, q.fall, q.bad] _ _ 2 5 w1.heap.size w1.heap.size (qsTxt (p.qs.take k)) W5 rfl rfl (by decide) (by decide) (by decide) HAcc.out hW5w.out hW5i.out (bld_below HBd.out Hbl5.out) (by omega) (HTb1.out W5 HbA5.out) Hws.out Hns.out)
      go_wp2_with (go_at_call 23; fail)
      rw [← hW5]
      refine HLi.out.mono ?_
      rintro r w6 ⟨rfl, hi6, hb6, hk6⟩
      have HI6 := Lib.hid hi6
      have HB6 := Lib.hid (HbA5.out.trans hb6)
      have HK6 := Lib.hid hk6
      have hs6 := hb6.size
      clear hi6 hb6 hk6 HLi hW5
      have m5 : w6.cell? ⟨wr.heap.size, 6, none⟩ = some (.slice GA q.gs.length q.gc) := HK6.out.cell Hbx.out (by omega) neQU neQS rfl
      clear g0 g1 g2 g3 g4 g5 g6
      go_wp2
      clear m5
      go_loopw [49] (fun v wx => ∃ j : Nat, j ≤ q.gs.length ∧ v = .int .i64 j ∧ Hid (Lib.IsBuilderF 65 5 w1.heap.size w1.heap.size (Lib.byteCells (qsTxt (p.qs.take k) ++ lineT (qWs q) ++ ((q.gs.take j).map fun g => lineT (gWs g)).flatten)) wx) ∧ Hid (Below w1.heap.size w1 wx)) (fun v _ => q.gs.length - (intOf v).toNat)
      case atStart => exact ⟨0, by omega, rfl, Lib.hid (by simpa [qWs] using HI6.out), HB6⟩
      case round =>
        clear hsz q0 q1 q2 Hb hbl HBd HK6 HI6 HB6 Hbx Hbl5 HbA5 hs5 hs6 hW5w hW5i Hws Hns HAcc hbw1
        obtain ⟨j, hj, rfl, HBd, Hb⟩ := hrel
        have hsz := Hb.out.size
        have hbl := bld_lt HBd.out
        by_cases hltj : j < q.gs.length
        · skip
          obtain ⟨b2, o2, rfl, hb2, hc2⟩ := (HGq.out wr (HX.out wr Hb.out)) (by omega)
          have hbw2 : b2 < wr.heap.size := by omega
          have HAcc := Lib.hid (show (qsTxt (p.qs.take k) ++ lineT (qWs q) ++ ((q.gs.take j).map fun g => lineT (gWs g)).flatten).length ≤ 100000 by
            have := HGs.out j
            have := HQl.out
            have := HQa.out
            rw [List.length_append, List.length_append]
            omega)
          have HGa := Lib.hid (HAll.out.2.2.2 q.gs[j] (List.getElem_mem hltj))
          have HSj := Lib.hid (flat_take_succ (fun g => lineT (gWs g)) hltj)
          obtain ⟨g, hg⟩ : ∃ g, g = q.gs[j] := ⟨_, rfl⟩
          have g0 : wr.cell? ⟨b2, o2 + j * 4, none⟩ = some (.string g.name) := by rw [hg]; exact hc2 j hltj 0 _ rfl
          have g1 : wr.cell? ⟨b2, o2 + j * 4 + 1, none⟩ = some (.int .i64 g.acc) := by rw [hg]; exact hc2 j hltj 1 _ rfl
          have g2 : wr.cell? ⟨b2, o2 + j * 4 + 2, none⟩ = some (.int .i64 g.drift) := by rw [hg]; exact hc2 j hltj 2 _ rfl
          have g3 : wr.cell? ⟨b2, o2 + j * 4 + 3, none⟩ = some (.int .i64 g.since) := by rw [hg]; exact hc2 j hltj 3 _ rfl
          simp only [← hg] at HGa HSj
          clear hg hc2
          have Hws := Lib.hid (show ∀ x ∈ [⟨#[103, 97, 117, 103, 101]⟩, g.name], x.size ≤ 16 by
            simp only [List.forall_mem_cons, List.not_mem_nil, false_imp_iff, implies_true, and_true]
            exact ⟨by decide, HGa.out.1⟩)
          have Hns := Lib.hid (show ∀ x ∈ [g.acc, g.drift, g.since], -1000000000 ≤ x ∧ x ≤ 1000000000 by
            simp only [List.forall_mem_cons, List.not_mem_nil, false_imp_iff, implies_true, and_true]
            exact ⟨HGa.out.2.1, HGa.out.2.2.1, HGa.out.2.2.2⟩)
          obtain ⟨W5, hW5⟩ : ∃ W5, W5 = ((wr.alloc (.cells #[.string g.name, .int .i64 g.acc, .int .i64 g.drift, .int .i64 g.since] 28)).alloc (.cells #[.string ⟨#[103, 97, 117, 103, 101]⟩, .string g.name] 9)).alloc (.cells #[.int .i64 g.acc, .int .i64 g.drift, .int .i64 g.since] 3) := ⟨_, rfl⟩
          have hW5w := Lib.hid (show W5.ownsRow w1.heap.size 9 1 (.slice (some ⟨wr.heap.size + 1, 0, none⟩) 2 2) 2 ([⟨#[103, 97, 117, 103, 101]⟩, g.name].map Value.string) by rw [hW5]; have h := owns_new (w := wr.alloc (.cells #[.string g.name, .int .i64 g.acc, .int .i64 g.drift, .int .i64 g.since] 28)) (base := w1.heap.size) (e := 9) (cs := #[.string ⟨#[103, 97, 117, 103, 101]⟩, .string g.name]) (n := 2) (by simp; omega) rfl (by decide); rw [World.size_alloc] at h; exact h.alloc _)
          have hW5i := Lib.hid (show W5.ownsRow w1.heap.size 3 1 (.slice (some ⟨wr.heap.size + 1 + 1, 0, none⟩) 3 3) 3 ([g.acc, g.drift, g.since].map (Value.int .i64)) by rw [hW5]; have h := owns_new (w := (wr.alloc (.cells #[.string g.name, .int .i64 g.acc, .int .i64 g.drift, .int .i64 g.since] 28)).alloc (.cells #[.string ⟨#[103, 97, 117, 103, 101]⟩, .string g.name] 9)) (base := w1.heap.size) (e := 3) (cs := #[.int .i64 g.acc, .int .i64 g.drift, .int .i64 g.since]) (n := 3) (by simp; omega) rfl (by decide); rw [World.size_alloc, World.size_alloc] at h; exact h)
          have Hbx := Lib.hid (show W5.heap[wr.heap.size]? = some (.cells #[.string g.name, .int .i64 g.acc, .int .i64 g.drift, .int .i64 g.since] 28 (0, 0)) by rw [hW5]; exact heap3)
          have Hbl5 := Lib.hid (show Below wr.heap.size wr W5 by rw [hW5]; exact below3)
          have HbA5 := Lib.hid (Hb.out.trans (Hbl5.out.mono hsz))
          have hs5 := Hbl5.out.size
          have HLi := Lib.hid (line_any [⟨#[103, 97, 117, 103, 101]⟩, g.name] [g.acc, g.drift, g.since] _ _ 2 3 w1.heap.size w1.heap.size (qsTxt (p.qs.take k) ++ lineT (qWs q) ++ ((q.gs.take j).map fun g => lineT (gWs g)).flatten) W5 rfl rfl (by decide) (by decide) (by decide) HAcc.out hW5w.out hW5i.out (bld_below HBd.out Hbl5.out) (by omega) (HTb1.out W5 HbA5.out) Hws.out Hns.out)
          go_wp2_with (go_at_call 23; fail)
          rw [← hW5]
          refine HLi.out.mono ?_
          rintro r w6 ⟨rfl, hi6, hb6, hk6⟩
          have HI6 := Lib.hid hi6
          have HB6 := Lib.hid (HbA5.out.trans hb6)
          have HK6 := Lib.hid hk6
          have hs6 := hb6.size
          clear hi6 hb6 hk6 HLi hW5
          go_wp2
          go_roundw
          case rel => exact ⟨j + 1, by omega, by go_num, Lib.hid (by rw [HSj.out, ← List.append_assoc]; exact HI6.out), HB6⟩
          case measure => simp [intOf]; omega
        · obtain rfl : j = q.gs.length := by omega
          have HE := Lib.hid (show ((q.gs.take q.gs.length).map fun g => lineT (gWs g)).flatten = (q.gs.map fun g => lineT (gWs g)).flatten by rw [List.take_length])
          go_wp2
          go_roundw
          case rel => exact ⟨k + 1, by omega, by go_num, Lib.hid (by rw [HSu.out, ← List.append_assoc, ← HE.out]; exact HBd.out), Hb⟩
          case measure => simp [intOf]; omega
    · obtain rfl : k = p.qs.length := by omega
      have HE := Lib.hid (show qsTxt (p.qs.take p.qs.length) = qsTxt p.qs by rw [List.take_length])
      have HB1 := Lib.hid (show Lib.IsBuilderF 65 5 w1.heap.size w1.heap.size (Lib.byteCells (qsTxt p.qs)) wr by rw [← HE.out]; exact HBd.out)
      have Hb1' := Hb
      go_wp2
      clear q0 q1 q2 HBd hbl HE
      go_loopw [70] (fun v wr => ∃ k : Nat, k ≤ p.ms.length ∧ v = .int .i64 k ∧ Hid (Lib.IsBuilderF 65 5 w1.heap.size w1.heap.size (Lib.byteCells (qsTxt p.qs ++ msTxt (p.ms.take k))) wr) ∧ Hid (Below w1.heap.size w1 wr)) (fun v _ => p.ms.length - (intOf v).toNat)
      case atStart => exact ⟨0, by omega, rfl, Lib.hid (by simpa [msTxt] using HB1.out), Hb1'⟩
      case round =>
        clear hsz Hb HB1 Hb1'
        obtain ⟨k, hk, rfl, HBd, Hb⟩ := hrel
        have hsz := Hb.out.size
        have hbl := bld_lt HBd.out
        obtain ⟨q0, q1, q2⟩ := HQ0.out wr (HX.out wr Hb.out)
        by_cases hlt : k < p.ms.length
        · skip
          obtain ⟨b1, o1, rfl, hb1, hc1⟩ := (HMs.out wr (HX.out wr Hb.out)) (by omega)
          have hbw1 : b1 < wr.heap.size := by omega
          have HAcc := Lib.hid (show (qsTxt p.qs ++ msTxt (p.ms.take k)).length ≤ 100000 by have := HG.out.qs_all; have := HG.out.ms_le k; rw [List.length_append]; omega)
          have HAll := Lib.hid (HG.out.m p.ms[k] (List.getElem_mem hlt))
          have HSu := Lib.hid (show msTxt (p.ms.take (k + 1)) = msTxt (p.ms.take k) ++ lineT (mWs p.ms[k]) from flat_take_succ (fun m => lineT (mWs m)) hlt)
          obtain ⟨m, hm⟩ : ∃ m, m = p.ms[k] := ⟨_, rfl⟩
          have g0 : wr.cell? ⟨b1, o1 + k * 5, none⟩ = some (.string m.name) := by rw [hm]; exact hc1 k hlt 0 _ rfl
          have g1 : wr.cell? ⟨b1, o1 + k * 5 + 1, none⟩ = some (.string m.crew) := by rw [hm]; exact hc1 k hlt 1 _ rfl
          have g2 : wr.cell? ⟨b1, o1 + k * 5 + 2, none⟩ = some (.int .i64 m.rank) := by rw [hm]; exact hc1 k hlt 2 _ rfl
          have g3 : wr.cell? ⟨b1, o1 + k * 5 + 3, none⟩ = some (.int .i64 m.lag) := by rw [hm]; exact hc1 k hlt 3 _ rfl
          have g4 : wr.cell? ⟨b1, o1 + k * 5 + 4, none⟩ = some (.int .i64 m.takes) := by rw [hm]; exact hc1 k hlt 4 _ rfl
          simp only [← hm] at HAll HSu
          clear hm hc1
          have Hws := Lib.hid (show ∀ x ∈ [⟨#[109, 101, 97, 115, 117, 114, 101]⟩, m.name, m.crew], x.size ≤ 16 by
            simp only [List.forall_mem_cons, List.not_mem_nil, false_imp_iff, implies_true, and_true]
            exact ⟨by decide, HAll.out.1, HAll.out.2.1⟩)
          have Hns := Lib.hid (show ∀ x ∈ [m.rank, m.lag, m.takes], -1000000000 ≤ x ∧ x ≤ 1000000000 by
            simp only [List.forall_mem_cons, List.not_mem_nil, false_imp_iff, implies_true, and_true]
            exact ⟨HAll.out.2.2.1, HAll.out.2.2.2.1, HAll.out.2.2.2.2⟩)
          obtain ⟨W5, hW5⟩ : ∃ W5, W5 = ((wr.alloc (.cells #[.string m.name, .string m.crew, .int .i64 m.rank, .int .i64 m.lag, .int .i64 m.takes] 49)).alloc (.cells #[.string ⟨#[109, 101, 97, 115, 117, 114, 101]⟩, .string m.name, .string m.crew] 9)).alloc (.cells #[.int .i64 m.rank, .int .i64 m.lag, .int .i64 m.takes] 3) := ⟨_, rfl⟩
          have hW5w := Lib.hid (show W5.ownsRow w1.heap.size 9 1 (.slice (some ⟨wr.heap.size + 1, 0, none⟩) 3 3) 3 ([⟨#[109, 101, 97, 115, 117, 114, 101]⟩, m.name, m.crew].map Value.string) by rw [hW5]; have h := owns_new (w := wr.alloc (.cells #[.string m.name, .string m.crew, .int .i64 m.rank, .int .i64 m.lag, .int .i64 m.takes] 49)) (base := w1.heap.size) (e := 9) (cs := #[.string ⟨#[109, 101, 97, 115, 117, 114, 101]⟩, .string m.name, .string m.crew]) (n := 3) (by simp; omega) rfl (by decide); rw [World.size_alloc] at h; exact h.alloc _)
          have hW5i := Lib.hid (show W5.ownsRow w1.heap.size 3 1 (.slice (some ⟨wr.heap.size + 1 + 1, 0, none⟩) 3 3) 3 ([m.rank, m.lag, m.takes].map (Value.int .i64)) by rw [hW5]; have h := owns_new (w := (wr.alloc (.cells #[.string m.name, .string m.crew, .int .i64 m.rank, .int .i64 m.lag, .int .i64 m.takes] 49)).alloc (.cells #[.string ⟨#[109, 101, 97, 115, 117, 114, 101]⟩, .string m.name, .string m.crew] 9)) (base := w1.heap.size) (e := 3) (cs := #[.int .i64 m.rank, .int .i64 m.lag, .int .i64 m.takes]) (n := 3) (by simp; omega) rfl (by decide); rw [World.size_alloc, World.size_alloc] at h; exact h)
          have Hbx := Lib.hid (show W5.heap[wr.heap.size]? = some (.cells #[.string m.name, .string m.crew, .int .i64 m.rank, .int .i64 m.lag, .int .i64 m.takes] 49 (0, 0)) by rw [hW5]; exact heap3)
          have Hbl5 := Lib.hid (show Below wr.heap.size wr W5 by rw [hW5]; exact below3)
          have HbA5 := Lib.hid (Hb.out.trans (Hbl5.out.mono hsz))
          have hs5 := Hbl5.out.size
          have HLi := Lib.hid (line_any [⟨#[109, 101, 97, 115, 117, 114, 101]⟩, m.name, m.crew] [m.rank, m.lag, m.takes] _ _ 3 3 w1.heap.size w1.heap.size (qsTxt p.qs ++ msTxt (p.ms.take k)) W5 rfl rfl (by decide) (by decide) (by decide) HAcc.out hW5w.out hW5i.out (bld_below HBd.out Hbl5.out) (by omega) (HTb1.out W5 HbA5.out) Hws.out Hns.out)
          go_wp2_with (go_at_call 23; fail)
          rw [← hW5]
          refine HLi.out.mono ?_
          rintro r w6 ⟨rfl, hi6, hb6, hk6⟩
          have HI6 := Lib.hid hi6
          have HB6 := Lib.hid (HbA5.out.trans hb6)
          have HK6 := Lib.hid hk6
          have hs6 := hb6.size
          clear hi6 hb6 hk6 HLi hW5
          go_wp2
          go_roundw
          case rel => exact ⟨k + 1, by omega, by go_num, Lib.hid (by rw [HSu.out, ← List.append_assoc]; exact HI6.out), HB6⟩
          case measure => simp [intOf]; omega
        · obtain rfl : k = p.ms.length := by omega
          have HE := Lib.hid (show msTxt (p.ms.take p.ms.length) = msTxt p.ms by rw [List.take_length])
          have HB1 := Lib.hid (show Lib.IsBuilderF 65 5 w1.heap.size w1.heap.size (Lib.byteCells (qsTxt p.qs ++ msTxt p.ms)) wr by rw [← HE.out]; exact HBd.out)
          have Hb1' := Hb
          go_wp2
          clear q0 q1 q2 HBd hbl HE
          go_loopw [92] (fun v wr => ∃ k : Nat, k ≤ p.al.length ∧ v = .int .i64 k ∧ Hid (Lib.IsBuilderF 65 5 w1.heap.size w1.heap.size (Lib.byteCells (qsTxt p.qs ++ msTxt p.ms ++ asTxt p (p.al.take k))) wr) ∧ Hid (Below w1.heap.size w1 wr)) (fun v _ => p.al.length - (intOf v).toNat)
          case atStart => exact ⟨0, by omega, rfl, Lib.hid (by simpa [asTxt] using HB1.out), Hb1'⟩
          case round =>
            clear hsz Hb HB1 Hb1'
            obtain ⟨k, hk, rfl, HBd, Hb⟩ := hrel
            have hsz := Hb.out.size
            have hbl := bld_lt HBd.out
            obtain ⟨q0, q1, q2⟩ := HQ0.out wr (HX.out wr Hb.out)
            by_cases hlt : k < p.al.length
            · skip
              obtain ⟨b1, o1, rfl, hb1, hc1⟩ := (HAs.out wr (HX.out wr Hb.out)) (by omega)
              have hbw1 : b1 < wr.heap.size := by omega
              have HAcc := Lib.hid (show (qsTxt p.qs ++ msTxt p.ms ++ asTxt p (p.al.take k)).length ≤ 100000 by have := HG.out.qs_all; have := HG.out.ms_all; have := HG.out.as_le k; rw [List.length_append, List.length_append]; omega)
              have ho := HG.out.a p.al[k] (List.getElem_mem hlt)
              have HSu := Lib.hid (show asTxt p (p.al.take (k + 1)) = asTxt p (p.al.take k) ++ lineT (aWs p p.al[k]) from flat_take_succ (fun a => lineT (aWs p a)) hlt)
              obtain ⟨a, ha⟩ : ∃ a, a = p.al[k] := ⟨_, rfl⟩
              have c0 : wr.cell? ⟨b1, o1 + k * 4, none⟩ = some (.int .i64 a.q) := by rw [ha]; exact hc1 k hlt 0 _ rfl
              have c1 : wr.cell? ⟨b1, o1 + k * 4 + 1, none⟩ = some (.int .i64 a.level) := by rw [ha]; exact hc1 k hlt 1 _ rfl
              have c2 : wr.cell? ⟨b1, o1 + k * 4 + 2, none⟩ = some (.int .i64 a.limit) := by rw [ha]; exact hc1 k hlt 2 _ rfl
              have c3 : wr.cell? ⟨b1, o1 + k * 4 + 3, none⟩ = some (.int .i64 a.m) := by rw [ha]; exact hc1 k hlt 3 _ rfl
              rw [← ha] at ho HSu
              obtain ⟨qn, hqn⟩ : ∃ qn : Nat, a.q = (qn : Int) := ⟨a.q.toNat, by omega⟩
              obtain ⟨mn, hmn⟩ : ∃ mn : Nat, a.m = (mn : Int) := ⟨a.m.toNat, by omega⟩
              have hqn2 : qn < p.qs.length := by omega
              have hmn2 : mn < p.ms.length := by omega
              have hqI : (qn : Int) < (p.qs.length : Int) := by omega
              have hmI : (mn : Int) < (p.ms.length : Int) := by omega
              obtain ⟨bq, oq, rfl, hbqB, hqc⟩ := (HQs.out wr (HX.out wr Hb.out)) (by omega)
              obtain ⟨bm, om, rfl, hbmB, hmc⟩ := (HMs.out wr (HX.out wr Hb.out)) (by omega)
              obtain ⟨sq, hsq⟩ : ∃ s, s = (p.qs[qn]'hqn2).name := ⟨_, rfl⟩
              obtain ⟨sm, hsm⟩ : ∃ s, s = (p.ms[mn]'hmn2).name := ⟨_, rfl⟩
              have n0 : wr.cell? ⟨bq, oq + qn * 7, none⟩ = some (.string sq) := by rw [hsq]; exact hqc qn hqn2 0 _ rfl
              have n1 : wr.cell? ⟨bm, om + mn * 5, none⟩ = some (.string sm) := by rw [hsm]; exact hmc mn hmn2 0 _ rfl
              have HW := Lib.hid (show aWs p a = [⟨#[97, 108, 97, 114, 109]⟩, sq, itB a.level, itB a.limit, sm] by unfold aWs; rw [hqn, hmn, Int.toNat_natCast, Int.toNat_natCast, getD_lt hqn2, getD_lt hmn2, hsq, hsm])
              have Hws := Lib.hid (show ∀ x ∈ [⟨#[97, 108, 97, 114, 109]⟩, sq, itB a.level, itB a.limit, sm], x.size ≤ 16 by
                simp only [List.forall_mem_cons, List.not_mem_nil, false_imp_iff, implies_true, and_true]
                exact ⟨by decide, by rw [hsq]; exact (HG.out.q _ (List.getElem_mem hqn2)).2.1, itB_size _ ho.2.2.1.1 ho.2.2.1.2, itB_size _ ho.2.2.2.1 ho.2.2.2.2, by rw [hsm]; exact (HG.out.m _ (List.getElem_mem hmn2)).1⟩)
              rw [hqn] at c0
              rw [hmn] at c3
              have hlv := ho.2.2.1
              have hli := ho.2.2.2
              clear ha hc1 hqc hmc hsq hsm hqn hmn ho
              obtain ⟨W5, hW5⟩ : ∃ W5, W5 = wr.alloc (.cells #[.int .i64 (qn : Int), .int .i64 a.level, .int .i64 a.limit, .int .i64 (mn : Int)] 75) := ⟨_, rfl⟩
              have Hbl5 := Lib.hid (show Below wr.heap.size wr W5 by rw [hW5]; exact (Below.refl _ _).alloc (Nat.le_refl _) _)
              have HbA5 := Lib.hid (Hb.out.trans (Hbl5.out.mono hsz))
              have hs5 : wr.heap.size < W5.heap.size := by rw [hW5]; simp
              have x0 := later_cell (show W5.cell? ⟨wr.heap.size, 0, none⟩ = some (.int .i64 (qn : Int)) by rw [hW5]; exact alloc_cell rfl) (by omega)
              have x1 := later_cell (show W5.cell? ⟨wr.heap.size, 1, none⟩ = some (.int .i64 a.level) by rw [hW5]; exact alloc_cell rfl) (by omega)
              have x2 := later_cell (show W5.cell? ⟨wr.heap.size, 2, none⟩ = some (.int .i64 a.limit) by rw [hW5]; exact alloc_cell rfl) (by omega)
              have x3 := later_cell (show W5.cell? ⟨wr.heap.size, 3, none⟩ = some (.int .i64 (mn : Int)) by rw [hW5]; exact alloc_cell rfl) (by omega)
              go_upto_region 24 with fail
              rw [← hW5]
              clear q0 q1 q2 c0 c1 c2 c3
              obtain ⟨q0, q1, q2⟩ := HQ0.out W5 (HX.out W5 HbA5.out)
              have y0 := later_cell q0 (by omega)
              have y1 := later_cell q1 (by omega)
              have y2 := later_cell q2 (by omega)
              have y3 := later_cell ((Hbl5.out.cell (p := ⟨bq, oq + qn * 7, none⟩) (show bq < wr.heap.size by omega)).trans n0) (show bq < W5.heap.size by omega)
              have y4 := later_cell ((Hbl5.out.cell (p := ⟨bm, om + mn * 5, none⟩) (show bm < wr.heap.size by omega)).trans n1) (show bm < W5.heap.size by omega)
              clear q0 q1 q2 n0 n1 hW5
              obtain ⟨R24, hR24⟩ : ∃ R : (Nat → Bool) → Act → World → Prop, R = fun L a' w' => ∃ (e : Later W5) (v96 v97 v98 v99 v100 v101 v102 v103 v104 v105 v106 v107 v108 v109 v110 v111 v112 v113 v114 v115 v116 v117 : Value), w' = e.w ∧ a' = { tmps := #[Value.agg #[Value.slice (some { block := bq, off := oq }) p.qs.length p.qc, Value.slice (some { block := bm, off := om }) p.ms.length p.mc, Value.slice (some { block := b1, off := o1 }) p.al.length p.ac], Value.pointer (some { block := w.heap.size, off := 0 }), Value.string { data := #[] }, Value.int IntKind.i64 0, Value.int IntKind.i64 pe, Value.pointer (some { block := w1.heap.size, off := 0 }), Value.func (Fn.func 23) #[] #[Value.pointer (some { block := w1.heap.size, off := 0 })], undef, u8, undef, u10, undef, u12, undef, Value.pointer (some { block := wr.heap.size, off := 0 }), Value.agg #[Value.slice (some { block := bq, off := oq }) p.qs.length p.qc, Value.slice (some { block := bm, off := om }) p.ms.length p.mc, Value.slice (some { block := b1, off := o1 }) p.al.length p.ac], Value.int IntKind.i64 pe, Value.int IntKind.i64 pe, Value.bool false, undef, Value.func (Fn.func 23) #[] #[Value.pointer (some { block := w1.heap.size, off := 0 })], Value.pointer (some { block := w.heap.size, off := 0 }), Value.slice (some { block := bq, off := oq }) p.qs.length p.qc, Value.int IntKind.i64 ↑p.qs.length, Value.int IntKind.i64 ↑p.qs.length, Value.bool false, u26, u27, u28, u29, u30, u31, u32, u33, u34, u35, u36, u37, u38, u39, u40, u41, u42, u43, u44, u45, u46, u47, u48, u49, u50, u51, u52, u53, u54, u55, u56, u57, u58, u59, u60, u61, u62, u63, u64, u65, u66, Value.pointer (some { block := w.heap.size, off := 1 }), Value.slice (some { block := bm, off := om }) p.ms.length p.mc, Value.int IntKind.i64 ↑p.ms.length, Value.int IntKind.i64 ↑p.ms.length, Value.bool false, u72, u73, u74, u75, u76, u77, u78, u79, u80, u81, u82, u83, u84, u85, u86, u87, u88, Value.pointer (some { block := w.heap.size, off := 2 }), Value.slice (some { block := b1, off := o1 }) p.al.length p.ac, Value.int IntKind.i64 ↑p.al.length, Value.int IntKind.i64 ↑k, Value.bool true, Value.pointer (some { block := b1, off := o1 + k * 4 }), Value.agg #[Value.int IntKind.i64 ↑qn, Value.int IntKind.i64 a.level, Value.int IntKind.i64 a.limit, Value.int IntKind.i64 ↑mn], v96, v97, v98, v99, v100, v101, v102, v103, v104, v105, v106, v107, v108, v109, v110, v111, v112, v113, v114, v115, v116, v117, u118, u119, undef, undef, undef], defers := [] } ∧ (L 0 = true → v96 = Value.func (Fn.func 23) #[] #[Value.pointer (some { block := w1.heap.size, off := 0 })]) ∧ (L 1 = true → v97 = .pointer (some ⟨w.heap.size, 0, none⟩)) ∧ (L 2 = true → v98 = Value.slice (some { block := bq, off := oq }) p.qs.length p.qc) ∧ (L 3 = true → v99 = .pointer (some ⟨wr.heap.size, 0, none⟩)) ∧ (L 4 = true → v100 = .int .i64 (qn : Int)) ∧ (L 5 = true → v101 = .pointer (some ⟨bq, oq + qn * 7, none⟩)) ∧ (L 6 = true → v102 = .pointer (some ⟨bq, oq + qn * 7, none⟩)) ∧ (L 7 = true → v103 = .string sq) ∧ (L 8 = true → v104 = .pointer (some ⟨wr.heap.size, 1, none⟩)) ∧ (L 9 = true → v105 = .int .i64 a.level) ∧ (L 10 = true → v106 = .string (itB a.level)) ∧ (L 11 = true → v107 = .pointer (some ⟨wr.heap.size, 2, none⟩)) ∧ (L 12 = true → v108 = .int .i64 a.limit) ∧ (L 13 = true → v109 = .string (itB a.limit)) ∧ (L 14 = true → v110 = .pointer (some ⟨w.heap.size, 1, none⟩)) ∧ (L 15 = true → v111 = Value.slice (some { block := bm, off := om }) p.ms.length p.mc) ∧ (L 16 = true → v112 = .pointer (some ⟨wr.heap.size, 3, none⟩)) ∧ (L 17 = true → v113 = .int .i64 (mn : Int)) ∧ (L 18 = true → v114 = .pointer (some ⟨bm, om + mn * 5, none⟩)) ∧ (L 19 = true → v115 = .pointer (some ⟨bm, om + mn * 5, none⟩)) ∧ (L 20 = true → v116 = .string sm) ∧ (L 21 = true → Hid ((∃ g, v117 = .slice (some ⟨g, 0, none⟩) 5 5) ∧ e.w.ownsRow w1.heap.size 9 1 v117 5 ([⟨#[97, 108, 97, 114, 109]⟩, sq, itB a.level, itB a.limit, sm].map Value.string))) := ⟨_, rfl⟩
              have HR24 := Lib.hid hR24
              clear hR24
              refine wp_region_inv 22 R24 (by kernel_rfl) (by kernel_rfl) (by kernel_rfl) (by kernel_rfl) (by decide) (by kernel_rfl) ?_ ?_ ?_
              · rw [HR24.out]
                exact ⟨⟨_, (Below.refl W5.heap.size W5).drew⟩, _, _, _, _, _, _, _, _, _, _, _, _, _, _, _, _, _, _, _, _, _, _, rfl, rfl, by simp, by simp, by simp, by simp, by simp, by simp, by simp, by simp, by simp, by simp, by simp, by simp, by simp, by simp, by simp, by simp, by simp, by simp, by simp, by simp, by simp, by simp⟩
              · rintro L a' w' i o hi ho hLi haf hInv
                rw [HR24.out] at hInv
                obtain ⟨e, v96, v97, v98, v99, v100, v101, v102, v103, v104, v105, v106, v107, v108, v109, v110, v111, v112, v113, v114, v115, v116, v117, rfl, rfl, h0, h1, h2, h3, h4, h5, h6, h7, h8, h9, h10, h11, h12, h13, h14, h15, h16, h17, h18, h19, h20, h21⟩ := hInv
                have hse : W5.heap.size ≤ e.w.heap.size := e.b.size
                rcases i with _ | _ | _ | _ | _ | _ | _ | _ | _ | _ | _ | _ | _ | _ | _ | _ | _ | _ | _ | _ | _ | _ | i
                case succ.succ.succ.succ.succ.succ.succ.succ.succ.succ.succ.succ.succ.succ.succ.succ.succ.succ.succ.succ.succ.succ => omega
                all_goals (simp only [List.getElem?_cons_zero, List.getElem?_cons_succ, Option.some.injEq] at ho; subst ho)
                · go_wp2
                  rw [HR24.out]
                  exact ⟨e, _, _, _, _, _, _, _, _, _, _, _, _, _, _, _, _, _, _, _, _, _, _, rfl, rfl, fun _ => rfl, fun z => h1 (by simpa using z), fun z => h2 (by simpa using z), fun z => h3 (by simpa using z), fun z => h4 (by simpa using z), fun z => h5 (by simpa using z), fun z => h6 (by simpa using z), fun z => h7 (by simpa using z), fun z => h8 (by simpa using z), fun z => h9 (by simpa using z), fun z => h10 (by simpa using z), fun z => h11 (by simpa using z), fun z => h12 (by simpa using z), fun z => h13 (by simpa using z), fun z => h14 (by simpa using z), fun z => h15 (by simpa using z), fun z => h16 (by simpa using z), fun z => h17 (by simpa using z), fun z => h18 (by simpa using z), fun z => h19 (by simpa using z), fun z => h20 (by simpa using z), fun z => h21 (by simpa using z)⟩
                · go_wp2
                  rw [HR24.out]
                  exact ⟨e, _, _, _, _, _, _, _, _, _, _, _, _, _, _, _, _, _, _, _, _, _, _, rfl, rfl, fun z => h0 (by simpa using z), fun _ => rfl, fun z => h2 (by simpa using z), fun z => h3 (by simpa using z), fun z => h4 (by simpa using z), fun z => h5 (by simpa using z), fun z => h6 (by simpa using z), fun z => h7 (by simpa using z), fun z => h8 (by simpa using z), fun z => h9 (by simpa using z), fun z => h10 (by simpa using z), fun z => h11 (by simpa using z), fun z => h12 (by simpa using z), fun z => h13 (by simpa using z), fun z => h14 (by simpa using z), fun z => h15 (by simpa using z), fun z => h16 (by simpa using z), fun z => h17 (by simpa using z), fun z => h18 (by simpa using z), fun z => h19 (by simpa using z), fun z => h20 (by simpa using z), fun z => h21 (by simpa using z)⟩
                · obtain rfl := h1 (haf ⟨1, .data⟩ (by simp) rfl)
                  go_wp2
                  rw [HR24.out]
                  exact ⟨e, _, _, _, _, _, _, _, _, _, _, _, _, _, _, _, _, _, _, _, _, _, _, rfl, rfl, fun z => h0 (by simpa using z), fun _ => rfl, fun _ => rfl, fun z => h3 (by simpa using z), fun z => h4 (by simpa using z), fun z => h5 (by simpa using z), fun z => h6 (by simpa using z), fun z => h7 (by simpa using z), fun z => h8 (by simpa using z), fun z => h9 (by simpa using z), fun z => h10 (by simpa using z), fun z => h11 (by simpa using z), fun z => h12 (by simpa using z), fun z => h13 (by simpa using z), fun z => h14 (by simpa using z), fun z => h15 (by simpa using z), fun z => h16 (by simpa using z), fun z => h17 (by simpa using z), fun z => h18 (by simpa using z), fun z => h19 (by simpa using z), fun z => h20 (by simpa using z), fun z => h21 (by simpa using z)⟩
                · go_wp2
                  rw [HR24.out]
                  exact ⟨e, _, _, _, _, _, _, _, _, _, _, _, _, _, _, _, _, _, _, _, _, _, _, rfl, rfl, fun z => h0 (by simpa using z), fun z => h1 (by simpa using z), fun z => h2 (by simpa using z), fun _ => rfl, fun z => h4 (by simpa using z), fun z => h5 (by simpa using z), fun z => h6 (by simpa using z), fun z => h7 (by simpa using z), fun z => h8 (by simpa using z), fun z => h9 (by simpa using z), fun z => h10 (by simpa using z), fun z => h11 (by simpa using z), fun z => h12 (by simpa using z), fun z => h13 (by simpa using z), fun z => h14 (by simpa using z), fun z => h15 (by simpa using z), fun z => h16 (by simpa using z), fun z => h17 (by simpa using z), fun z => h18 (by simpa using z), fun z => h19 (by simpa using z), fun z => h20 (by simpa using z), fun z => h21 (by simpa using z)⟩
                · obtain rfl := h3 (haf ⟨3, .data⟩ (by simp) rfl)
                  go_wp2
                  rw [HR24.out]
                  exact ⟨e, _, _, _, _, _, _, _, _, _, _, _, _, _, _, _, _, _, _, _, _, _, _, rfl, rfl, fun z => h0 (by simpa using z), fun z => h1 (by simpa using z), fun z => h2 (by simpa using z), fun _ => rfl, fun _ => rfl, fun z => h5 (by simpa using z), fun z => h6 (by simpa using z), fun z => h7 (by simpa using z), fun z => h8 (by simpa using z), fun z => h9 (by simpa using z), fun z => h10 (by simpa using z), fun z => h11 (by simpa using z), fun z => h12 (by simpa using z), fun z => h13 (by simpa using z), fun z => h14 (by simpa using z), fun z => h15 (by simpa using z), fun z => h16 (by simpa using z), fun z => h17 (by simpa using z), fun z => h18 (by simpa using z), fun z => h19 (by simpa using z), fun z => h20 (by simpa using z), fun z => h21 (by simpa using z)⟩
                · obtain rfl := h2 (haf ⟨2, .data⟩ (by simp) rfl)
                  obtain rfl := h4 (haf ⟨4, .data⟩ (by simp) rfl)
                  go_wp2
                  rw [HR24.out]
                  exact ⟨e, _, _, _, _, _, _, _, _, _, _, _, _, _, _, _, _, _, _, _, _, _, _, rfl, rfl, fun z => h0 (by simpa using z), fun z => h1 (by simpa using z), fun _ => rfl, fun z => h3 (by simpa using z), fun _ => rfl, fun _ => rfl, fun z => h6 (by simpa using z), fun z => h7 (by simpa using z), fun z => h8 (by simpa using z), fun z => h9 (by simpa using z), fun z => h10 (by simpa using z), fun z => h11 (by simpa using z), fun z => h12 (by simpa using z), fun z => h13 (by simpa using z), fun z => h14 (by simpa using z), fun z => h15 (by simpa using z), fun z => h16 (by simpa using z), fun z => h17 (by simpa using z), fun z => h18 (by simpa using z), fun z => h19 (by simpa using z), fun z => h20 (by simpa using z), fun z => h21 (by simpa using z)⟩
                · obtain rfl := h5 (haf ⟨5, .data⟩ (by simp) rfl)
                  go_wp2
                  rw [HR24.out]
                  exact ⟨e, _, _, _, _, _, _, _, _, _, _, _, _, _, _, _, _, _, _, _, _, _, _, rfl, rfl, fun z => h0 (by simpa using z), fun z => h1 (by simpa using z), fun z => h2 (by simpa using z), fun z => h3 (by simpa using z), fun z => h4 (by simpa using z), fun _ => rfl, fun _ => rfl, fun z => h7 (by simpa using z), fun z => h8 (by simpa using z), fun z => h9 (by simpa using z), fun z => h10 (by simpa using z), fun z => h11 (by simpa using z), fun z => h12 (by simpa using z), fun z => h13 (by simpa using z), fun z => h14 (by simpa using z), fun z => h15 (by simpa using z), fun z => h16 (by simpa using z), fun z => h17 (by simpa using z), fun z => h18 (by simpa using z), fun z => h19 (by simpa using z), fun z => h20 (by simpa using z), fun z => h21 (by simpa using z)⟩
                · obtain rfl := h6 (haf ⟨6, .data⟩ (by simp) rfl)
                  go_wp2
                  rw [HR24.out]
                  exact ⟨e, _, _, _, _, _, _, _, _, _, _, _, _, _, _, _, _, _, _, _, _, _, _, rfl, rfl, fun z => h0 (by simpa using z), fun z => h1 (by simpa using z), fun z => h2 (by simpa using z), fun z => h3 (by simpa using z), fun z => h4 (by simpa using z), fun z => h5 (by simpa using z), fun _ => rfl, fun _ => rfl, fun z => h8 (by simpa using z), fun z => h9 (by simpa using z), fun z => h10 (by simpa using z), fun z => h11 (by simpa using z), fun z => h12 (by simpa using z), fun z => h13 (by simpa using z), fun z => h14 (by simpa using z), fun z => h15 (by simpa using z), fun z => h16 (by simpa using z), fun z => h17 (by simpa using z), fun z => h18 (by simpa using z), fun z => h19 (by simpa using z), fun z => h20 (by simpa using z), fun z => h21 (by simpa using z)⟩
                · go_wp2
                  rw [HR24.out]
                  exact ⟨e, _, _, _, _, _, _, _, _, _, _, _, _, _, _, _, _, _, _, _, _, _, _, rfl, rfl, fun z => h0 (by simpa using z), fun z => h1 (by simpa using z), fun z => h2 (by simpa using z), fun z => h3 (by simpa using z), fun z => h4 (by simpa using z), fun z => h5 (by simpa using z), fun z => h6 (by simpa using z), fun z => h7 (by simpa using z), fun _ => rfl, fun z => h9 (by simpa using z), fun z => h10 (by simpa using z), fun z => h11 (by simpa using z), fun z => h12 (by simpa using z), fun z => h13 (by simpa using z), fun z => h14 (by simpa using z), fun z => h15 (by simpa using z), fun z => h16 (by simpa using z), fun z => h17 (by simpa using z), fun z => h18 (by simpa using z), fun z => h19 (by simpa using z), fun z => h20 (by simpa using z), fun z => h21 (by simpa using z)⟩
                · obtain rfl := h8 (haf ⟨8, .data⟩ (by simp) rfl)
                  go_wp2
                  rw [HR24.out]
                  exact ⟨e, _, _, _, _, _, _, _, _, _, _, _, _, _, _, _, _, _, _, _, _, _, _, rfl, rfl, fun z => h0 (by simpa using z), fun z => h1 (by simpa using z), fun z => h2 (by simpa using z), fun z => h3 (by simpa using z), fun z => h4 (by simpa using z), fun z => h5 (by simpa using z), fun z => h6 (by simpa using z), fun z => h7 (by simpa using z), fun _ => rfl, fun _ => rfl, fun z => h10 (by simpa using z), fun z => h11 (by simpa using z), fun z => h12 (by simpa using z), fun z => h13 (by simpa using z), fun z => h14 (by simpa using z), fun z => h15 (by simpa using z), fun z => h16 (by simpa using z), fun z => h17 (by simpa using z), fun z => h18 (by simpa using z), fun z => h19 (by simpa using z), fun z => h20 (by simpa using z), fun z => h21 (by simpa using z)⟩
                · obtain rfl := h9 (haf ⟨9, .data⟩ (by simp) rfl)
                  go_wp2_with (go_at_call 24; refine (itoa_lib a.level w1.heap.size _ hlv.1 hlv.2 (HTb1.out _ (HbA5.out.trans (e.b.mono (by omega))))).mono ?_; rintro r w4 ⟨rfl, hNew⟩)
                  rw [HR24.out]
                  exact ⟨⟨w4, e.b.trans (hNew.mono e.b.size)⟩, _, _, _, _, _, _, _, _, _, _, _, _, _, _, _, _, _, _, _, _, _, _, rfl, rfl, fun z => h0 (by simpa using z), fun z => h1 (by simpa using z), fun z => h2 (by simpa using z), fun z => h3 (by simpa using z), fun z => h4 (by simpa using z), fun z => h5 (by simpa using z), fun z => h6 (by simpa using z), fun z => h7 (by simpa using z), fun z => h8 (by simpa using z), fun _ => rfl, fun _ => rfl, fun z => h11 (by simpa using z), fun z => h12 (by simpa using z), fun z => h13 (by simpa using z), fun z => h14 (by simpa using z), fun z => h15 (by simpa using z), fun z => h16 (by simpa using z), fun z => h17 (by simpa using z), fun z => h18 (by simpa using z), fun z => h19 (by simpa using z), fun z => h20 (by simpa using z), fun z => Lib.hid (own_belowX (h21 (by simpa using z)).out hNew)⟩
                · go_wp2
                  rw [HR24.out]
                  exact ⟨e, _, _, _, _, _, _, _, _, _, _, _, _, _, _, _, _, _, _, _, _, _, _, rfl, rfl, fun z => h0 (by simpa using z), fun z => h1 (by simpa using z), fun z => h2 (by simpa using z), fun z => h3 (by simpa using z), fun z => h4 (by simpa using z), fun z => h5 (by simpa using z), fun z => h6 (by simpa using z), fun z => h7 (by simpa using z), fun z => h8 (by simpa using z), fun z => h9 (by simpa using z), fun z => h10 (by simpa using z), fun _ => rfl, fun z => h12 (by simpa using z), fun z => h13 (by simpa using z), fun z => h14 (by simpa using z), fun z => h15 (by simpa using z), fun z => h16 (by simpa using z), fun z => h17 (by simpa using z), fun z => h18 (by simpa using z), fun z => h19 (by simpa using z), fun z => h20 (by simpa using z), fun z => h21 (by simpa using z)⟩
                · obtain rfl := h11 (haf ⟨11, .data⟩ (by simp) rfl)
                  go_wp2
                  rw [HR24.out]
                  exact ⟨e, _, _, _, _, _, _, _, _, _, _, _, _, _, _, _, _, _, _, _, _, _, _, rfl, rfl, fun z => h0 (by simpa using z), fun z => h1 (by simpa using z), fun z => h2 (by simpa using z), fun z => h3 (by simpa using z), fun z => h4 (by simpa using z), fun z => h5 (by simpa using z), fun z => h6 (by simpa using z), fun z => h7 (by simpa using z), fun z => h8 (by simpa using z), fun z => h9 (by simpa using z), fun z => h10 (by simpa using z), fun _ => rfl, fun _ => rfl, fun z => h13 (by simpa using z), fun z => h14 (by simpa using z), fun z => h15 (by simpa using z), fun z => h16 (by simpa using z), fun z => h17 (by simpa using z), fun z => h18 (by simpa using z), fun z => h19 (by simpa using z), fun z => h20 (by simpa using z), fun z => h21 (by simpa using z)⟩
                · obtain rfl := h12 (haf ⟨12, .data⟩ (by simp) rfl)
                  go_wp2_with (go_at_call 24; refine (itoa_lib a.limit w1.heap.size _ hli.1 hli.2 (HTb1.out _ (HbA5.out.trans (e.b.mono (by omega))))).mono ?_; rintro r w4 ⟨rfl, hNew⟩)
                  rw [HR24.out]
                  exact ⟨⟨w4, e.b.trans (hNew.mono e.b.size)⟩, _, _, _, _, _, _, _, _, _, _, _, _, _, _, _, _, _, _, _, _, _, _, rfl, rfl, fun z => h0 (by simpa using z), fun z => h1 (by simpa using z), fun z => h2 (by simpa using z), fun z => h3 (by simpa using z), fun z => h4 (by simpa using z), fun z => h5 (by simpa using z), fun z => h6 (by simpa using z), fun z => h7 (by simpa using z), fun z => h8 (by simpa using z), fun z => h9 (by simpa using z), fun z => h10 (by simpa using z), fun z => h11 (by simpa using z), fun _ => rfl, fun _ => rfl, fun z => h14 (by simpa using z), fun z => h15 (by simpa using z), fun z => h16 (by simpa using z), fun z => h17 (by simpa using z), fun z => h18 (by simpa using z), fun z => h19 (by simpa using z), fun z => h20 (by simpa using z), fun z => Lib.hid (own_belowX (h21 (by simpa using z)).out hNew)⟩
                · go_wp2
                  rw [HR24.out]
                  exact ⟨e, _, _, _, _, _, _, _, _, _, _, _, _, _, _, _, _, _, _, _, _, _, _, rfl, rfl, fun z => h0 (by simpa using z), fun z => h1 (by simpa using z), fun z => h2 (by simpa using z), fun z => h3 (by simpa using z), fun z => h4 (by simpa using z), fun z => h5 (by simpa using z), fun z => h6 (by simpa using z), fun z => h7 (by simpa using z), fun z => h8 (by simpa using z), fun z => h9 (by simpa using z), fun z => h10 (by simpa using z), fun z => h11 (by simpa using z), fun z => h12 (by simpa using z), fun z => h13 (by simpa using z), fun _ => rfl, fun z => h15 (by simpa using z), fun z => h16 (by simpa using z), fun z => h17 (by simpa using z), fun z => h18 (by simpa using z), fun z => h19 (by simpa using z), fun z => h20 (by simpa using z), fun z => h21 (by simpa using z)⟩
                · obtain rfl := h14 (haf ⟨14, .data⟩ (by simp) rfl)
                  go_wp2
                  rw [HR24.out]
                  exact ⟨e, _, _, _, _, _, _, _, _, _, _, _, _, _, _, _, _, _, _, _, _, _, _, rfl, rfl, fun z => h0 (by simpa using z), fun z => h1 (by simpa using z), fun z => h2 (by simpa using z), fun z => h3 (by simpa using z), fun z => h4 (by simpa using z), fun z => h5 (by simpa using z), fun z => h6 (by simpa using z), fun z => h7 (by simpa using z), fun z => h8 (by simpa using z), fun z => h9 (by simpa using z), fun z => h10 (by simpa using z), fun z => h11 (by simpa using z), fun z => h12 (by simpa using z), fun z => h13 (by simpa using z), fun _ => rfl, fun _ => rfl, fun z => h16 (by simpa using z), fun z => h17 (by simpa using z), fun z => h18 (by simpa using z), fun z => h19 (by simpa using z), fun z => h20 (by simpa using z), fun z => h21 (by simpa using z)⟩
                · go_wp2
                  rw [HR24.out]
                  exact ⟨e, _, _, _, _, _, _, _, _, _, _, _, _, _, _, _, _, _, _, _, _, _, _, rfl, rfl, fun z => h0 (by simpa using z), fun z => h1 (by simpa using z), fun z => h2 (by simpa using z), fun z => h3 (by simpa using z), fun z => h4 (by simpa using z), fun z => h5 (by simpa using z), fun z => h6 (by simpa using z), fun z => h7 (by simpa using z), fun z => h8 (by simpa using z), fun z => h9 (by simpa using z), fun z => h10 (by simpa using z), fun z => h11 (by simpa using z), fun z => h12 (by simpa using z), fun z => h13 (by simpa using z), fun z => h14 (by simpa using z), fun z => h15 (by simpa using z), fun _ => rfl, fun z => h17 (by simpa using z), fun z => h18 (by simpa using z), fun z => h19 (by simpa using z), fun z => h20 (by simpa using z), fun z => h21 (by simpa using z)⟩
                · obtain rfl := h16 (haf ⟨16, .data⟩ (by simp) rfl)
                  go_wp2
                  rw [HR24.out]
                  exact ⟨e, _, _, _, _, _, _, _, _, _, _, _, _, _, _, _, _, _, _, _, _, _, _, rfl, rfl, fun z => h0 (by simpa using z), fun z => h1 (by simpa using z), fun z => h2 (by simpa using z), fun z => h3 (by simpa using z), fun z => h4 (by simpa using z), fun z => h5 (by simpa using z), fun z => h6 (by simpa using z), fun z => h7 (by simpa using z), fun z => h8 (by simpa using z), fun z => h9 (by simpa using z), fun z => h10 (by simpa using z), fun z => h11 (by simpa using z), fun z => h12 (by simpa using z), fun z => h13 (by simpa using z), fun z => h14 (by simpa using z), fun z => h15 (by simpa using z), fun _ => rfl, fun _ => rfl, fun z => h18 (by simpa using z), fun z => h19 (by simpa using z), fun z => h20 (by simpa using z), fun z => h21 (by simpa using z)⟩
                · obtain rfl := h15 (haf ⟨15, .data⟩ (by simp) rfl)
                  obtain rfl := h17 (haf ⟨17, .data⟩ (by simp) rfl)
                  go_wp2
                  rw [HR24.out]
                  exact ⟨e, _, _, _, _, _, _, _, _, _, _, _, _, _, _, _, _, _, _, _, _, _, _, rfl, rfl, fun z => h0 (by simpa using z), fun z => h1 (by simpa using z), fun z => h2 (by simpa using z), fun z => h3 (by simpa using z), fun z => h4 (by simpa using z), fun z => h5 (by simpa using z), fun z => h6 (by simpa using z), fun z => h7 (by simpa using z), fun z => h8 (by simpa using z), fun z => h9 (by simpa using z), fun z => h10 (by simpa using z), fun z => h11 (by simpa using z), fun z => h12 (by simpa using z), fun z => h13 (by simpa using z), fun z => h14 (by simpa using z), fun _ => rfl, fun z => h16 (by simpa using z), fun _ => rfl, fun _ => rfl, fun z => h19 (by simpa using z), fun z => h20 (by simpa using z), fun z => h21 (by simpa using z)⟩
                · obtain rfl := h18 (haf ⟨18, .data⟩ (by simp) rfl)
                  go_wp2
                  rw [HR24.out]
                  exact ⟨e, _, _, _, _, _, _, _, _, _, _, _, _, _, _, _, _, _, _, _, _, _, _, rfl, rfl, fun z => h0 (by simpa using z), fun z => h1 (by simpa using z), fun z => h2 (by simpa using z), fun z => h3 (by simpa using z), fun z => h4 (by simpa using z), fun z => h5 (by simpa using z), fun z => h6 (by simpa using z), fun z => h7 (by simpa using z), fun z => h8 (by simpa using z), fun z => h9 (by simpa using z), fun z => h10 (by simpa using z), fun z => h11 (by simpa using z), fun z => h12 (by simpa using z), fun z => h13 (by simpa using z), fun z => h14 (by simpa using z), fun z => h15 (by simpa using z), fun z => h16 (by simpa using z), fun z => h17 (by simpa using z), fun _ => rfl, fun _ => rfl, fun z => h20 (by simpa using z), fun z => h21 (by simpa using z)⟩
                · obtain rfl := h19 (haf ⟨19, .data⟩ (by simp) rfl)
                  go_wp2
                  rw [HR24.out]
                  exact ⟨e, _, _, _, _, _, _, _, _, _, _, _, _, _, _, _, _, _, _, _, _, _, _, rfl, rfl, fun z => h0 (by simpa using z), fun z => h1 (by simpa using z), fun z => h2 (by simpa using z), fun z => h3 (by simpa using z), fun z => h4 (by simpa using z), fun z => h5 (by simpa using z), fun z => h6 (by simpa using z), fun z => h7 (by simpa using z), fun z => h8 (by simpa using z), fun z => h9 (by simpa using z), fun z => h10 (by simpa using z), fun z => h11 (by simpa using z), fun z => h12 (by simpa using z), fun z => h13 (by simpa using z), fun z => h14 (by simpa using z), fun z => h15 (by simpa using z), fun z => h16 (by simpa using z), fun z => h17 (by simpa using z), fun z => h18 (by simpa using z), fun _ => rfl, fun _ => rfl, fun z => h21 (by simpa using z)⟩
                · obtain rfl := h7 (haf ⟨7, .data⟩ (by simp) rfl)
                  obtain rfl := h10 (haf ⟨10, .data⟩ (by simp) rfl)
                  obtain rfl := h13 (haf ⟨13, .data⟩ (by simp) rfl)
                  obtain rfl := h20 (haf ⟨20, .data⟩ (by simp) rfl)
                  have hNew : Below e.w.heap.size e.w (e.w.alloc (.cells #[.string ⟨#[97, 108, 97, 114, 109]⟩, .string sq, .string (itB a.level), .string (itB a.limit), .string sm] 9)) := (Below.refl _ _).alloc (Nat.le_refl _) _
                  go_wp2
                  rw [HR24.out]
                  exact ⟨⟨_, e.b.alloc hse (.cells #[.string ⟨#[97, 108, 97, 114, 109]⟩, .string sq, .string (itB a.level), .string (itB a.limit), .string sm] 9)⟩, _, _, _, _, _, _, _, _, _, _, _, _, _, _, _, _, _, _, _, _, _, _, rfl, rfl, fun z => h0 (by simpa using z), fun z => h1 (by simpa using z), fun z => h2 (by simpa using z), fun z => h3 (by simpa using z), fun z => h4 (by simpa using z), fun z => h5 (by simpa using z), fun z => h6 (by simpa using z), fun _ => rfl, fun z => h8 (by simpa using z), fun z => h9 (by simpa using z), fun _ => rfl, fun z => h11 (by simpa using z), fun z => h12 (by simpa using z), fun _ => rfl, fun z => h14 (by simpa using z), fun z => h15 (by simpa using z), fun z => h16 (by simpa using z), fun z => h17 (by simpa using z), fun z => h18 (by simpa using z), fun z => h19 (by simpa using z), fun _ => rfl, fun _ => Lib.hid (⟨⟨_, rfl⟩, owns_new (by omega) rfl (by decide)⟩)⟩
              · rintro L a' w' hL hInv
                rw [HR24.out] at hInv
                obtain ⟨e, v96, v97, v98, v99, v100, v101, v102, v103, v104, v105, v106, v107, v108, v109, v110, v111, v112, v113, v114, v115, v116, v117, rfl, rfl, h0, h1, h2, h3, h4, h5, h6, h7, h8, h9, h10, h11, h12, h13, h14, h15, h16, h17, h18, h19, h20, h21⟩ := hInv
                obtain rfl := h0 (hL 0 (by omega))
                obtain rfl := h1 (hL 1 (by omega))
                obtain rfl := h2 (hL 2 (by omega))
                obtain rfl := h3 (hL 3 (by omega))
                obtain rfl := h4 (hL 4 (by omega))
                obtain rfl := h5 (hL 5 (by omega))
                obtain rfl := h6 (hL 6 (by omega))
                obtain rfl := h7 (hL 7 (by omega))
                obtain rfl := h8 (hL 8 (by omega))
                obtain rfl := h9 (hL 9 (by omega))
                obtain rfl := h10 (hL 10 (by omega))
                obtain rfl := h11 (hL 11 (by omega))
                obtain rfl := h12 (hL 12 (by omega))
                obtain rfl := h13 (hL 13 (by omega))
                obtain rfl := h14 (hL 14 (by omega))
                obtain rfl := h15 (hL 15 (by omega))
                obtain rfl := h16 (hL 16 (by omega))
                obtain rfl := h17 (hL 17 (by omega))
                obtain rfl := h18 (hL 18 (by omega))
                obtain rfl := h19 (hL 19 (by omega))
                obtain rfl := h20 (hL 20 (by omega))
                have hO117 := (h21 (hL 21 (by omega))).out
                have hse : W5.heap.size ≤ e.w.heap.size := e.b.size
                clear h0 h1 h2 h3 h4 h5 h6 h7 h8 h9 h10 h11 h12 h13 h14 h15 h16 h17 h18 h19 h20 h21 hL HR24
                obtain ⟨⟨g, rfl⟩, ho117⟩ := hO117
                have HO := Lib.hid ho117
                have HbE := Lib.hid (HbA5.out.trans (e.b.mono (by omega)))
                have HLi := Lib.hid (line_any [⟨#[97, 108, 97, 114, 109]⟩, sq, itB a.level, itB a.limit, sm] [] _ (.slice none 0 0) 5 0 w1.heap.size w1.heap.size (qsTxt p.qs ++ msTxt p.ms ++ asTxt p (p.al.take k)) e.w rfl rfl (by decide) (by decide) (by decide) HAcc.out HO.out (World.ownsRow_nil _ _ _ _) (bld_below (bld_below HBd.out Hbl5.out) e.b) (by omega) (HTb1.out _ HbE.out) Hws.out (by simp))
                clear ho117 x0 x1 x2 x3 y0 y1 y2 y3 y4
                go_wp2_with (go_at_call 23; refine HLi.out.mono ?_; rintro r w6 ⟨rfl, hi6, hb6, hk6⟩)
                have HI6 := Lib.hid hi6
                have HB6 := Lib.hid (HbE.out.trans hb6)
                clear hi6 hb6 hk6 HLi
                go_wp2
                go_roundw
                case rel => exact ⟨_, _, _, _, _, _, _, _, _, _, _, _, _, _, _, _, _, _, _, _, _, _, _, _, _, _, _, _, _, ⟨k + 1, by omega, by go_num, Lib.hid (by rw [HSu.out, HW.out, ← List.append_assoc]; simpa using HI6.out), HB6⟩, rfl⟩
                case measure => simp [intOf]; omega
            · obtain rfl : k = p.al.length := by omega
              have HE := Lib.hid (show qsTxt p.qs ++ msTxt p.ms ++ asTxt p (p.al.take p.al.length) = txt p by rw [List.take_length]; rfl)
              have HB2 := Lib.hid (show Lib.IsBuilderF 65 5 w1.heap.size w1.heap.size (Lib.byteCells (txt p)) wr by rw [← HE.out]; exact HBd.out)
              have hle : (txt p).length ≤ 22400 := HG.out.txt_le
              have HLn := Lib.hid (len_lib w1.heap.size w1.heap.size (txt p) wr HB2.out)
              have HSt := Lib.hid (string_lib w1.heap.size w1.heap.size (txt p) wr HB2.out (by omega))
              clear q0 q1 q2 HBd HE
              go_wp2_with (go_at_call 27; refine HLn.out.mono ?_; rintro r w6 ⟨rfl, hw6⟩; obtain rfl := hw6)
              go_wp2_with (go_at_call 28; refine HSt.out.mono ?_; rintro r w6 ⟨rfl, hb6⟩)
              refine bodyPost_ret (v := .tuple #[.string ⟨(txt p).toArray⟩, .int .i64 0]) (by simp [results, Tryz.results8, go_sem]) rfl ?_
              exact ⟨by rw [HTx2.out, Hp0.out], HU.out _ (HX.out _ (Hb.out.trans hb6))⟩
end Go.Proofs.YtcgnpndfhhcplaaGreatDoor
