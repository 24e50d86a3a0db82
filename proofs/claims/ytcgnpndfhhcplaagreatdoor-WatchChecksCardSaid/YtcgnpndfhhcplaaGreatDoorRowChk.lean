/-
  The specification's Print gives the same text and error as package watch's; the errors of gauges, of both. Conditions: how the plan lies in memory; the gauge's name's length is an int.
  The law WatchChecks answers true. Conditions: how its arguments lie in memory; the table of powers of ten reads as its initialiser lays it.
  The tied card of WatchChecks holds: for every input the law returns true, and each argument reads behind the call as it read before. Condition: the row's own: three tables of Go's library read as the program's text lays them; the card ties them to the text.
-/
import Derived.Test.YtcgnpndfhhcplaaGreatDoorText
import Derived.Test.YtcgnpndfhhcplaaGreatDoorPrint
import Derived.Test.YtcgnpndfhhcplaaGreatDoorRCheck
import Derived.Test.YtcgnpndfhhcplaaGreatDoorSame
import Derived.Test.YtcgnpndfhhcplaaGreatDoorVast
import Derived.Test.YtcgnpndfhhcplaaGreatDoorWakes
import Derived.Test.YtcgnpndfhhcplaaGreatDoorRows
import Derived.Test.YtcgnpndfhhcplaaGreatDoorCards
import Derived.Test.YtcgnpndfhhcplaaGreatDoorTie
import Derived.Test.YtcgnpndfhhcplaaGreatDoorOpenP
import Derived.ProofKit
import Derived.LaidMore
import Derived.OpenShut
import Derived.Stop.Joined
import Derived.Lib.LaidTab
import Derived.Stop.LaidErr
import Derived.SevenTiedAt
namespace Go.Proofs.YtcgnpndfhhcplaaGreatDoor
open Go.RowKit W7
set_option maxHeartbeats 2000000 in
set_option maxRecDepth 100000 in
theorem refPrint_any (p : Plan) (B : Nat) (w : World) (hp : PIn w B p) (hB : B ≤ w.heap.size) :
    Calls Tryz.prog 9 #[.agg #[.slice p.qA p.qs.length p.qc, .slice p.mA p.ms.length p.mc, .slice p.aA p.al.length p.ac]] w fun e w' => e = .returned (.tuple #[.string (txtS p), .int .i64 (planErr p)]) ∧ Below w.heap.size w w' := by
  obtain ⟨W0, hW0⟩ : ∃ W0, W0 = w.alloc (.cells #[.slice p.qA p.qs.length p.qc, .slice p.mA p.ms.length p.mc, .slice p.aA p.al.length p.ac] 26) := ⟨_, rfl⟩
  have HB0 := Lib.hid (show Below w.heap.size w W0 by rw [hW0]; exact (Below.refl _ _).alloc (Nat.le_refl _) _)
  have hs0 : w.heap.size < W0.heap.size := by rw [hW0]; simp
  have HQ0 := Lib.hid (show ∀ (X : World), Below W0.heap.size W0 X → X.cell? ⟨w.heap.size, 0, none⟩ = some (.slice p.qA p.qs.length p.qc) ∧ X.cell? ⟨w.heap.size, 1, none⟩ = some (.slice p.mA p.ms.length p.mc) ∧ X.cell? ⟨w.heap.size, 2, none⟩ = some (.slice p.aA p.al.length p.ac) from fun X hX =>
    ⟨(hX.cell (p := ⟨w.heap.size, 0, none⟩) hs0).trans (by rw [hW0]; exact alloc_cell rfl), (hX.cell (p := ⟨w.heap.size, 1, none⟩) hs0).trans (by rw [hW0]; exact alloc_cell rfl), (hX.cell (p := ⟨w.heap.size, 2, none⟩) hs0).trans (by rw [hW0]; exact alloc_cell rfl)⟩)
  have HP := Lib.hid (fun (X : World) (hX : Below W0.heap.size W0 X) => (hp.mono hB).below (HB0.out.trans (hX.mono (Nat.le_of_lt hs0))))
  have HU := Lib.hid (fun (X : World) (hX : Below W0.heap.size W0 X) => show Below w.heap.size w X from HB0.out.trans (hX.mono (Nat.le_of_lt hs0)))
  have HC := Lib.hid (refCheck_any p w.heap.size W0 (HP.out W0 (Below.refl _ _)) (by omega))
  obtain ⟨pe, hpe⟩ : ∃ pe, pe = planErr p := ⟨_, rfl⟩
  have HTx := Lib.hid (show txtS p = if pe = 0 then ⟨(txt p).toArray⟩ else ⟨#[]⟩ by rw [hpe]; rfl)
  have HF := Lib.hid (show pe = 0 → PlanFull p from fun h => planFull (by rw [← hpe]; exact h))
  rw [← hpe] at HC ⊢
  obtain ⟨q0, q1, q2⟩ := HQ0.out W0 (Below.refl _ _)
  have HW0 := Lib.hid hW0
  clear hW0 hp hpe
  go_enter Tryz.func9, Tryz.ntmps9
  go_wp2_with (go_at_call 11; fail)
  rw [← HW0.out]
  refine HC.out.mono ?_
  rintro e w1 ⟨rfl, hb1⟩
  have Hb1 := Lib.hid hb1
  have hs1 := hb1.size
  clear hb1 q0 q1 q2 HC
  obtain ⟨q0, q1, q2⟩ := HQ0.out w1 Hb1.out
  cases h1 : (pe != 0)
  rotate_left
  · have He2 := Lib.hid (show txtS p = ⟨#[]⟩ by rw [HTx.out, if_neg (by simpa using h1)])
    go_wp2
    refine bodyPost_ret (v := .tuple #[.string ⟨#[]⟩, .int .i64 pe]) (by simp [results, Tryz.results9, go_sem]) rfl ?_
    exact ⟨by rw [He2.out], HU.out w1 Hb1.out⟩
  have hp0 : pe = 0 := by simpa using h1
  have HTx2 := Lib.hid (show txtS p = ⟨(txt p).toArray⟩ by rw [HTx.out, if_pos hp0])
  have HG := Lib.hid (HF.out hp0)
  have Hp0 := Lib.hid hp0
  have HT := Lib.hid (refText_any p w.heap.size w1 (HP.out w1 Hb1.out) (by omega) HG.out)
  have hle := HG.out.txt_le
  obtain ⟨S, hS⟩ : ∃ S : ByteArray, S = ⟨(txt p).toArray⟩ := ⟨_, rfl⟩
  have hSs := size_mk hS hle
  rw [← hS] at HT HTx2
  clear hp0 hS hle
  go_wp2_with (go_at_call 29; refine HT.out.mono ?_; rintro r w2 ⟨rfl, hb2⟩)
  refine bodyPost_ret (v := .tuple #[.string S, .int .i64 0]) (by simp [results, Tryz.results9, go_sem]) rfl ?_
  exact ⟨by rw [HTx2.out, Hp0.out], HU.out _ (Hb1.out.trans (hb2.mono hs1))⟩
def errV (g : Gauge) (t : Int) : Int := if gaugeB g = true ∧ isTm t = true then devi g t else 0
def errE (g : Gauge) (t : Int) : Int := if gaugeB g = true ∧ isTm t = true then 0 else 1
theorem gaugeB_nums {g : Gauge} (h : gaugeB g = true) : 0 ≤ g.acc ∧ g.acc ≤ 1000000000 ∧ 0 ≤ g.drift ∧ g.drift ≤ 1000000000 ∧ 0 ≤ g.since ∧ g.since ≤ 100000 := by
  unfold gaugeB at h
  rw [Bool.and_eq_true, Bool.and_eq_true, withinB_true, withinB_true, isTm_true] at h
  omega
set_option maxHeartbeats 2000000 in
set_option maxRecDepth 100000 in
theorem Error_any (g : Gauge) (t : Int) (w : World) :
    Calls Tryz.prog 14 #[.agg #[.string g.name, .int .i64 g.acc, .int .i64 g.drift, .int .i64 g.since], .int .i64 t] w fun e w' => e = .returned (.tuple #[.int .i64 (errV g t), .int .i64 (errE g t)]) ∧ Below w.heap.size w w' := by
  obtain ⟨W0, hW0⟩ : ∃ W0, W0 = w.alloc (.cells #[.string g.name, .int .i64 g.acc, .int .i64 g.drift, .int .i64 g.since] 28) := ⟨_, rfl⟩
  have HB0 := Lib.hid (show Below w.heap.size w W0 by rw [hW0]; exact (Below.refl _ _).alloc (Nat.le_refl _) _)
  have hs0 : w.heap.size < W0.heap.size := by rw [hW0]; simp
  have HQ0 := Lib.hid (show ∀ (X : World), Below W0.heap.size W0 X → ∀ j v, (#[.string g.name, .int .i64 g.acc, .int .i64 g.drift, .int .i64 g.since] : Array Value)[j]? = some v → X.cell? ⟨w.heap.size, j, none⟩ = some v from fun X hX j v hv =>
    (hX.cell (p := ⟨w.heap.size, j, none⟩) hs0).trans (by rw [hW0]; exact alloc_cell hv))
  have HX := Lib.hid (fun (X : World) (hX : Below W0.heap.size W0 X) => show X.cell? ⟨w.heap.size, 0, none⟩ = some (.string g.name) ∧ X.cell? ⟨w.heap.size, 1, none⟩ = some (.int .i64 g.acc) ∧ X.cell? ⟨w.heap.size, 2, none⟩ = some (.int .i64 g.drift) ∧ X.cell? ⟨w.heap.size, 3, none⟩ = some (.int .i64 g.since) from ⟨HQ0.out X hX 0 _ rfl, HQ0.out X hX 1 _ rfl, HQ0.out X hX 2 _ rfl, HQ0.out X hX 3 _ rfl⟩)
  have HC := Lib.hid (checkGauge_any g W0)
  have HT := Lib.hid (fun (X : World) => isTime_any t X)
  have HD := Lib.hid (fun (h : gaugeB g = true) (ht : isTm t = true) (X : World) => deviation_any g t X (gaugeB_nums h).1 (gaugeB_nums h).2.1 (gaugeB_nums h).2.2.1 (gaugeB_nums h).2.2.2.1 (gaugeB_nums h).2.2.2.2.1 (gaugeB_nums h).2.2.2.2.2 (isTm_true.1 ht).1 (isTm_true.1 ht).2)
  obtain ⟨c0, c1, c2, c3⟩ := HX.out W0 (Below.refl _ _)
  have HW0 := Lib.hid hW0
  clear hW0
  cases hg : gaugeB g
  · have Hv := Lib.hid (show errV g t = 0 ∧ errE g t = 1 by simp [errV, errE, hg])
    rw [hg] at HC
    go_enter Tryz.func14, Tryz.ntmps14
    go_wp2_with (go_at_call 46; fail)
    rw [← HW0.out]
    refine HC.out.mono ?_
    rintro r w1 ⟨rfl, hb1⟩
    go_wp2
    refine bodyPost_ret (v := .tuple #[.int .i64 0, .int .i64 1]) (by simp [results, Tryz.results14, go_sem]) rfl ?_
    exact ⟨by rw [Hv.out.1, Hv.out.2], HB0.out.trans (hb1.mono (by omega))⟩
  rw [hg, if_pos rfl] at HC
  cases ht : isTm t
  · have Hv := Lib.hid (show errV g t = 0 ∧ errE g t = 1 by simp [errV, errE, ht])
    rw [ht] at HT
    go_enter Tryz.func14, Tryz.ntmps14
    go_wp2_with (go_at_call 46; fail)
    rw [← HW0.out]
    refine HC.out.mono ?_
    rintro r w1 ⟨rfl, hb1⟩
    go_wp2_with (go_at_call 47; refine (HT.out _).mono ?_; rintro r w2 ⟨rfl, hw2⟩; obtain rfl := hw2)
    refine bodyPost_ret (v := .tuple #[.int .i64 0, .int .i64 1]) (by simp [results, Tryz.results14, go_sem]) rfl ?_
    exact ⟨by rw [Hv.out.1, Hv.out.2], HB0.out.trans (hb1.mono (by omega))⟩
  · have Hv := Lib.hid (show errV g t = devi g t ∧ errE g t = 0 by simp [errV, errE, ht, hg])
    rw [ht] at HT
    have HDD := Lib.hid (HD.out hg ht)
    obtain ⟨D, hD⟩ : ∃ D, D = devi g t := ⟨_, rfl⟩
    rw [← hD] at HDD Hv
    clear hD
    go_enter Tryz.func14, Tryz.ntmps14
    go_wp2_with (go_at_call 46; fail)
    rw [← HW0.out]
    refine HC.out.mono ?_
    rintro r w1 ⟨rfl, hb1⟩
    have HB1 := Lib.hid hb1
    have hs1 := hb1.size
    clear hb1 c0 c1 c2 c3
    obtain ⟨c0, c1, c2, c3⟩ := HX.out w1 HB1.out
    go_wp2_with (first | (go_at_call 47; refine (HT.out _).mono ?_; rintro r w2 ⟨rfl, hw2⟩; obtain rfl := hw2) | (go_at_call 48; refine (HDD.out _).mono ?_; rintro r w3 ⟨rfl, hb3⟩))
    refine bodyPost_ret (v := .tuple #[.int .i64 D, .int .i64 0]) (by simp [results, Tryz.results14, go_sem]) rfl ?_
    exact ⟨by rw [Hv.out.1, Hv.out.2], (HB0.out.trans (HB1.out.mono (by omega))).trans (hb3.mono (by omega))⟩
set_option maxHeartbeats 2000000 in
set_option maxRecDepth 100000 in
theorem refErrorA_any (g : Gauge) (t : Int) (w : World) :
    Calls Tryz.prog 15 #[.agg #[.string g.name, .int .i64 g.acc, .int .i64 g.drift, .int .i64 g.since], .int .i64 t] w fun e w' => e = .returned (.tuple #[.int .i64 (errV g t), .int .i64 (errE g t)]) ∧ Below w.heap.size w w' := by
  obtain ⟨W0, hW0⟩ : ∃ W0, W0 = w.alloc (.cells #[.string g.name, .int .i64 g.acc, .int .i64 g.drift, .int .i64 g.since] 28) := ⟨_, rfl⟩
  have HB0 := Lib.hid (show Below w.heap.size w W0 by rw [hW0]; exact (Below.refl _ _).alloc (Nat.le_refl _) _)
  have hs0 : w.heap.size < W0.heap.size := by rw [hW0]; simp
  have HQ0 := Lib.hid (show ∀ (X : World), Below W0.heap.size W0 X → ∀ j v, (#[.string g.name, .int .i64 g.acc, .int .i64 g.drift, .int .i64 g.since] : Array Value)[j]? = some v → X.cell? ⟨w.heap.size, j, none⟩ = some v from fun X hX j v hv =>
    (hX.cell (p := ⟨w.heap.size, j, none⟩) hs0).trans (by rw [hW0]; exact alloc_cell hv))
  have HX := Lib.hid (fun (X : World) (hX : Below W0.heap.size W0 X) => show X.cell? ⟨w.heap.size, 0, none⟩ = some (.string g.name) ∧ X.cell? ⟨w.heap.size, 1, none⟩ = some (.int .i64 g.acc) ∧ X.cell? ⟨w.heap.size, 2, none⟩ = some (.int .i64 g.drift) ∧ X.cell? ⟨w.heap.size, 3, none⟩ = some (.int .i64 g.since) from ⟨HQ0.out X hX 0 _ rfl, HQ0.out X hX 1 _ rfl, HQ0.out X hX 2 _ rfl, HQ0.out X hX 3 _ rfl⟩)
  have HC := Lib.hid (refCheckGauge_any g W0)
  have HT := Lib.hid (fun (X : World) => refTimed_any t X)
  have HD := Lib.hid (fun (h : gaugeB g = true) (ht : isTm t = true) (X : World) => refWorst_any g t X (gaugeB_nums h).1 (gaugeB_nums h).2.1 (gaugeB_nums h).2.2.1 (gaugeB_nums h).2.2.2.1 (gaugeB_nums h).2.2.2.2.1 (gaugeB_nums h).2.2.2.2.2 (isTm_true.1 ht).1 (isTm_true.1 ht).2)
  obtain ⟨c0, c1, c2, c3⟩ := HX.out W0 (Below.refl _ _)
  have HW0 := Lib.hid hW0
  clear hW0
  cases hg : gaugeB g
  · have Hv := Lib.hid (show errV g t = 0 ∧ errE g t = 1 by simp [errV, errE, hg])
    rw [hg] at HC
    go_enter Tryz.func15, Tryz.ntmps15
    go_wp2_with (go_at_call 49; fail)
    rw [← HW0.out]
    refine HC.out.mono ?_
    rintro r w1 ⟨rfl, hb1⟩
    go_wp2
    refine bodyPost_ret (v := .tuple #[.int .i64 0, .int .i64 1]) (by simp [results, Tryz.results15, go_sem]) rfl ?_
    exact ⟨by rw [Hv.out.1, Hv.out.2], HB0.out.trans (hb1.mono (by omega))⟩
  rw [hg, if_pos rfl] at HC
  cases ht : isTm t
  · have Hv := Lib.hid (show errV g t = 0 ∧ errE g t = 1 by simp [errV, errE, ht])
    rw [ht] at HT
    go_enter Tryz.func15, Tryz.ntmps15
    go_wp2_with (go_at_call 49; fail)
    rw [← HW0.out]
    refine HC.out.mono ?_
    rintro r w1 ⟨rfl, hb1⟩
    go_wp2_with (go_at_call 50; refine (HT.out _).mono ?_; rintro r w2 ⟨rfl, hw2⟩; obtain rfl := hw2)
    refine bodyPost_ret (v := .tuple #[.int .i64 0, .int .i64 1]) (by simp [results, Tryz.results15, go_sem]) rfl ?_
    exact ⟨by rw [Hv.out.1, Hv.out.2], HB0.out.trans (hb1.mono (by omega))⟩
  · have Hv := Lib.hid (show errV g t = devi g t ∧ errE g t = 0 by simp [errV, errE, ht, hg])
    rw [ht] at HT
    have HDD := Lib.hid (HD.out hg ht)
    obtain ⟨D, hD⟩ : ∃ D, D = devi g t := ⟨_, rfl⟩
    rw [← hD] at HDD Hv
    clear hD
    go_enter Tryz.func15, Tryz.ntmps15
    go_wp2_with (go_at_call 49; fail)
    rw [← HW0.out]
    refine HC.out.mono ?_
    rintro r w1 ⟨rfl, hb1⟩
    have HB1 := Lib.hid hb1
    have hs1 := hb1.size
    clear hb1 c0 c1 c2 c3
    obtain ⟨c0, c1, c2, c3⟩ := HX.out w1 HB1.out
    go_wp2_with (first | (go_at_call 50; refine (HT.out _).mono ?_; rintro r w2 ⟨rfl, hw2⟩; obtain rfl := hw2) | (go_at_call 51; refine (HDD.out _).mono ?_; rintro r w3 ⟨rfl, hb3⟩))
    refine bodyPost_ret (v := .tuple #[.int .i64 D, .int .i64 0]) (by simp [results, Tryz.results15, go_sem]) rfl ?_
    exact ⟨by rw [Hv.out.1, Hv.out.2], (HB0.out.trans (HB1.out.mono (by omega))).trans (hb3.mono (by omega))⟩
end Go.Proofs.YtcgnpndfhhcplaaGreatDoor
namespace Go.Proofs.YtcgnpndfhhcplaaGreatDoor
open Go.RowKit W7
attribute [local go_sem] Oper.semAt_some
set_option maxHeartbeats 4000000 in
set_option maxRecDepth 100000 in
theorem LawChecks_any (p o : Plan) (g : Gauge) (t : Int) (w : World) (hp : PIn w w.heap.size p) (ho : PIn w w.heap.size o) (hT : Tab w.heap.size w) :
    Calls Tryz.prog 3 #[.agg #[.slice p.qA p.qs.length p.qc, .slice p.mA p.ms.length p.mc, .slice p.aA p.al.length p.ac], .agg #[.slice o.qA o.qs.length o.qc, .slice o.mA o.ms.length o.mc, .slice o.aA o.al.length o.ac], .agg #[.string g.name, .int .i64 g.acc, .int .i64 g.drift, .int .i64 g.since], .int .i64 t] w fun e w' => e = .returned (.bool true) ∧ Below w.heap.size w w' := by
  obtain ⟨W0, hW0⟩ : ∃ W0, W0 = ((w.alloc (.cells #[.slice p.qA p.qs.length p.qc, .slice p.mA p.ms.length p.mc, .slice p.aA p.al.length p.ac] 26)).alloc (.cells #[.slice o.qA o.qs.length o.qc, .slice o.mA o.ms.length o.mc, .slice o.aA o.al.length o.ac] 26)).alloc (.cells #[.string g.name, .int .i64 g.acc, .int .i64 g.drift, .int .i64 g.since] 28) := ⟨_, rfl⟩
  have HB0 := Lib.hid (show Below w.heap.size w W0 by rw [hW0]; exact below3)
  have hs0 : w.heap.size + 2 < W0.heap.size := by rw [hW0]; simp
  have HQ0 := Lib.hid (show ∀ (X : World), Below W0.heap.size W0 X → (X.cell? ⟨w.heap.size, 0, none⟩ = some (.slice p.qA p.qs.length p.qc) ∧ X.cell? ⟨w.heap.size, 1, none⟩ = some (.slice p.mA p.ms.length p.mc) ∧ X.cell? ⟨w.heap.size, 2, none⟩ = some (.slice p.aA p.al.length p.ac)) ∧ (X.cell? ⟨w.heap.size + 1, 0, none⟩ = some (.slice o.qA o.qs.length o.qc) ∧ X.cell? ⟨w.heap.size + 1, 1, none⟩ = some (.slice o.mA o.ms.length o.mc) ∧ X.cell? ⟨w.heap.size + 1, 2, none⟩ = some (.slice o.aA o.al.length o.ac)) ∧ (X.cell? ⟨w.heap.size + 2, 0, none⟩ = some (.string g.name) ∧ X.cell? ⟨w.heap.size + 2, 1, none⟩ = some (.int .i64 g.acc) ∧ X.cell? ⟨w.heap.size + 2, 2, none⟩ = some (.int .i64 g.drift) ∧ X.cell? ⟨w.heap.size + 2, 3, none⟩ = some (.int .i64 g.since)) from fun X hX => by
    have k0 : W0.heap[w.heap.size]? = some (.cells #[.slice p.qA p.qs.length p.qc, .slice p.mA p.ms.length p.mc, .slice p.aA p.al.length p.ac] 26 (0, 0)) := by rw [hW0]; exact heap3
    have k1 : W0.heap[w.heap.size + 1]? = some (.cells #[.slice o.qA o.qs.length o.qc, .slice o.mA o.ms.length o.mc, .slice o.aA o.al.length o.ac] 26 (0, 0)) := by rw [hW0]; exact heap3b
    have k2 : W0.heap[w.heap.size + 2]? = some (.cells #[.string g.name, .int .i64 g.acc, .int .i64 g.drift, .int .i64 g.since] 28 (0, 0)) := by rw [hW0]; exact heap3c
    have m0 := (hX.block w.heap.size (by omega)).trans k0
    have m1 := (hX.block (w.heap.size + 1) (by omega)).trans k1
    have m2 := (hX.block (w.heap.size + 2) (by omega)).trans k2
    simp only [World.cell?, m0, m1, m2]
    exact ⟨⟨rfl, rfl, rfl⟩, ⟨rfl, rfl, rfl⟩, ⟨rfl, rfl, rfl, rfl⟩⟩)
  have HP := Lib.hid (fun (X : World) (hX : Below W0.heap.size W0 X) => hp.below (HB0.out.trans (hX.mono (show w.heap.size ≤ W0.heap.size by omega))))
  have HO := Lib.hid (fun (X : World) (hX : Below W0.heap.size W0 X) => ho.below (HB0.out.trans (hX.mono (show w.heap.size ≤ W0.heap.size by omega))))
  have HU := Lib.hid (fun (X : World) (hX : Below W0.heap.size W0 X) => show Below w.heap.size w X from HB0.out.trans (hX.mono (show w.heap.size ≤ W0.heap.size by omega)))
  have HTb := Lib.hid (fun (X : World) (hX : Below W0.heap.size W0 X) => hT.up (HU.out X hX) (show w.heap.size ≤ X.heap.size by have := hX.size; omega))
  have HVa := Lib.hid (vast_any p w.heap.size W0 (HP.out W0 (Below.refl _ _)) (by omega))
  obtain ⟨⟨q0, q1, q2⟩, ⟨p0, p1, p2⟩, g0, g1, g2, g3⟩ := HQ0.out W0 (Below.refl _ _)
  have HW0 := Lib.hid hW0
  clear hW0 hp ho hT
  go_enter Tryz.func3, Tryz.ntmps3
  go_wp2_with (go_at_call 18; fail)
  rw [← HW0.out]
  refine HVa.out.mono ?_
  rintro r w1 ⟨b, rfl, hb1⟩
  have HB1 := Lib.hid hb1
  have hs1 := hb1.size
  clear hb1 HVa q0 q1 q2 p0 p1 p2 g0 g1 g2 g3
  obtain ⟨⟨q0, q1, q2⟩, ⟨p0, p1, p2⟩, g0, g1, g2, g3⟩ := HQ0.out w1 HB1.out
  cases b
  rotate_left
  · go_wp2_with (go_at_call 7; refine (wakes_any _).mono ?_; rintro r w2 ⟨rfl, hb2⟩)
    go_ret
    exact ⟨rfl, (HU.out w1 HB1.out).trans (hb2.mono (by omega))⟩
  have HVo := Lib.hid (vast_any o w.heap.size w1 (HO.out w1 HB1.out) (by omega))
  go_wp2_with (go_at_call 18; fail)
  refine HVo.out.mono ?_
  rintro r w2 ⟨b, rfl, hb2⟩
  have HB2 := Lib.hid (HB1.out.trans (hb2.mono hs1))
  have hs2 := hb2.size
  clear hb2 HVo q0 q1 q2 p0 p1 p2 g0 g1 g2 g3
  obtain ⟨⟨q0, q1, q2⟩, ⟨p0, p1, p2⟩, g0, g1, g2, g3⟩ := HQ0.out w2 HB2.out
  cases b
  rotate_left
  · go_wp2_with (go_at_call 7; refine (wakes_any _).mono ?_; rintro r w3 ⟨rfl, hb3⟩)
    go_ret
    exact ⟨rfl, (HU.out w2 HB2.out).trans (hb3.mono (by omega))⟩
  have H3 := Lib.hid (Print_any p w.heap.size w2 (HP.out w2 HB2.out) (by omega) (HTb.out w2 HB2.out))
  go_wp2_with (go_at_call 18; fail)
  refine H3.out.mono ?_
  rintro r w3 ⟨rfl, hb3⟩
  have HB3 := Lib.hid (HB2.out.trans (hb3.mono (by omega)))
  have hs3 := hb3.size
  clear hb3 H3 q0 q1 q2 p0 p1 p2 g0 g1 g2 g3
  obtain ⟨⟨q0, q1, q2⟩, ⟨p0, p1, p2⟩, g0, g1, g2, g3⟩ := HQ0.out w3 HB3.out
  have H4 := Lib.hid (refPrint_any p w.heap.size w3 (HP.out w3 HB3.out) (by omega))
  go_wp2_with (go_at_call 18; fail)
  refine H4.out.mono ?_
  rintro r w4 ⟨rfl, hb4⟩
  have HB4 := Lib.hid (HB3.out.trans (hb4.mono (by omega)))
  have hs4 := hb4.size
  clear hb4 H4 q0 q1 q2 p0 p1 p2 g0 g1 g2 g3
  obtain ⟨⟨q0, q1, q2⟩, ⟨p0, p1, p2⟩, g0, g1, g2, g3⟩ := HQ0.out w4 HB4.out
  have y0 := later_cell q0 (by omega)
  have y1 := later_cell q1 (by omega)
  have y2 := later_cell q2 (by omega)
  have y3 := later_cell p0 (by omega)
  have y4 := later_cell p1 (by omega)
  have y5 := later_cell p2 (by omega)
  clear q0 q1 q2 p0 p1 p2 g0 g1 g2 g3
  have HL := Lib.hid (fun (e : Later w4) => show Below W0.heap.size W0 e.w from HB4.out.trans (e.b.mono (by omega)))
  have hse := fun (e : Later w4) => (e.b.size : w4.heap.size ≤ e.w.heap.size)
  have HC1 := Lib.hid (fun (e : Later w4) => Check_any p w.heap.size e.w (HP.out _ (HL.out e)) (by have := hse e; omega))
  have HC2 := Lib.hid (fun (e : Later w4) => refCheck_any p w.heap.size e.w (HP.out _ (HL.out e)) (by have := hse e; omega))
  have HS2 := Lib.hid (fun (e : Later w4) => refSame_any p o w.heap.size e.w (HP.out _ (HL.out e)) (HO.out _ (HL.out e)) (by have := hse e; omega))
  have HS1 := Lib.hid (fun (x : Plan) (hx : x = o ∨ x = p) (e : Later w4) => Same_any p x w.heap.size e.w (HP.out _ (HL.out e)) (by rcases hx with rfl | rfl; exact HO.out _ (HL.out e); exact HP.out _ (HL.out e)) (by have := hse e; omega))
  generalize planErr p = pe at *
  generalize txtS p = S at *
  have hpe : (pe != pe) = false := by simp
  have hS : (S.toList != S.toList) = false := by simp
  have hsm : (sameP p o != sameP p o) = false := by simp
  have hpp : sameP p p = true := sameP_refl p
  clear hse
  go_wp2
  refine wp_region_later (by kernel_rfl) (by kernel_rfl) ?_
  repeat (any_goals (first | go_big_quiet_step ((first | (go_at_call 10; exact later_call _ (HC1.out _)) | (go_at_call 11; exact later_call _ (HC2.out _)) | (go_at_call 13; exact later_call _ (HS2.out _)) | (go_at_call 12; exact later_call _ (HS1.out _ (by simp) _)))) | quiet_step ((first | (go_at_call 10; exact later_call _ (HC1.out _)) | (go_at_call 11; exact later_call _ (HC2.out _)) | (go_at_call 13; exact later_call _ (HS2.out _)) | (go_at_call 12; exact later_call _ (HS1.out _ (by simp) _))))))
  refine wpQuiet_nil ?_
  rintro w' ⟨e, rfl⟩
  have hse : w4.heap.size ≤ e.w.heap.size := e.b.size
  have HB5 := Lib.hid (HL.out e)
  obtain ⟨w5, hw5⟩ : ∃ w5, w5 = e.w := ⟨_, rfl⟩
  rw [← hw5] at HB5 hse ⊢
  clear hw5 e y0 y1 y2 y3 y4 y5
  obtain ⟨⟨q0, q1, q2⟩, ⟨p0, p1, p2⟩, g0, g1, g2, g3⟩ := HQ0.out w5 HB5.out
  have H6 := Lib.hid (Error_any g t w5)
  have HEr := Lib.hid (fun X => refErrorA_any g t X)
  generalize errV g t = ev at *
  generalize errE g t = ee at *
  go_wp2_with (go_at_call 18; fail)
  refine H6.out.mono ?_
  rintro r w6 ⟨rfl, hb6⟩
  have HB6 := Lib.hid (HB5.out.trans (hb6.mono (by omega)))
  have hs6 := hb6.size
  clear hb6 H6 q0 q1 q2 p0 p1 p2 g0 g1 g2 g3
  obtain ⟨⟨q0, q1, q2⟩, ⟨p0, p1, p2⟩, g0, g1, g2, g3⟩ := HQ0.out w6 HB6.out
  have H7 := Lib.hid (HEr.out w6)
  go_wp2_with (go_at_call 18; fail)
  refine H7.out.mono ?_
  rintro r w7 ⟨rfl, hb7⟩
  have HB7 := Lib.hid (HB6.out.trans (hb7.mono (by omega)))
  have hs7 := hb7.size
  clear hb7 H7 q0 q1 q2 p0 p1 p2 g0 g1 g2 g3
  have hev : (ev == ev) = true := by simp
  have hee : (ee == ee) = true := by simp
  go_wp2_with (go_at_call 7; refine (wakes_any _).mono ?_; rintro r w8 ⟨rfl, hb8⟩)
  go_ret
  exact ⟨rfl, (HU.out w7 HB7.out).trans (hb8.mono (by omega))⟩
end Go.Proofs.YtcgnpndfhhcplaaGreatDoor
namespace Go.Proofs.YtcgnpndfhhcplaaGreatDoor
open Go.ChangeShapes Go.WideShapes Go.ChangeAt Go.RowKit W7
section
variable {H : Type} {enc : TypeId × Value → H} {W : World} {base : Nat} {spare : Nat → Bool} {held : Bool}
set_option maxRecDepth 100000 in
theorem open_gauge {r : Reach} {b0 : Nat} {v : Value} {d : DataW H} {p : List MemPlace} (hv : Value.okWide Tryz.prog W r b0 28 v) (h : DataW.Trod enc Tryz.prog W base spare held 28 v d p) :
    ∃ g : Gauge, v = .agg #[.string g.name, .int .i64 g.acc, .int .i64 g.drift, .int .i64 g.since] := by
  obtain ⟨cs, rfl, hsz⟩ := okWide_struct Tryz.underlying28 hv
  have hC : Tryz.prog.cellsOf 28 = 4 := by kernel_rfl
  have k1 : Tryz.prog.cellsOf 9 = 1 := by kernel_rfl
  have k3 : Tryz.prog.cellsOf 3 = 1 := by kernel_rfl
  obtain ⟨l⟩ := cs
  match l, hsz.trans hC with
  | [c0, c1, c2, c3], _ =>
    obtain ⟨fuel, hf⟩ := h
    obtain ⟨xs, n, _, _, _, hlen, hg⟩ := DataW.trod_struct Tryz.underlying28 hf
    match xs, hlen with
    | [y0, y1, y2, y3], _ =>
      have g0 : DataW.trod enc Tryz.prog W base spare held n 9 (([c0, c1, c2, c3].drop 0).take (Tryz.prog.cellsOf 9)) = some y0 := hg 0 _ rfl
      have g1 : DataW.trod enc Tryz.prog W base spare held n 3 (([c0, c1, c2, c3].drop 1).take (Tryz.prog.cellsOf 3)) = some y1 := hg 1 _ rfl
      have g2 : DataW.trod enc Tryz.prog W base spare held n 3 (([c0, c1, c2, c3].drop 2).take (Tryz.prog.cellsOf 3)) = some y2 := hg 2 _ rfl
      have g3 : DataW.trod enc Tryz.prog W base spare held n 3 (([c0, c1, c2, c3].drop 3).take (Tryz.prog.cellsOf 3)) = some y3 := hg 3 _ rfl
      rw [k1] at g0
      rw [k3] at g1 g2 g3
      obtain ⟨s, e0, _, _⟩ := DataW.trod_string Tryz.underlying9 g0
      obtain ⟨x1, e1, _, _⟩ := DataW.trod_int Tryz.underlying3 g1
      obtain ⟨x2, e2, _, _⟩ := DataW.trod_int Tryz.underlying3 g2
      obtain ⟨x3, e3, _, _⟩ := DataW.trod_int Tryz.underlying3 g3
      simp at e0 e1 e2 e3
      subst e0 e1 e2 e3
      exact ⟨⟨s, x1, x2, x3⟩, rfl⟩
end
theorem trodAll_4 {H : Type} {enc : TypeId × Value → H} {P : Program} {w : World} {base : Nat} {spare : Nat → Bool} {held : Bool} {t0 t1 t2 t3 : TypeId} {args : Array Value} {ds : List (DataW H)} {ps : List MemPlace} (h : DataW.TrodAll enc P w base spare held [t0, t1, t2, t3] args.toList ds ps) :
    ∃ v0 v1 v2 v3 d0 d1 d2 d3 p0 p1 p2 p3, args = #[v0, v1, v2, v3] ∧ ds = [d0, d1, d2, d3] ∧ DataW.Trod enc P w base spare held t0 v0 d0 p0 ∧ DataW.Trod enc P w base spare held t1 v1 d1 p1 ∧ DataW.Trod enc P w base spare held t2 v2 d2 p2 ∧ DataW.Trod enc P w base spare held t3 v3 d3 p3 := by
  obtain ⟨v0, vs0, d0, ds0, p0, q0, hargs, rfl, _, h0, r0⟩ := trodAll_cons h
  obtain ⟨v1, vs1, d1, ds1, p1, q1, rfl, rfl, _, h1, r1⟩ := trodAll_cons r0
  obtain ⟨v2, vs2, d2, ds2, p2, q2, rfl, rfl, _, h2, r2⟩ := trodAll_cons r1
  obtain ⟨v3, vs3, d3, ds3, p3, q3, rfl, rfl, _, h3, r3⟩ := trodAll_cons r2
  obtain ⟨rfl, rfl, _⟩ := trodAll_nil r3
  exact ⟨v0, v1, v2, v3, d0, d1, d2, d3, p0, p1, p2, p3, by cases args; simp_all, rfl, h0, h1, h2, h3⟩
theorem gPow : Tryz.prog.globalNamed "internal/strconv.uint64pow10" = some 1 := by kernel_rfl
theorem tPow : (Tryz.prog.globals[1]?).map (·.type) = some 188 := by kernel_rfl
/-- what the row's condition gives the walk -/
theorem tab_of_laid {W : World} (h : laidMetH Tryz.prog Rows.watchChecksRow.laid W) : Tab W.heap.size W := by
  rw [MakeChecks.laidMetH_plain _ _ _ (by kernel_rfl)] at h
  exact Lib.tabBelow_of_tabIs (Lib.tabIs_of_head (n := 20) gPow tPow Tryz.underlying188 Tryz.underlying165 (by kernel_rfl) (by kernel_rfl) h.tail.tail)
theorem checks_door (os : Os) (args : Array Value) : laidMetH Tryz.prog Rows.watchChecksRow.laid ((World.doorLaid Tryz.prog 400 os).forCall (fun _ _ => 0) ⟨#[], args, []⟩).memory :=
  laidMetH_of_parts3 (fuel := 8) (laidMet_of_run' 8 (by kernel_rfl) (by kernel_rfl)) (by kernel_rfl) (by kernel_rfl)
set_option maxRecDepth 100000 in
theorem watchChecks_lifted (os : Os) (started : os.Started) (H : Type) (enc : TypeId × Value → H) :
    ReturnsInHanded {} Tryz.checked os 3 .any (fun w args => (Rows.watchChecksSpec.pre enc Tryz.prog Tryz.f3 [] false w args ∧ laidMetH Tryz.prog Rows.watchChecksRow.laid w) ∧ sizedMet enc Tryz.prog Tryz.f3 (OpenSpec.ofChange Rows.watchChecksSpec) false w args)
      (Rows.watchChecksSpec.post enc Tryz.prog Tryz.f3 false true false false) := by
  refine returnsInHanded_of_change_and (C := Tryz.checked) (X := fun w _ => laidMetH Tryz.prog Rows.watchChecksRow.laid w) (fun _ _ _ hh h => h.of_heap hh) Tryz.own started (by kernel_rfl) Tryz.func3
    (ChangeSpec.witness_shaped (enc := enc) (C := Tryz.checked) (os := os) (X := fun w _ => laidMetH Tryz.prog Rows.watchChecksRow.laid w) false (World.doorLaid Tryz.prog 400 os) #[.agg #[.slice none 0 0, .slice none 0 0, .slice none 0 0], .agg #[.slice none 0 0, .slice none 0 0, .slice none 0 0], .agg #[.string ⟨#[]⟩, .int .i64 0, .int .i64 0, .int .i64 0], .int .i64 0] 8 rfl (World.shaped_of_RefB (by kernel_rfl) (by kernel_rfl)) (by kernel_rfl) (by kernel_rfl) (by kernel_rfl) (checks_door os _)) ?_
  intro W base args ds gs before hval0 hW hcnd _ hL _
  have hval : ∀ (j : Nat) t v, Tryz.f3.params[j]? = some t → args[j]? = some v → Value.okWide Tryz.prog W .any base t v := hval0
  have hW' := hW
  obtain ⟨p, q, hA0, hV, rfl, hfz, hnd⟩ := hW
  have hA : DataW.TrodAll enc Tryz.prog W 0 (fun _ => true) true Tryz.f3.params.toList args.toList ds p := hA0
  have hAll := hA
  rw [Tryz.params3] at hA hval
  obtain ⟨v0, v1, v2, v3, d0, d1, d2, d3, p0, p1, p2, p3, rfl, rfl, h0, h1, h2, h3⟩ := trodAll_4 hA
  obtain ⟨rfl, rfl⟩ := trodVars_none hV
  obtain ⟨pp, rfl, hpp⟩ := open_plan (hval 0 26 v0 rfl rfl) h0
  obtain ⟨oo, rfl, hoo⟩ := open_plan (hval 1 26 v1 rfl rfl) h1
  obtain ⟨g, rfl⟩ := open_gauge (hval 2 28 v2 rfl rfl) h2
  obtain ⟨n, rfl, rfl, rfl, _⟩ := open_int Tryz.underlying3 (hval 3 3 v3 rfl rfl) h3
  have hlt : ∀ x ∈ p, x.block < W.heap.size := fun x hx => hW'.lt x (by simp [hx])
  refine (LawChecks_any pp oo g n W hpp hoo (tab_of_laid hL)).mono fun e W' ⟨he, hb⟩ => ?_
  subst he
  exact ⟨_, rfl, post_of_below (pa := p) (pv := []) hW' (fun _ _ _ => trodAll_mk1 (shut_bool Tryz.underlying4 true))
    (fun sp hsp => all_stay Tryz.laidOut _ _ _ _ (fun t ht => by
      rw [Tryz.params3] at ht
      simp only [List.mem_cons, List.not_mem_nil, or_false] at ht
      rcases ht with rfl | rfl | rfl | rfl <;> exact ⟨by kernel_rfl, of_decide_eq_true (by kernel_rfl)⟩) hAll (fun x hx => hb.same (hlt x hx)) (fun x hx => hsp x (by simp [hx])))
    (fun _ _ => rfl) rfl hb (ok_one (by kernel_rfl) rfl (okWide_bool_mk Tryz.underlying4 true))⟩
theorem watchChecks_holds : Rows.WatchChecksSaid :=
  OpenClaim.holds_of_wide 3 Tryz.f3 rfl rfl rfl rfl rfl rfl rfl ⟨rfl, rfl, rfl, rfl, rfl⟩ rfl rfl rfl rfl rfl (by kernel_rfl) Tryz.func3 (by kernel_rfl)
    (of_decide_eq_true (by kernel_rfl)) (by unfold Func.isWrapper; first | (rw [if_pos (by decide +kernel)]; kernel_rfl) | (rw [if_neg (by decide +kernel)]; exact ⟨rfl, rfl⟩))
    (fun os started H enc _ => watchChecks_lifted os started H enc)
theorem watchChecksCard_holds : Rows.WatchChecksCardSaid :=
  Claim7.holds_tied_plain_at .later [] [.data, .data, .data] true Rows.watchChecksCard.stood.harness true
    watchChecks_holds (fun _ h => by cases h) (by kernel_rfl) (fun _ h => by cases h) watchChecks_row_tie rfl ⟨rfl, rfl⟩ (by kernel_rfl) rfl
    (fun f fn hf hfn => by
      obtain rfl : f = 3 := Option.some.inj ((show Tryz.prog.funcNamed "underpin/underpinlaw07.WatchChecks" = some 3 by kernel_rfl).symm.trans hf) |>.symm
      obtain rfl : fn = Tryz.f3 := (Option.some.inj (Tryz.func3.symm.trans hfn)).symm
      exact ⟨by kernel_rfl, fun j t ht => by
        rw [Tryz.params3] at ht
        have hm : t ∈ [26, 28, 3] := by
          have := Array.mem_of_getElem? ht
          simpa using this
        have hall : ([26, 28, 3].all fun u => !Tryz.prog.wantsStandIn u) = true := by kernel_rfl
        exact (show Tryz.prog.wantsStandIn t = false by simpa using List.all_eq_true.1 hall t hm)⟩)
    (by kernel_rfl)
end Go.Proofs.YtcgnpndfhhcplaaGreatDoor
