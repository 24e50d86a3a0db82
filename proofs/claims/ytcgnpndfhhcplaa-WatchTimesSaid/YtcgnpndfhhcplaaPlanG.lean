/-
  Plain: what a valid plan satisfies; package watch's Response. Conditions: how the plan lies in memory.
-/
import Derived.Test.YtcgnpndfhhcplaaResp
import Derived.Test.YtcgnpndfhhcplaaGood
namespace Go.Proofs.Ytcgnpndfhhcplaa
open Go.RowKit W7
structure PlanOk (p : Plan) : Prop where
  m : MOk p.ms
  a16 : p.al.length ≤ 16
  a : ∀ a ∈ p.al, (0 ≤ a.q ∧ a.q < (p.qs.length : Int)) ∧ (0 ≤ a.m ∧ a.m < (p.ms.length : Int)) ∧ (-1000000000 ≤ a.level ∧ a.level ≤ 1000000000) ∧ (-1000000000 ≤ a.limit ∧ a.limit ≤ 1000000000)
  q : ∀ q ∈ p.qs, (-1000000000 ≤ q.lo ∧ q.lo ≤ 1000000000) ∧ (-1000000000 ≤ q.hi ∧ q.hi ≤ 1000000000) ∧ (0 ≤ q.rise ∧ q.rise ≤ 10000)
theorem planOk {p : Plan} (h : planErr p = 0) (hin : ∀ m ∈ p.ms, m.name.size ≤ 9223372036854775807 ∧ m.crew.size ≤ 9223372036854775807) : PlanOk p := by
  unfold planErr at h
  split at h
  case isFalse h0 => exact absurd h h0
  rename_i h1
  split at h
  case isFalse h0 => exact absurd h h0
  rename_i h2
  split at h
  case isFalse => exact absurd h (by decide)
  rename_i h3
  refine ⟨?_, h3, fun a ha => ?_, fun q hq => ?_⟩
  · unfold msErr at h2
    split at h2
    case isFalse => exact absurd h2 (by decide)
    rename_i h4
    refine ⟨h4, fun m hm => ⟨hin m hm, ?_⟩⟩
    obtain ⟨i, hi, rfl⟩ := List.mem_iff_getElem.1 hm
    have h5 := firstErr_zero.1 h2 i hi
    unfold mErrAt at h5
    rw [getD_lt hi] at h5
    split at h5
    case isFalse => exact absurd h5 (by decide)
    split at h5
    case isTrue => exact absurd h5 (by decide)
    split at h5
    case isFalse => exact absurd h5 (by decide)
    rename_i h6
    unfold mTimeB at h6
    rw [Bool.and_eq_true, Bool.and_eq_true, isTm_true, isTm_true, isTm_true] at h6
    omega
  · obtain ⟨i, hi, rfl⟩ := List.mem_iff_getElem.1 ha
    have h5 := firstErr_zero.1 h i hi
    unfold aErrAt at h5
    rw [getD_lt hi] at h5
    split at h5
    case isFalse => exact absurd h5 (by decide)
    rename_i h6
    split at h5
    case isFalse => exact absurd h5 (by decide)
    rename_i h7
    rw [Bool.and_eq_true, withinB_true, withinB_true] at h6
    rw [Bool.and_eq_true, isVal_true, isVal_true] at h7
    omega
  · unfold qsErr at h1
    split at h1
    case isFalse => exact absurd h1 (by decide)
    obtain ⟨i, hi, rfl⟩ := List.mem_iff_getElem.1 hq
    have h5 := firstErr_zero.1 h1 i hi
    unfold qErrAt at h5
    rw [getD_mem _ _ hi] at h5
    split at h5
    case isFalse => exact absurd h5 (by decide)
    split at h5
    case isTrue => exact absurd h5 (by decide)
    obtain ⟨g1, g2, _, g4, _⟩ := goodQ _ h5
    exact ⟨g1, g2, g4⟩
/-- the error of Response, and its value -/
def resE (p : Plan) (n : Int) : Int := if planErr p = 0 then (if withinB n 0 ((p.ms.length : Int) - 1) then 0 else 7) else planErr p
def resV (p : Plan) (n : Int) : Int := if resE p n = 0 then respV p.ms n.toNat else 0
set_option maxHeartbeats 2000000 in
set_option maxRecDepth 100000 in
theorem Response_any (p : Plan) (n : Int) (B : Nat) (w : World) (hp : PIn w B p) (hB : B ≤ w.heap.size) :
    Calls Try.prog 30 #[.agg #[.slice p.qA p.qs.length p.qc, .slice p.mA p.ms.length p.mc, .slice p.aA p.al.length p.ac], .int .i64 n] w fun e w' => e = .returned (.tuple #[.int .i64 (resV p n), .int .i64 (resE p n)]) ∧ Below w.heap.size w w' := by
  obtain ⟨W0, hW0⟩ : ∃ W0, W0 = w.alloc (.cells #[.slice p.qA p.qs.length p.qc, .slice p.mA p.ms.length p.mc, .slice p.aA p.al.length p.ac] 64) := ⟨_, rfl⟩
  have HB0 := Lib.hid (show Below w.heap.size w W0 by rw [hW0]; exact (Below.refl _ _).alloc (Nat.le_refl _) _)
  have hs0 : w.heap.size < W0.heap.size := by rw [hW0]; simp
  have HQ0 := Lib.hid (show ∀ (X : World), Below W0.heap.size W0 X → X.cell? ⟨w.heap.size, 0, none⟩ = some (.slice p.qA p.qs.length p.qc) ∧ X.cell? ⟨w.heap.size, 1, none⟩ = some (.slice p.mA p.ms.length p.mc) ∧ X.cell? ⟨w.heap.size, 2, none⟩ = some (.slice p.aA p.al.length p.ac) from fun X hX =>
    ⟨(hX.cell (p := ⟨w.heap.size, 0, none⟩) hs0).trans (by rw [hW0]; exact alloc_cell rfl), (hX.cell (p := ⟨w.heap.size, 1, none⟩) hs0).trans (by rw [hW0]; exact alloc_cell rfl), (hX.cell (p := ⟨w.heap.size, 2, none⟩) hs0).trans (by rw [hW0]; exact alloc_cell rfl)⟩)
  have HP := Lib.hid (fun (X : World) (hX : Below W0.heap.size W0 X) => (hp.mono hB).below (HB0.out.trans (hX.mono (Nat.le_of_lt hs0))))
  have HU := Lib.hid (fun (X : World) (hX : Below W0.heap.size W0 X) => show Below w.heap.size w X from HB0.out.trans (hX.mono (Nat.le_of_lt hs0)))
  have hml := hp.mlc
  have hmc := hp.mc2
  have HC := Lib.hid (Check_any p w.heap.size W0 (HP.out W0 (Below.refl _ _)) (by omega))
  have HE := Lib.hid (show resE p n = if planErr p = 0 then (if withinB n 0 ((p.ms.length : Int) - 1) then 0 else 7) else planErr p from rfl)
  have HV := Lib.hid (show resV p n = if resE p n = 0 then respV p.ms n.toNat else 0 from rfl)
  have Hok := Lib.hid (fun h => planOk (p := p) h hp.mnm)
  obtain ⟨pe, hpe⟩ : ∃ pe, pe = planErr p := ⟨_, rfl⟩
  rw [← hpe] at HC HE Hok
  obtain ⟨re, hre⟩ : ∃ re, re = resE p n := ⟨_, rfl⟩
  obtain ⟨rv, hrv⟩ : ∃ rv, rv = resV p n := ⟨_, rfl⟩
  rw [← hre] at HE HV ⊢
  rw [← hrv] at HV ⊢
  obtain ⟨q0, q1, q2⟩ := HQ0.out W0 (Below.refl _ _)
  have HWi := Lib.hid (within_any n 0 ((p.ms.length : Int) - 1))
  have HW0 := Lib.hid hW0
  clear hW0 hp hpe hre hrv
  go_enter Try.func30, Try.ntmps30
  go_wp2_with (go_at_call 81; fail)
  rw [← HW0.out]
  refine HC.out.mono ?_
  rintro e w1 ⟨rfl, hb1⟩
  have Hb1 := Lib.hid hb1
  have hs1 := hb1.size
  clear hb1 q0 q1 q2
  obtain ⟨q0, q1, q2⟩ := HQ0.out w1 Hb1.out
  cases h1 : (pe != 0)
  rotate_left
  · have e1 : re = pe := by rw [HE.out, if_neg (by simpa using h1)]
    have e2 : rv = 0 := by rw [HV.out, if_neg (by rw [e1]; simpa using h1)]
    have He1 := Lib.hid e1
    have He2 := Lib.hid e2
    clear e1 e2
    go_wp2
    refine bodyPost_ret (v := .tuple #[.int .i64 0, .int .i64 pe]) (by simp [results, Try.results30, go_sem]) rfl ?_
    exact ⟨by rw [He1.out, He2.out], HU.out w1 Hb1.out⟩
  have hp0 : pe = 0 := by simpa using h1
  have Hp0 := Lib.hid hp0
  clear hp0
  go_wp2_with (go_at_call 81; fail)
  cases hwi : withinB n 0 ((p.ms.length : Int) - 1)
  · have He1 := Lib.hid (show re = 7 by rw [HE.out, if_pos Hp0.out, hwi]; rfl)
    have He2 := Lib.hid (show rv = 0 by rw [HV.out, He1.out]; rfl)
    rw [hwi] at HWi
    refine (HWi.out _).mono ?_
    rintro e w2 ⟨rfl, rfl⟩
    go_wp2
    refine bodyPost_ret (v := .tuple #[.int .i64 0, .int .i64 7]) (by simp [results, Try.results30, go_sem]) rfl ?_
    exact ⟨by rw [He1.out, He2.out], HU.out w1 Hb1.out⟩
  have hn := withinB_true.1 hwi
  obtain ⟨k, rfl⟩ : ∃ k : Nat, n = (k : Int) := ⟨n.toNat, by omega⟩
  have He1 := Lib.hid (show re = 0 by rw [HE.out, if_pos Hp0.out, hwi]; rfl)
  have He2 := Lib.hid (show rv = respV p.ms k by rw [HV.out, if_pos He1.out, Int.toNat_natCast])
  have HRe := Lib.hid (response_any p k w.heap.size w1 (HP.out w1 Hb1.out) (by omega) (by omega) (Hok.out Hp0.out).m)
  rw [← He2.out] at HRe
  rw [hwi] at HWi
  refine (HWi.out _).mono ?_
  rintro e w2 ⟨rfl, rfl⟩
  clear hwi
  go_wp2_with (go_at_call 81; fail)
  refine HRe.out.mono ?_
  rintro e w3 ⟨rfl, hb3⟩
  go_wp2
  refine bodyPost_ret (v := .tuple #[.int .i64 rv, .int .i64 0]) (by simp [results, Try.results30, go_sem]) rfl ?_
  exact ⟨by rw [He1.out], (HU.out w1 Hb1.out).trans (hb3.mono (by omega))⟩
end Go.Proofs.Ytcgnpndfhhcplaa
