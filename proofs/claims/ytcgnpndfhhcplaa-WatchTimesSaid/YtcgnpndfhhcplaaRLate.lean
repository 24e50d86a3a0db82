/-
  The specification's Response and Late. Conditions: how the plan lies in memory.
-/
import Derived.Test.YtcgnpndfhhcplaaLate
import Derived.Test.YtcgnpndfhhcplaaRCheck
import Derived.Deep.CutRange
namespace Go.Proofs.Ytcgnpndfhhcplaa
open Go.RowKit W7
attribute [local go_sem] Oper.semAt_some
set_option maxHeartbeats 2000000 in
set_option maxRecDepth 100000 in
theorem refResp_any (p : Plan) (n : Int) (B : Nat) (w : World) (hp : PIn w B p) (hB : B ≤ w.heap.size) :
    Calls Try.prog 31 #[.agg #[.slice p.qA p.qs.length p.qc, .slice p.mA p.ms.length p.mc, .slice p.aA p.al.length p.ac], .int .i64 n] w fun e w' => e = .returned (.tuple #[.int .i64 (resV p n), .int .i64 (resE p n)]) ∧ Below w.heap.size w w' := by
  obtain ⟨W0, hW0⟩ : ∃ W0, W0 = w.alloc (.cells #[.slice p.qA p.qs.length p.qc, .slice p.mA p.ms.length p.mc, .slice p.aA p.al.length p.ac] 64) := ⟨_, rfl⟩
  have HB0 := Lib.hid (show Below w.heap.size w W0 by rw [hW0]; exact (Below.refl _ _).alloc (Nat.le_refl _) _)
  have hs0 : w.heap.size < W0.heap.size := by rw [hW0]; simp
  have HQ0 := Lib.hid (show ∀ (X : World), Below W0.heap.size W0 X → X.cell? ⟨w.heap.size, 0, none⟩ = some (.slice p.qA p.qs.length p.qc) ∧ X.cell? ⟨w.heap.size, 1, none⟩ = some (.slice p.mA p.ms.length p.mc) ∧ X.cell? ⟨w.heap.size, 2, none⟩ = some (.slice p.aA p.al.length p.ac) from fun X hX =>
    ⟨(hX.cell (p := ⟨w.heap.size, 0, none⟩) hs0).trans (by rw [hW0]; exact alloc_cell rfl), (hX.cell (p := ⟨w.heap.size, 1, none⟩) hs0).trans (by rw [hW0]; exact alloc_cell rfl), (hX.cell (p := ⟨w.heap.size, 2, none⟩) hs0).trans (by rw [hW0]; exact alloc_cell rfl)⟩)
  have HP := Lib.hid (fun (X : World) (hX : Below W0.heap.size W0 X) => (hp.mono hB).below (HB0.out.trans (hX.mono (Nat.le_of_lt hs0))))
  have HU := Lib.hid (fun (X : World) (hX : Below W0.heap.size W0 X) => show Below w.heap.size w X from HB0.out.trans (hX.mono (Nat.le_of_lt hs0)))
  have hml := hp.mlc
  have hmc := hp.mc2
  have HC := Lib.hid (refCheck_any p w.heap.size W0 (HP.out W0 (Below.refl _ _)) (by omega))
  have HE := Lib.hid (show resE p n = if planErr p = 0 then (if withinB n 0 ((p.ms.length : Int) - 1) then 0 else 7) else planErr p from rfl)
  have HV := Lib.hid (show resV p n = if resE p n = 0 then respV p.ms n.toNat else 0 from rfl)
  have Hok := Lib.hid (fun h => planOk (p := p) h hp.mnm)
  obtain ⟨pe, hpe⟩ : ∃ pe, pe = planErr p := ⟨_, rfl⟩
  rw [← hpe] at HC HE Hok
  obtain ⟨re, hre⟩ : ∃ re, re = resE p n := ⟨_, rfl⟩
  obtain ⟨rv, hrv⟩ : ∃ rv, rv = resV p n := ⟨_, rfl⟩
  rw [← hre] at HE HV ⊢
  rw [← hrv] at HV ⊢
  obtain ⟨q0, q1, q2⟩ := HQ0.out W0 (Below.refl _ _)
  have HW0 := Lib.hid hW0
  clear hW0 hp hpe hre hrv
  go_enter Try.func31, Try.ntmps31
  go_wp2_with (go_at_call 81; fail)
  rw [← HW0.out]
  refine HC.out.mono ?_
  rintro e w1 ⟨rfl, hb1⟩
  have Hb1 := Lib.hid hb1
  have hs1 := hb1.size
  clear hb1 q0 q1 q2
  obtain ⟨q0, q1, q2⟩ := HQ0.out w1 Hb1.out
  cases h1 : (pe != 0)
  rotate_left
  · have e1 : re = pe := by rw [HE.out, if_neg (by simpa using h1)]
    have e2 : rv = 0 := by rw [HV.out, if_neg (by rw [e1]; simpa using h1)]
    have He1 := Lib.hid e1
    have He2 := Lib.hid e2
    have heF : (pe == 0) = false := by simpa using h1
    clear e1 e2
    go_wp2
    refine bodyPost_ret (v := .tuple #[.int .i64 0, .int .i64 pe]) (by simp [results, Try.results31, go_sem]) rfl ?_
    exact ⟨by rw [He1.out, He2.out], HU.out w1 Hb1.out⟩
  have hp0 : pe = 0 := by simpa using h1
  have Hp0 := Lib.hid hp0
  clear hp0
  have HW := Lib.hid (show withinB n 0 ((p.ms.length : Int) - 1) = (!decide (n < 0) && !decide ((p.ms.length : Int) ≤ n)) by
    rw [Bool.eq_iff_iff]
    simp only [Bool.and_eq_true, withinB_true, Bool.not_eq_true', decide_eq_false_iff_not]
    omega)
  have he0 : (pe == 0) = true := by rw [Hp0.out]; rfl
  cases t1 : decide (n < 0)
  rotate_left
  · have He1 := Lib.hid (show re = 7 by rw [HE.out, if_pos Hp0.out, HW.out, t1]; rfl)
    have He2 := Lib.hid (show rv = 0 by rw [HV.out, He1.out]; rfl)
    go_wp2
    refine bodyPost_ret (v := .tuple #[.int .i64 0, .int .i64 7]) (by simp [results, Try.results31, go_sem]) rfl ?_
    exact ⟨by rw [He1.out, He2.out], HU.out w1 Hb1.out⟩
  cases t2 : decide ((p.ms.length : Int) ≤ n)
  rotate_left
  · have He1 := Lib.hid (show re = 7 by rw [HE.out, if_pos Hp0.out, HW.out, t1, t2]; rfl)
    have He2 := Lib.hid (show rv = 0 by rw [HV.out, He1.out]; rfl)
    go_wp2
    refine bodyPost_ret (v := .tuple #[.int .i64 0, .int .i64 7]) (by simp [results, Try.results31, go_sem]) rfl ?_
    exact ⟨by rw [He1.out, He2.out], HU.out w1 Hb1.out⟩
  have hn1 := of_decide_eq_false t1
  have hn2 := of_decide_eq_false t2
  have He1 := Lib.hid (show re = 0 by rw [HE.out, if_pos Hp0.out, HW.out, t1, t2]; rfl)
  obtain ⟨k, rfl⟩ : ∃ k : Nat, n = (k : Int) := ⟨n.toNat, by omega⟩
  have He2 := Lib.hid (show rv = respV p.ms k by rw [HV.out, if_pos He1.out, Int.toNat_natCast])
  have HRe := Lib.hid (refResponse_any p k w.heap.size w1 (HP.out w1 Hb1.out) (by omega) (by omega) (Hok.out Hp0.out).m)
  rw [← He2.out] at HRe
  go_wp2_with (go_at_call 34; fail)
  refine HRe.out.mono ?_
  rintro e w3 ⟨rfl, hb3⟩
  go_wp2
  refine bodyPost_ret (v := .tuple #[.int .i64 rv, .int .i64 0]) (by simp [results, Try.results31, go_sem]) rfl ?_
  exact ⟨by rw [He1.out], (HU.out w1 Hb1.out).trans (hb3.mono (by omega))⟩
set_option maxHeartbeats 2000000 in
set_option maxRecDepth 100000 in
theorem refLate_any (p : Plan) (B : Nat) (w : World) (hp : PIn w B p) (hB : B ≤ w.heap.size) :
    Calls Try.prog 33 #[.agg #[.slice p.qA p.qs.length p.qc, .slice p.mA p.ms.length p.mc, .slice p.aA p.al.length p.ac]] w (LateR p w) := by
  obtain ⟨QQ, hQQ⟩ : ∃ QQ, p.qA = QQ := ⟨_, rfl⟩
  obtain ⟨AA, hAA⟩ : ∃ AA, p.aA = AA := ⟨_, rfl⟩
  rw [hQQ, hAA]
  obtain ⟨W0, hW0⟩ : ∃ W0, W0 = w.alloc (.cells #[.slice QQ p.qs.length p.qc, .slice p.mA p.ms.length p.mc, .slice AA p.al.length p.ac] 64) := ⟨_, rfl⟩
  have HB0 := Lib.hid (show Below w.heap.size w W0 by rw [hW0]; exact (Below.refl _ _).alloc (Nat.le_refl _) _)
  have hs0 : w.heap.size < W0.heap.size := by rw [hW0]; simp
  have HQ0 := Lib.hid (show ∀ (X : World), Below W0.heap.size W0 X → X.cell? ⟨w.heap.size, 0, none⟩ = some (.slice QQ p.qs.length p.qc) ∧ X.cell? ⟨w.heap.size, 1, none⟩ = some (.slice p.mA p.ms.length p.mc) ∧ X.cell? ⟨w.heap.size, 2, none⟩ = some (.slice AA p.al.length p.ac) from fun X hX =>
    ⟨(hX.cell (p := ⟨w.heap.size, 0, none⟩) hs0).trans (by rw [hW0]; exact alloc_cell rfl), (hX.cell (p := ⟨w.heap.size, 1, none⟩) hs0).trans (by rw [hW0]; exact alloc_cell rfl), (hX.cell (p := ⟨w.heap.size, 2, none⟩) hs0).trans (by rw [hW0]; exact alloc_cell rfl)⟩)
  have HP := Lib.hid (fun (X : World) (hX : Below W0.heap.size W0 X) => (hp.mono hB).below (HB0.out.trans (hX.mono (Nat.le_of_lt hs0))))
  have HU := Lib.hid (fun (X : World) (hX : Below W0.heap.size W0 X) => show Below w.heap.size w X from HB0.out.trans (hX.mono (Nat.le_of_lt hs0)))
  have HQs := Lib.hid (fun (X : World) (hX : Below W0.heap.size W0 X) => show Sl X w.heap.size 7 encQ QQ p.qs by rw [← hQQ]; exact (HP.out X hX).qsl)
  have HAs := Lib.hid (fun (X : World) (hX : Below W0.heap.size W0 X) => show Sl X w.heap.size 4 encA AA p.al by rw [← hAA]; exact (HP.out X hX).asl)
  have HC := Lib.hid (refCheck_any p w.heap.size W0 (HP.out W0 (Below.refl _ _)) (by omega))
  rw [hQQ, hAA] at HC
  have HRe := Lib.hid (fun (X : World) (hX : Below W0.heap.size W0 X) (n : Nat) (hn : n < p.ms.length) (hok : MOk p.ms) => refResponse_any p n w.heap.size X (HP.out X hX) (by have := hX.size; omega) hn hok)
  rw [hQQ, hAA] at HRe
  have Hok := Lib.hid (fun h => planOk (p := p) h hp.mnm)
  have hal := hp.alc
  have hac := hp.ac2
  have hql := hp.qlc
  have hqc := hp.qc2
  obtain ⟨pe, hpe⟩ : ∃ pe, pe = planErr p := ⟨_, rfl⟩
  rw [← hpe] at HC Hok
  have HLe := Lib.hid (show LateR p w = fun e w' => ∃ v, e = .returned (.tuple #[v, .int .i64 pe]) ∧ w'.ownsRow w.heap.size 3 1 v (lateV p).length ((lateV p).map (.int .i64)) ∧ Below w.heap.size w w' by rw [hpe]; rfl)
  have HLv := Lib.hid (show lateV p = if pe = 0 then lateAt p p.al.length else [] by rw [hpe]; rfl)
  rw [HLe.out]
  obtain ⟨q0, q1, q2⟩ := HQ0.out W0 (Below.refl _ _)
  have HW0 := Lib.hid hW0
  clear hW0 hp hpe hQQ hAA
  go_enter Try.func33, Try.ntmps33
  go_wp2_with (go_at_call 81; fail)
  rw [← HW0.out]
  refine HC.out.mono ?_
  rintro e w1 ⟨rfl, hb1⟩
  have Hb1 := Lib.hid hb1
  have hs1 := hb1.size
  clear hb1 q0 q1 q2
  obtain ⟨q0, q1, q2⟩ := HQ0.out w1 Hb1.out
  cases h1 : (pe != 0)
  rotate_left
  · have He2 := Lib.hid (show lateV p = [] by rw [HLv.out, if_neg (by simpa using h1)])
    go_wp2
    refine bodyPost_ret (v := .tuple #[.slice none 0 0, .int .i64 pe]) (by simp [results, Try.results33, go_sem]) rfl ?_
    exact ⟨_, rfl, by rw [He2.out]; exact World.ownsRow_nil _ _ _ _, HU.out w1 Hb1.out⟩
  have hp0 : pe = 0 := by simpa using h1
  have Hp0 := Lib.hid hp0
  have HG := Lib.hid (Hok.out hp0)
  have h16 := HG.out.a16
  clear hp0
  go_wp2
  clear h1 q0 q1 q2
  go_loopw [5, 6] (fun v5 v17 wr => ∃ k : Nat, k ≤ p.al.length ∧ v17 = .int .i64 k ∧ Hid (wr.ownsRow W0.heap.size 3 1 v5 (lateAt p k).length ((lateAt p k).map (.int .i64))) ∧ Hid (Below W0.heap.size W0 wr)) (fun _ v17 _ => p.al.length - (intOf v17).toNat)
  case atStart => exact ⟨0, by omega, rfl, Lib.hid (World.ownsRow_nil _ _ _ _), Hb1⟩
  case round =>
    obtain ⟨k, hk, rfl, Ho, Hb⟩ := hrel
    have hsz := Hb.out.size
    have hwr : w.heap.size < wr.heap.size := by omega
    by_cases hlt : k < p.al.length
    · have HAl := Lib.hid (HAs.out wr Hb.out)
      obtain ⟨b, off, rfl, hbB, hcells⟩ := HAl.out (by omega)
      have hbr : b < wr.heap.size := by omega
      have ho := HG.out.a p.al[k] (List.getElem_mem hlt)
      have c0 : wr.cell? ⟨b, off + k * 4, none⟩ = some (.int .i64 p.al[k].q) := hcells k hlt 0 _ rfl
      have c1 : wr.cell? ⟨b, off + k * 4 + 1, none⟩ = some (.int .i64 p.al[k].level) := hcells k hlt 1 _ rfl
      have c2 : wr.cell? ⟨b, off + k * 4 + 2, none⟩ = some (.int .i64 p.al[k].limit) := hcells k hlt 2 _ rfl
      have c3 : wr.cell? ⟨b, off + k * 4 + 3, none⟩ = some (.int .i64 p.al[k].m) := hcells k hlt 3 _ rfl
      have HSu := Lib.hid (lateAt_succ p k hlt)
      obtain ⟨a, ha⟩ : ∃ a, a = p.al[k] := ⟨_, rfl⟩
      rw [← ha] at c0 c1 c2 c3 HSu ho
      obtain ⟨qn, hqn⟩ : ∃ qn : Nat, a.q = (qn : Int) := ⟨a.q.toNat, by omega⟩
      obtain ⟨mn, hmn⟩ : ∃ mn : Nat, a.m = (mn : Int) := ⟨a.m.toNat, by omega⟩
      have hqn2 : qn < p.qs.length := by omega
      have hmn2 : mn < p.ms.length := by omega
      have HLt : Hid (lateB p a = (decide (a.level < (p.qs[qn]'hqn2).hi) || decide (a.limit < a.level + (p.qs[qn]'hqn2).rise * (respV p.ms mn + 1)))) := Lib.hid (by
        unfold lateB; rw [hqn, hmn, Int.toNat_natCast, Int.toNat_natCast, getD_lt hqn2])
      rw [hqn] at c0
      rw [hmn] at c3
      obtain ⟨bq, offq, rfl, hbqB, hqcells⟩ := (HQs.out wr Hb.out) (by omega)
      have hbqr : bq < wr.heap.size := by omega
      have hqo := HG.out.q (p.qs[qn]'hqn2) (List.getElem_mem hqn2)
      have g0 : wr.cell? ⟨bq, offq + qn * 7, none⟩ = some (.string (p.qs[qn]'hqn2).name) := hqcells qn hqn2 0 _ rfl
      have g1 : wr.cell? ⟨bq, offq + qn * 7 + 1, none⟩ = some (.int .i64 (p.qs[qn]'hqn2).lo) := hqcells qn hqn2 1 _ rfl
      have g2 : wr.cell? ⟨bq, offq + qn * 7 + 2, none⟩ = some (.int .i64 (p.qs[qn]'hqn2).hi) := hqcells qn hqn2 2 _ rfl
      have g3 : wr.cell? ⟨bq, offq + qn * 7 + 3, none⟩ = some (.int .i64 (p.qs[qn]'hqn2).rise) := hqcells qn hqn2 3 _ rfl
      have g4 : wr.cell? ⟨bq, offq + qn * 7 + 4, none⟩ = some (.int .i64 (p.qs[qn]'hqn2).fall) := hqcells qn hqn2 4 _ rfl
      have g5 : wr.cell? ⟨bq, offq + qn * 7 + 5, none⟩ = some (.int .i64 (p.qs[qn]'hqn2).bad) := hqcells qn hqn2 5 _ rfl
      have g6 : wr.cell? ⟨bq, offq + qn * 7 + 6, none⟩ = some (.slice (p.qs[qn]'hqn2).gA (p.qs[qn]'hqn2).gs.length (p.qs[qn]'hqn2).gc) := hqcells qn hqn2 6 _ rfl
      obtain ⟨qq, hqq⟩ : ∃ qq, qq = p.qs[qn]'hqn2 := ⟨_, rfl⟩
      rw [← hqq] at g0 g1 g2 g3 g4 g5 g6 hqo HLt
      obtain ⟨q0, q1, q2⟩ := HQ0.out wr Hb.out
      have hqI : (qn : Int) < (p.qs.length : Int) := by omega
      have hrb := respV_bnd HG.out.m mn hmn2
      obtain ⟨Rv, hRv⟩ : ∃ r, r = respV p.ms mn := ⟨_, rfl⟩
      have HRb := Lib.hid (fun (X : World) (hX : Below W0.heap.size W0 X) => HRe.out X hX mn hmn2 HG.out.m)
      rw [← hRv] at hrb HLt HRb
      have hPb : 0 ≤ qq.rise * (Rv + 1) ∧ qq.rise * (Rv + 1) ≤ 40000000000 := by
        have k1 : 0 ≤ qq.rise * (Rv + 1) := Int.mul_nonneg (by omega) (by omega)
        have k2 : qq.rise * (Rv + 1) ≤ 10000 * (Rv + 1) := Int.mul_le_mul_of_nonneg_right (by omega) (by omega)
        omega
      clear ha hcells hqcells hqq hqn hmn hRv
      obtain ⟨W2, hW2⟩ : ∃ W2, W2 = (wr.alloc (.cells #[.int .i64 (qn : Int), .int .i64 a.level, .int .i64 a.limit, .int .i64 (mn : Int)] 105)).alloc (.cells #[.string qq.name, .int .i64 qq.lo, .int .i64 qq.hi, .int .i64 qq.rise, .int .i64 qq.fall, .int .i64 qq.bad, .slice qq.gA qq.gs.length qq.gc] 26) := ⟨_, rfl⟩
      go_upto_region 10 with fail
      rw [← hW2]
      have HbW2 := Lib.hid (show Below W0.heap.size W0 W2 by rw [hW2]; exact (Hb.out.alloc (by omega) _).alloc (by simp; omega) _)
      have hs2 : wr.heap.size + 1 < W2.heap.size := by rw [hW2]; simp
      have HbX2 := Lib.hid (show Below wr.heap.size wr W2 by rw [hW2]; exact ((Below.refl _ _).alloc (Nat.le_refl _) _).alloc (by simp) _)
      have Ho2 := Lib.hid (own_below Ho.out HbX2.out)
      have HAc := Lib.hid (show ∀ j v, (#[.int .i64 (qn : Int), .int .i64 a.level, .int .i64 a.limit, .int .i64 (mn : Int)] : Array Value)[j]? = some v → W2.cell? ⟨wr.heap.size, j, none⟩ = some v from fun j v hv => by
        rw [hW2, World.cell?_alloc_lt _ _ _ (by simp)]; exact alloc_cell hv)
      have HQc := Lib.hid (show ∀ j v, (#[.string qq.name, .int .i64 qq.lo, .int .i64 qq.hi, .int .i64 qq.rise, .int .i64 qq.fall, .int .i64 qq.bad, .slice qq.gA qq.gs.length qq.gc] : Array Value)[j]? = some v → W2.cell? ⟨wr.heap.size + 1, j, none⟩ = some v from fun j v hv => by
        rw [hW2]
        have h := alloc_cell (w := wr.alloc (.cells #[.int .i64 (qn : Int), .int .i64 a.level, .int .i64 a.limit, .int .i64 (mn : Int)] 105)) (e := 26) hv
        rwa [World.size_alloc] at h)
      have m1 := later_cell (show W2.cell? ⟨wr.heap.size, 1, none⟩ = some (.int .i64 a.level) from HAc.out 1 _ rfl) (by omega)
      have m2 := later_cell (show W2.cell? ⟨wr.heap.size, 2, none⟩ = some (.int .i64 a.limit) from HAc.out 2 _ rfl) (by omega)
      have m3 := later_cell (show W2.cell? ⟨wr.heap.size, 3, none⟩ = some (.int .i64 (mn : Int)) from HAc.out 3 _ rfl) (by omega)
      have n2 := later_cell (show W2.cell? ⟨wr.heap.size + 1, 2, none⟩ = some (.int .i64 qq.hi) from HQc.out 2 _ rfl) hs2
      have n3 := later_cell (show W2.cell? ⟨wr.heap.size + 1, 3, none⟩ = some (.int .i64 qq.rise) from HQc.out 3 _ rfl) hs2
      obtain ⟨y0, y1, y2⟩ := HQ0.out W2 HbW2.out
      have l0 := later_cell y0 (by omega)
      have l1 := later_cell y1 (by omega)
      have l2 := later_cell y2 (by omega)
      have HRl := Lib.hid (fun (e : Later W2) => HRb.out e.w (HbW2.out.trans (e.b.mono (by omega))))
      clear hW2 c0 c1 c2 c3 g0 g1 g2 g3 g4 g5 g6 q0 q1 q2 y0 y1 y2
      cases h1 : decide (a.level < qq.hi)
      rotate_left
      · have hlb : lateB p a = true := by rw [HLt.out, h1]; rfl
        refine wp_region_later (by kernel_rfl) (by kernel_rfl) ?_
        repeat (any_goals (first | go_big_quiet_step ((fail)) | quiet_step ((fail))))
        refine wpQuiet_nil ?_
        rintro w' ⟨e, rfl⟩
        have hse : W2.heap.size ≤ e.w.heap.size := e.b.size
        have HoE := Lib.hid (own_below Ho2.out e.b)
        have HSn := Lib.hid (show lateAt p (k + 1) = lateAt p k ++ [(k : Int)] by rw [HSu.out, hlb]; rfl)
        have hll : (lateAt p k).length ≤ k := selN_len _ _
        clear hlb
        go_wp2_with (at_builtin; refine wpList_append1 rfl _ _ 35 rfl W0.heap.size 3 _ 1 8 elemInt _ _ _ rfl HoE.out #[.int .i64 (k : Int)] 1 _ rfl (by simp) rfl (by simp [Value.oneCell']) (by omega) (by omega) ?_; intro v6 w6 hown6 hb6 hsz6 hg6 hblk6; have Ho6 := Lib.hid hown6; have Hb6 := Lib.hid hb6; clear hown6 hb6 hsz6 hg6 hblk6)
        go_roundw
        case rel => exact ⟨k + 1, by omega, by go_num, Lib.hid (by rw [HSn.out, List.length_append, List.map_append]; exact Ho6.out), Lib.hid ((HbW2.out.trans (e.b.mono (by omega))).trans Hb6.out)⟩
        case measure => simp [intOf]; omega
      cases h2 : decide (a.limit < a.level + qq.rise * (Rv + 1))
      · have HSn := Lib.hid (show lateAt p (k + 1) = lateAt p k by rw [HSu.out, HLt.out, h1, h2]; simp)
        refine wp_region_later (by kernel_rfl) (by kernel_rfl) ?_
        repeat (any_goals (first | go_big_quiet_step ((go_at_call 63; exact later_call _ (HRl.out _))) | quiet_step ((go_at_call 63; exact later_call _ (HRl.out _)))))
        refine wpQuiet_nil ?_
        rintro w' ⟨e, rfl⟩
        go_wp2
        go_roundw
        case rel => exact ⟨k + 1, by omega, by go_num, Lib.hid (by rw [HSn.out]; exact own_below Ho2.out e.b), Lib.hid (HbW2.out.trans (e.b.mono (by omega)))⟩
        case measure => simp [intOf]; omega
      · have hlb : lateB p a = true := by rw [HLt.out, h1, h2]; rfl
        refine wp_region_later (by kernel_rfl) (by kernel_rfl) ?_
        repeat (any_goals (first | go_big_quiet_step ((go_at_call 63; exact later_call _ (HRl.out _))) | quiet_step ((go_at_call 63; exact later_call _ (HRl.out _)))))
        refine wpQuiet_nil ?_
        rintro w' ⟨e, rfl⟩
        have hse : W2.heap.size ≤ e.w.heap.size := e.b.size
        have HoE := Lib.hid (own_below Ho2.out e.b)
        have HSn := Lib.hid (show lateAt p (k + 1) = lateAt p k ++ [(k : Int)] by rw [HSu.out, hlb]; rfl)
        have hll : (lateAt p k).length ≤ k := selN_len _ _
        clear hlb
        go_wp2_with (at_builtin; refine wpList_append1 rfl _ _ 35 rfl W0.heap.size 3 _ 1 8 elemInt _ _ _ rfl HoE.out #[.int .i64 (k : Int)] 1 _ rfl (by simp) rfl (by simp [Value.oneCell']) (by omega) (by omega) ?_; intro v6 w6 hown6 hb6 hsz6 hg6 hblk6; have Ho6 := Lib.hid hown6; have Hb6 := Lib.hid hb6; clear hown6 hb6 hsz6 hg6 hblk6)
        go_roundw
        case rel => exact ⟨k + 1, by omega, by go_num, Lib.hid (by rw [HSn.out, List.length_append, List.map_append]; exact Ho6.out), Lib.hid ((HbW2.out.trans (e.b.mono (by omega))).trans Hb6.out)⟩
        case measure => simp [intOf]; omega
    · obtain rfl : k = p.al.length := by omega
      have He2 := Lib.hid (show lateV p = lateAt p p.al.length by rw [HLv.out, if_pos Hp0.out])
      obtain ⟨q0, q1, q2⟩ := HQ0.out wr Hb.out
      go_wp2
      refine bodyPost_ret (v := .tuple #[u5, .int .i64 0]) (by simp [results, Try.results33, go_sem]) rfl ?_
      exact ⟨_, by rw [Hp0.out], by rw [He2.out]; exact own_mono Ho.out (by omega), HU.out wr Hb.out⟩
end Go.Proofs.Ytcgnpndfhhcplaa
