/-
  Package watch's Margin. Conditions: bounds.
-/
import Derived.Test.YtcgnpndfhhcplaaGreatDoorQs
import Derived.Test.YtcgnpndfhhcplaaGreatDoorGood
namespace Go.Proofs.YtcgnpndfhhcplaaGreatDoor
open Go.RowKit W7
def marE (q : Quantity) (p u : Int) : Int := if qsErr [q] = 0 then (if withinB p 1 100000 && isTm u then (if (q.gs.length : Int) ≤ 2 * q.bad then 9 else 0) else 1) else qsErr [q]
def worstAt (gs : List Gauge) (u : Int) (k : Nat) : Int := (gs.take k).foldl (fun a g => max a (devi g u)) 0
def worstL (gs : List Gauge) (u : Int) : Int := gs.foldl (fun a g => max a (devi g u)) 0
theorem worstAt_succ (gs : List Gauge) (u : Int) (k : Nat) (h : k < gs.length) : worstAt gs u (k + 1) = max (worstAt gs u k) (devi gs[k] u) := by
  unfold worstAt; rw [List.take_succ_eq_append_getElem h, List.foldl_append]; rfl
theorem worstAt_all (gs : List Gauge) (u : Int) : worstAt gs u gs.length = worstL gs u := by simp [worstAt, worstL]
def marV (q : Quantity) (p u : Int) : Int := if marE q p u = 0 then 2 * worstL q.gs u + (q.rise + q.fall) * p else 0
theorem worstAt_bnd {gs : List Gauge} {u : Int} (hu : 0 ≤ u ∧ u ≤ 100000) (hg : ∀ g ∈ gs, 0 ≤ g.acc ∧ g.acc ≤ 1000000000 ∧ 0 ≤ g.drift ∧ g.drift ≤ 1000000000 ∧ 0 ≤ g.since ∧ g.since ≤ 100000) :
    ∀ k, k ≤ gs.length → 0 ≤ worstAt gs u k ∧ worstAt gs u k ≤ 102000000000 := by
  intro k
  induction k with
  | zero => intro _; simp [worstAt]
  | succ k ih =>
    intro hk
    rw [worstAt_succ gs u k (by omega)]
    have h1 := ih (by omega)
    have h2 := devi_bnd (hg gs[k] (List.getElem_mem _)) hu
    omega
set_option maxHeartbeats 400000 in
set_option maxRecDepth 100000 in
theorem Margin_any (q : Quantity) (p u : Int) (B : Nat) (w : World) (hq : QIn w B q) (hB : B ≤ w.heap.size) :
    Calls Tryz.prog 21 #[.agg #[.string q.name, .int .i64 q.lo, .int .i64 q.hi, .int .i64 q.rise, .int .i64 q.fall, .int .i64 q.bad, .slice q.gA q.gs.length q.gc], .int .i64 p, .int .i64 u] w fun e w' =>
      e = .returned (.tuple #[.int .i64 (marV q p u), .int .i64 (marE q p u)]) ∧ Below w.heap.size w w' := by
  obtain ⟨cs, hcs⟩ : ∃ cs : Array Value, cs = #[.string q.name, .int .i64 q.lo, .int .i64 q.hi, .int .i64 q.rise, .int .i64 q.fall, .int .i64 q.bad, .slice q.gA q.gs.length q.gc] := ⟨_, rfl⟩
  have hcs' : cs.toList = encQ q := by rw [hcs]; rfl
  have HB0 := Lib.hid (((Below.refl w.heap.size w).alloc (Nat.le_refl _) (.cells cs 47)).alloc (by simp) (.cells cs 47))
  have hgl := hq.len
  have hgc := hq.cap
  have HQs := Lib.hid (quantities_any [q] (some ⟨w.heap.size + 1, 0, none⟩) 1 (w.heap.size + 2) ((w.alloc (.cells cs 47)).alloc (.cells cs 47))
    (fun _ => ⟨_, _, rfl, by omega, fun i hi j v hv => by
      obtain rfl : i = 0 := by simpa using hi
      have h := alloc_cell (w := w.alloc (.cells cs 47)) (cs := cs) (e := 47) (j := j) (v := v) (by rw [← Array.getElem?_toList, hcs']; exact hv)
      simpa using h⟩)
    (fun x hx => by
      obtain rfl : x = q := by simpa using hx
      exact (hq.below (HB0.out.mono hB)).mono (by omega)) (by simp) (by simp) (by simp))
  have Hq := Lib.hid hq
  have Hc0 := Lib.hid (show ∀ j v, cs[j]? = some v → ((w.alloc (.cells cs 47)).alloc (.cells cs 47)).cell? ⟨w.heap.size, j, none⟩ = some v from fun j v hv => by
    rw [World.cell?_alloc_lt _ _ _ (by simp)]; exact alloc_cell hv)
  rw [hcs] at HQs HB0 Hc0
  clear hcs' hcs hq
  have HE : Hid (marE q p u = if qsErr [q] = 0 then (if withinB p 1 100000 && isTm u then (if (q.gs.length : Int) ≤ 2 * q.bad then 9 else 0) else 1) else qsErr [q]) := Lib.hid rfl
  cases hqe : (qsErr [q] != 0)
  rotate_left
  · have HE1 := Lib.hid (show marE q p u = qsErr [q] from by simp at hqe; rw [HE.out, if_neg hqe])
    have HV := Lib.hid (show marV q p u = 0 from by rw [marV, HE1.out, if_neg (by simpa using hqe)])
    go_enter Tryz.func21, Tryz.ntmps21
    go_wp2_with (go_at_call 30; refine HQs.out.mono ?_; rintro e w1 ⟨rfl, hb1⟩)
    refine bodyPost_ret (v := .tuple #[.int .i64 0, .int .i64 (qsErr [q])]) (by simp [results, Tryz.results21, go_sem]) rfl ?_
    exact ⟨by rw [HV.out, HE1.out], HB0.out.trans (hb1.mono (by simp; omega))⟩
  have Hqe := Lib.hid (show qsErr [q] = 0 by simpa using hqe)
  cases hpu : (withinB p 1 100000 && isTm u)
  · have HE1 := Lib.hid (show marE q p u = 1 from by rw [HE.out, if_pos Hqe.out, hpu]; rfl)
    have HV := Lib.hid (show marV q p u = 0 from by rw [marV, HE1.out]; rfl)
    cases hp : withinB p 1 100000
    · clear hpu
      go_enter Tryz.func21, Tryz.ntmps21
      go_wp2_with (first | (go_at_call 30; refine HQs.out.mono ?_; rintro e w1 ⟨rfl, hb1⟩) | (go_at_call 32; refine (within_any _ _ _ _).mono ?_; rintro e w2 ⟨rfl, rfl⟩))
      refine bodyPost_ret (v := .tuple #[.int .i64 0, .int .i64 1]) (by simp [results, Tryz.results21, go_sem]) rfl ?_
      exact ⟨by rw [HV.out, HE1.out], HB0.out.trans (hb1.mono (by simp; omega))⟩
    · have ht : isTm u = false := by rw [hp] at hpu; simpa using hpu
      clear hpu
      go_enter Tryz.func21, Tryz.ntmps21
      go_wp2_with (first | (go_at_call 30; refine HQs.out.mono ?_; rintro e w1 ⟨rfl, hb1⟩) | (go_at_call 32; refine (within_any _ _ _ _).mono ?_; rintro e w2 ⟨rfl, rfl⟩) | (go_at_call 47; refine (isTime_any _ _).mono ?_; rintro e w2 ⟨rfl, rfl⟩))
      refine bodyPost_ret (v := .tuple #[.int .i64 0, .int .i64 1]) (by simp [results, Tryz.results21, go_sem]) rfl ?_
      exact ⟨by rw [HV.out, HE1.out], HB0.out.trans (hb1.mono (by simp; omega))⟩
  have Hpu := Lib.hid hpu
  obtain ⟨hp, ht⟩ : withinB p 1 100000 = true ∧ isTm u = true := by simpa using hpu
  clear hpu
  have hpb := withinB_true.1 hp
  have htb := isTm_true.1 ht
  obtain ⟨_, _, _, hr, hf, hg8, hbd, hgs⟩ := goodQ q (qsErr_zero Hqe.out).2
  have Hgs := Lib.hid hgs
  have hw2 : IntKind.i64.wrap (2 * q.bad) = 2 * q.bad := IntWalk.i64_in _ (by omega)
  cases hsc : decide ((q.gs.length : Int) ≤ 2 * q.bad)
  rotate_left
  · have HE1 := Lib.hid (show marE q p u = 9 from by rw [HE.out, if_pos Hqe.out, if_pos Hpu.out, if_pos (by simpa using hsc)])
    have HV := Lib.hid (show marV q p u = 0 from by rw [marV, HE1.out]; rfl)
    go_enter Tryz.func21, Tryz.ntmps21
    go_wp2_with (first | (go_at_call 30; refine HQs.out.mono ?_; rintro e w1 ⟨rfl, hb1⟩; have q0 := fun (j : Nat) (v : Value) hv => (hb1.cell (p := ⟨w.heap.size, j, none⟩) (by simp; omega)).trans (Hc0.out j v hv); have c2 := q0 3 _ rfl; have c3 := q0 4 _ rfl; have c5 := q0 5 _ rfl; have c6 := q0 6 _ rfl; have Hb1 := Lib.hid hb1; clear q0 hb1) | (go_at_call 32; refine (within_any _ _ _ _).mono ?_; rintro e w2 ⟨rfl, rfl⟩) | (go_at_call 47; refine (isTime_any _ _).mono ?_; rintro e w2 ⟨rfl, rfl⟩))
    refine bodyPost_ret (v := .tuple #[.int .i64 0, .int .i64 9]) (by simp [results, Tryz.results21, go_sem]) rfl ?_
    exact ⟨by rw [HV.out, HE1.out], HB0.out.trans (Hb1.out.mono (by simp; omega))⟩
  have HE1 := Lib.hid (show marE q p u = 0 from by rw [HE.out, if_pos Hqe.out, if_pos Hpu.out, if_neg (by simpa using hsc)])
  have HV := Lib.hid (show marV q p u = 2 * worstL q.gs u + (q.rise + q.fall) * p from by rw [marV, HE1.out]; rfl)
  have hmx := max_run Tryz.prog
  go_enter Tryz.func21, Tryz.ntmps21
  go_wp2_with (first | (go_at_call 30; refine HQs.out.mono ?_; rintro e w1 ⟨rfl, hb1⟩; have q0 := fun (j : Nat) (v : Value) hv => (hb1.cell (p := ⟨w.heap.size, j, none⟩) (by simp; omega)).trans (Hc0.out j v hv); have c2 := q0 3 _ rfl; have c3 := q0 4 _ rfl; have c5 := q0 5 _ rfl; have c6 := q0 6 _ rfl; have Hb1 := Lib.hid hb1; clear q0 hb1) | (go_at_call 32; refine (within_any _ _ _ _).mono ?_; rintro e w2 ⟨rfl, rfl⟩) | (go_at_call 47; refine (isTime_any _ _).mono ?_; rintro e w2 ⟨rfl, rfl⟩))
  have Hbw := Lib.hid (HB0.out.trans (Hb1.out.mono (by simp; omega)))
  have hs1 : w.heap.size < w1.heap.size := by have := Hb1.out.size; simp at this; omega
  go_loopw [9, 38] (fun v i wr => ∃ k : Nat, k ≤ q.gs.length ∧ v = .int .i64 (worstAt q.gs u k) ∧ i = .int .i64 k ∧ Hid (Below w1.heap.size w1 wr)) (fun _ i _ => q.gs.length - (intOf i).toNat)
  case atStart => exact ⟨0, by omega, rfl, rfl, Lib.hid (Below.refl _ _)⟩
  case round =>
    obtain ⟨k, hk, rfl, rfl, Hb⟩ := hrel
    have hsz := Hb.out.size
    have hwb := worstAt_bnd htb Hgs.out k hk
    by_cases hlt : k < q.gs.length
    · obtain ⟨b, off, hgA, hbB, hcells⟩ := Hq.out.sl (by omega)
      have HgA := Lib.hid hgA
      have h0 := hcells k hlt
      clear hcells
      have c0 : wr.cell? ⟨b, off + k * 4, none⟩ = some (.string q.gs[k].name) := (Hb.out.cell (p := ⟨b, _, none⟩) (by simp; omega)).trans ((Hbw.out.cell (p := ⟨b, _, none⟩) (by simp; omega)).trans (h0 0 _ rfl))
      have c1 : wr.cell? ⟨b, off + k * 4 + 1, none⟩ = some (.int .i64 q.gs[k].acc) := (Hb.out.cell (p := ⟨b, _, none⟩) (by simp; omega)).trans ((Hbw.out.cell (p := ⟨b, _, none⟩) (by simp; omega)).trans (h0 1 _ rfl))
      have c2' : wr.cell? ⟨b, off + k * 4 + 2, none⟩ = some (.int .i64 q.gs[k].drift) := (Hb.out.cell (p := ⟨b, _, none⟩) (by simp; omega)).trans ((Hbw.out.cell (p := ⟨b, _, none⟩) (by simp; omega)).trans (h0 2 _ rfl))
      have c3' : wr.cell? ⟨b, off + k * 4 + 3, none⟩ = some (.int .i64 q.gs[k].since) := (Hb.out.cell (p := ⟨b, _, none⟩) (by simp; omega)).trans ((Hbw.out.cell (p := ⟨b, _, none⟩) (by simp; omega)).trans (h0 3 _ rfl))
      clear h0
      have hg := Hgs.out q.gs[k] (List.getElem_mem hlt)
      have HW := Lib.hid (worstAt_succ q.gs u k hlt)
      rw [hgA]
      clear hgA
      go_wp2_with (go_at_call 48; refine (deviation_any q.gs[k] u _ (by omega) (by omega) (by omega) (by omega) (by omega) (by omega) (by omega) (by omega)).mono ?_; rintro e w2 ⟨rfl, hb2⟩)
      go_roundw
      case rel => exact ⟨k + 1, by omega, by rw [HW.out], by go_num, Lib.hid (Hb.out.trans (((Below.refl _ _).alloc (by omega) _).trans (hb2.mono (by simp; omega))))⟩
      case measure => simp [intOf]; omega
    · obtain rfl : k = q.gs.length := by omega
      rw [worstAt_all] at hwb ⊢
      have HW : Hid (∃ W, W = worstL q.gs u) := Lib.hid ⟨_, rfl⟩
      have hm1 : 0 ≤ (q.rise + q.fall) * p := Int.mul_nonneg (by omega) (by omega)
      have hm2 : (q.rise + q.fall) * p ≤ (q.rise + q.fall) * 100000 := Int.mul_le_mul_of_nonneg_left (by omega) (by omega)
      have d2 := (Hb.out.cell (p := ⟨w.heap.size, 3, none⟩) (by simp; omega)).trans c2
      have d3 := (Hb.out.cell (p := ⟨w.heap.size, 4, none⟩) (by simp; omega)).trans c3
      have r1 : IntKind.i64.wrap (2 * worstL q.gs u) = 2 * worstL q.gs u := IntWalk.i64_in _ (by omega)
      have r2 : IntKind.i64.wrap (q.rise + q.fall) = q.rise + q.fall := IntWalk.i64_in _ (by omega)
      have r3 : IntKind.i64.wrap ((q.rise + q.fall) * p) = (q.rise + q.fall) * p := IntWalk.i64_in _ (by omega)
      have r4 : IntKind.i64.wrap (2 * worstL q.gs u + (q.rise + q.fall) * p) = 2 * worstL q.gs u + (q.rise + q.fall) * p := IntWalk.i64_in _ (by omega)
      go_wp2
      refine bodyPost_ret (v := .tuple #[.int .i64 (2 * worstL q.gs u + (q.rise + q.fall) * p), .int .i64 0]) (by simp [results, Tryz.results21, go_sem]) rfl ?_
      exact ⟨by rw [HV.out, HE1.out], Hbw.out.trans (Hb.out.mono (by omega))⟩
end Go.Proofs.YtcgnpndfhhcplaaGreatDoor
