/-
  Package watch's Margin. Conditions: bounds.
  The law package's wakes: the examples of the chapter hold. No condition.
-/
import Derived.Test.YtcgnpndfhhcplaaGreatDoorChkQ
import Derived.Test.YtcgnpndfhhcplaaGreatDoorGood
import Derived.Test.YtcgnpndfhhcplaaGreatDoorSusp
namespace Go.Proofs.YtcgnpndfhhcplaaGreatDoor
open Go.RowKit W7
def marE (q : Quantity) (p u : Int) : Int := if qsErr [q] = 0 then (if withinB p 1 100000 && isTm u then (if (q.gs.length : Int) ≤ 2 * q.bad then 9 else 0) else 1) else qsErr [q]
def worstAt (gs : List Gauge) (u : Int) (k : Nat) : Int := (gs.take k).foldl (fun a g => max a (devi g u)) 0
def worstL (gs : List Gauge) (u : Int) : Int := gs.foldl (fun a g => max a (devi g u)) 0
theorem worstAt_succ (gs : List Gauge) (u : Int) (k : Nat) (h : k < gs.length) : worstAt gs u (k + 1) = max (worstAt gs u k) (devi gs[k] u) := by
  unfold worstAt; rw [List.take_succ_eq_append_getElem h, List.foldl_append]; rfl
theorem worstAt_all (gs : List Gauge) (u : Int) : worstAt gs u gs.length = worstL gs u := by simp [worstAt, worstL]
def marV (q : Quantity) (p u : Int) : Int := if marE q p u = 0 then 2 * worstL q.gs u + (q.rise + q.fall) * p else 0
theorem worstAt_bnd {gs : List Gauge} {u : Int} (hu : 0 ≤ u ∧ u ≤ 100000) (hg : ∀ g ∈ gs, 0 ≤ g.acc ∧ g.acc ≤ 1000000000 ∧ 0 ≤ g.drift ∧ g.drift ≤ 1000000000 ∧ 0 ≤ g.since ∧ g.since ≤ 100000) :
    ∀ k, k ≤ gs.length → 0 ≤ worstAt gs u k ∧ worstAt gs u k ≤ 102000000000 := by
  intro k
  induction k with
  | zero => intro _; simp [worstAt]
  | succ k ih =>
    intro hk
    rw [worstAt_succ gs u k (by omega)]
    have h1 := ih (by omega)
    have h2 := devi_bnd (hg gs[k] (List.getElem_mem _)) hu
    omega
set_option maxHeartbeats 400000 in
set_option maxRecDepth 100000 in
theorem Margin_any (q : Quantity) (p u : Int) (B : Nat) (w : World) (hq : QIn w B q) (hB : B ≤ w.heap.size) :
    Calls Tryz.prog 21 #[.agg #[.string q.name, .int .i64 q.lo, .int .i64 q.hi, .int .i64 q.rise, .int .i64 q.fall, .int .i64 q.bad, .slice q.gA q.gs.length q.gc], .int .i64 p, .int .i64 u] w fun e w' =>
      e = .returned (.tuple #[.int .i64 (marV q p u), .int .i64 (marE q p u)]) ∧ Below w.heap.size w w' := by
  obtain ⟨cs, hcs⟩ : ∃ cs : Array Value, cs = #[.string q.name, .int .i64 q.lo, .int .i64 q.hi, .int .i64 q.rise, .int .i64 q.fall, .int .i64 q.bad, .slice q.gA q.gs.length q.gc] := ⟨_, rfl⟩
  have hcs' : cs.toList = encQ q := by rw [hcs]; rfl
  have HB0 := Lib.hid (((Below.refl w.heap.size w).alloc (Nat.le_refl _) (.cells cs 47)).alloc (by simp) (.cells cs 47))
  have hgl := hq.len
  have hgc := hq.cap
  have HQs := Lib.hid (quantities_any [q] (some ⟨w.heap.size + 1, 0, none⟩) 1 (w.heap.size + 2) ((w.alloc (.cells cs 47)).alloc (.cells cs 47))
    (fun _ => ⟨_, _, rfl, by omega, fun i hi j v hv => by
      obtain rfl : i = 0 := by simpa using hi
      have h := alloc_cell (w := w.alloc (.cells cs 47)) (cs := cs) (e := 47) (j := j) (v := v) (by rw [← Array.getElem?_toList, hcs']; exact hv)
      simpa using h⟩)
    (fun x hx => by
      obtain rfl : x = q := by simpa using hx
      exact (hq.below (HB0.out.mono hB)).mono (by omega)) (by simp) (by simp) (by simp))
  have Hq := Lib.hid hq
  have Hc0 := Lib.hid (show ∀ j v, cs[j]? = some v → ((w.alloc (.cells cs 47)).alloc (.cells cs 47)).cell? ⟨w.heap.size, j, none⟩ = some v from fun j v hv => by
    rw [World.cell?_alloc_lt _ _ _ (by simp)]; exact alloc_cell hv)
  rw [hcs] at HQs HB0 Hc0
  clear hcs' hcs hq
  have HE : Hid (marE q p u = if qsErr [q] = 0 then (if withinB p 1 100000 && isTm u then (if (q.gs.length : Int) ≤ 2 * q.bad then 9 else 0) else 1) else qsErr [q]) := Lib.hid rfl
  cases hqe : (qsErr [q] != 0)
  rotate_left
  · have HE1 := Lib.hid (show marE q p u = qsErr [q] from by simp at hqe; rw [HE.out, if_neg hqe])
    have HV := Lib.hid (show marV q p u = 0 from by rw [marV, HE1.out, if_neg (by simpa using hqe)])
    go_enter Tryz.func21, Tryz.ntmps21
    go_wp2_with (go_at_call 30; refine HQs.out.mono ?_; rintro e w1 ⟨rfl, hb1⟩)
    refine bodyPost_ret (v := .tuple #[.int .i64 0, .int .i64 (qsErr [q])]) (by simp [results, Tryz.results21, go_sem]) rfl ?_
    exact ⟨by rw [HV.out, HE1.out], HB0.out.trans (hb1.mono (by simp; omega))⟩
  have Hqe := Lib.hid (show qsErr [q] = 0 by simpa using hqe)
  cases hpu : (withinB p 1 100000 && isTm u)
  · have HE1 := Lib.hid (show marE q p u = 1 from by rw [HE.out, if_pos Hqe.out, hpu]; rfl)
    have HV := Lib.hid (show marV q p u = 0 from by rw [marV, HE1.out]; rfl)
    cases hp : withinB p 1 100000
    · clear hpu
      go_enter Tryz.func21, Tryz.ntmps21
      go_wp2_with (first | (go_at_call 30; refine HQs.out.mono ?_; rintro e w1 ⟨rfl, hb1⟩) | (go_at_call 32; refine (within_any _ _ _ _).mono ?_; rintro e w2 ⟨rfl, rfl⟩))
      refine bodyPost_ret (v := .tuple #[.int .i64 0, .int .i64 1]) (by simp [results, Tryz.results21, go_sem]) rfl ?_
      exact ⟨by rw [HV.out, HE1.out], HB0.out.trans (hb1.mono (by simp; omega))⟩
    · have ht : isTm u = false := by rw [hp] at hpu; simpa using hpu
      clear hpu
      go_enter Tryz.func21, Tryz.ntmps21
      go_wp2_with (first | (go_at_call 30; refine HQs.out.mono ?_; rintro e w1 ⟨rfl, hb1⟩) | (go_at_call 32; refine (within_any _ _ _ _).mono ?_; rintro e w2 ⟨rfl, rfl⟩) | (go_at_call 47; refine (isTime_any _ _).mono ?_; rintro e w2 ⟨rfl, rfl⟩))
      refine bodyPost_ret (v := .tuple #[.int .i64 0, .int .i64 1]) (by simp [results, Tryz.results21, go_sem]) rfl ?_
      exact ⟨by rw [HV.out, HE1.out], HB0.out.trans (hb1.mono (by simp; omega))⟩
  have Hpu := Lib.hid hpu
  obtain ⟨hp, ht⟩ : withinB p 1 100000 = true ∧ isTm u = true := by simpa using hpu
  clear hpu
  have hpb := withinB_true.1 hp
  have htb := isTm_true.1 ht
  obtain ⟨_, _, _, hr, hf, hg8, hbd, hgs⟩ := goodQ q (qsErr_zero Hqe.out).2
  have Hgs := Lib.hid hgs
  have hw2 : IntKind.i64.wrap (2 * q.bad) = 2 * q.bad := IntWalk.i64_in _ (by omega)
  cases hsc : decide ((q.gs.length : Int) ≤ 2 * q.bad)
  rotate_left
  · have HE1 := Lib.hid (show marE q p u = 9 from by rw [HE.out, if_pos Hqe.out, if_pos Hpu.out, if_pos (by simpa using hsc)])
    have HV := Lib.hid (show marV q p u = 0 from by rw [marV, HE1.out]; rfl)
    go_enter Tryz.func21, Tryz.ntmps21
    go_wp2_with (first | (go_at_call 30; refine HQs.out.mono ?_; rintro e w1 ⟨rfl, hb1⟩; have q0 := fun (j : Nat) (v : Value) hv => (hb1.cell (p := ⟨w.heap.size, j, none⟩) (by simp; omega)).trans (Hc0.out j v hv); have c2 := q0 3 _ rfl; have c3 := q0 4 _ rfl; have c5 := q0 5 _ rfl; have c6 := q0 6 _ rfl; have Hb1 := Lib.hid hb1; clear q0 hb1) | (go_at_call 32; refine (within_any _ _ _ _).mono ?_; rintro e w2 ⟨rfl, rfl⟩) | (go_at_call 47; refine (isTime_any _ _).mono ?_; rintro e w2 ⟨rfl, rfl⟩))
    refine bodyPost_ret (v := .tuple #[.int .i64 0, .int .i64 9]) (by simp [results, Tryz.results21, go_sem]) rfl ?_
    exact ⟨by rw [HV.out, HE1.out], HB0.out.trans (Hb1.out.mono (by simp; omega))⟩
  have HE1 := Lib.hid (show marE q p u = 0 from by rw [HE.out, if_pos Hqe.out, if_pos Hpu.out, if_neg (by simpa using hsc)])
  have HV := Lib.hid (show marV q p u = 2 * worstL q.gs u + (q.rise + q.fall) * p from by rw [marV, HE1.out]; rfl)
  have hmx := max_run Tryz.prog
  go_enter Tryz.func21, Tryz.ntmps21
  go_wp2_with (first | (go_at_call 30; refine HQs.out.mono ?_; rintro e w1 ⟨rfl, hb1⟩; have q0 := fun (j : Nat) (v : Value) hv => (hb1.cell (p := ⟨w.heap.size, j, none⟩) (by simp; omega)).trans (Hc0.out j v hv); have c2 := q0 3 _ rfl; have c3 := q0 4 _ rfl; have c5 := q0 5 _ rfl; have c6 := q0 6 _ rfl; have Hb1 := Lib.hid hb1; clear q0 hb1) | (go_at_call 32; refine (within_any _ _ _ _).mono ?_; rintro e w2 ⟨rfl, rfl⟩) | (go_at_call 47; refine (isTime_any _ _).mono ?_; rintro e w2 ⟨rfl, rfl⟩))
  have Hbw := Lib.hid (HB0.out.trans (Hb1.out.mono (by simp; omega)))
  have hs1 : w.heap.size < w1.heap.size := by have := Hb1.out.size; simp at this; omega
  go_loopw [9, 38] (fun v i wr => ∃ k : Nat, k ≤ q.gs.length ∧ v = .int .i64 (worstAt q.gs u k) ∧ i = .int .i64 k ∧ Hid (Below w1.heap.size w1 wr)) (fun _ i _ => q.gs.length - (intOf i).toNat)
  case atStart => exact ⟨0, by omega, rfl, rfl, Lib.hid (Below.refl _ _)⟩
  case round =>
    obtain ⟨k, hk, rfl, rfl, Hb⟩ := hrel
    have hsz := Hb.out.size
    have hwb := worstAt_bnd htb Hgs.out k hk
    by_cases hlt : k < q.gs.length
    · obtain ⟨b, off, hgA, hbB, hcells⟩ := Hq.out.sl (by omega)
      have HgA := Lib.hid hgA
      have h0 := hcells k hlt
      clear hcells
      have c0 : wr.cell? ⟨b, off + k * 4, none⟩ = some (.string q.gs[k].name) := (Hb.out.cell (p := ⟨b, _, none⟩) (by simp; omega)).trans ((Hbw.out.cell (p := ⟨b, _, none⟩) (by simp; omega)).trans (h0 0 _ rfl))
      have c1 : wr.cell? ⟨b, off + k * 4 + 1, none⟩ = some (.int .i64 q.gs[k].acc) := (Hb.out.cell (p := ⟨b, _, none⟩) (by simp; omega)).trans ((Hbw.out.cell (p := ⟨b, _, none⟩) (by simp; omega)).trans (h0 1 _ rfl))
      have c2' : wr.cell? ⟨b, off + k * 4 + 2, none⟩ = some (.int .i64 q.gs[k].drift) := (Hb.out.cell (p := ⟨b, _, none⟩) (by simp; omega)).trans ((Hbw.out.cell (p := ⟨b, _, none⟩) (by simp; omega)).trans (h0 2 _ rfl))
      have c3' : wr.cell? ⟨b, off + k * 4 + 3, none⟩ = some (.int .i64 q.gs[k].since) := (Hb.out.cell (p := ⟨b, _, none⟩) (by simp; omega)).trans ((Hbw.out.cell (p := ⟨b, _, none⟩) (by simp; omega)).trans (h0 3 _ rfl))
      clear h0
      have hg := Hgs.out q.gs[k] (List.getElem_mem hlt)
      have HW := Lib.hid (worstAt_succ q.gs u k hlt)
      rw [hgA]
      clear hgA
      go_wp2_with (go_at_call 48; refine (deviation_any q.gs[k] u _ (by omega) (by omega) (by omega) (by omega) (by omega) (by omega) (by omega) (by omega)).mono ?_; rintro e w2 ⟨rfl, hb2⟩)
      go_roundw
      case rel => exact ⟨k + 1, by omega, by rw [HW.out], by go_num, Lib.hid (Hb.out.trans (((Below.refl _ _).alloc (by omega) _).trans (hb2.mono (by simp; omega))))⟩
      case measure => simp [intOf]; omega
    · obtain rfl : k = q.gs.length := by omega
      rw [worstAt_all] at hwb ⊢
      have HW : Hid (∃ W, W = worstL q.gs u) := Lib.hid ⟨_, rfl⟩
      have hm1 : 0 ≤ (q.rise + q.fall) * p := Int.mul_nonneg (by omega) (by omega)
      have hm2 : (q.rise + q.fall) * p ≤ (q.rise + q.fall) * 100000 := Int.mul_le_mul_of_nonneg_left (by omega) (by omega)
      have d2 := (Hb.out.cell (p := ⟨w.heap.size, 3, none⟩) (by simp; omega)).trans c2
      have d3 := (Hb.out.cell (p := ⟨w.heap.size, 4, none⟩) (by simp; omega)).trans c3
      have r1 : IntKind.i64.wrap (2 * worstL q.gs u) = 2 * worstL q.gs u := IntWalk.i64_in _ (by omega)
      have r2 : IntKind.i64.wrap (q.rise + q.fall) = q.rise + q.fall := IntWalk.i64_in _ (by omega)
      have r3 : IntKind.i64.wrap ((q.rise + q.fall) * p) = (q.rise + q.fall) * p := IntWalk.i64_in _ (by omega)
      have r4 : IntKind.i64.wrap (2 * worstL q.gs u + (q.rise + q.fall) * p) = 2 * worstL q.gs u + (q.rise + q.fall) * p := IntWalk.i64_in _ (by omega)
      go_wp2
      refine bodyPost_ret (v := .tuple #[.int .i64 (2 * worstL q.gs u + (q.rise + q.fall) * p), .int .i64 0]) (by simp [results, Tryz.results21, go_sem]) rfl ?_
      exact ⟨by rw [HV.out, HE1.out], Hbw.out.trans (Hb.out.mono (by omega))⟩
end Go.Proofs.YtcgnpndfhhcplaaGreatDoor
namespace Go.Proofs.YtcgnpndfhhcplaaGreatDoor
open Go.RowKit W7
def g3 (n : UInt8) : Gauge := ⟨⟨#[n]⟩, 1, 0, 0⟩
def q3 (b : Nat) : Quantity := ⟨⟨#[113]⟩, 0, 0, 2, 1, 1, some ⟨b, 0, none⟩, 3, [g3 97, g3 98, g3 99]⟩
theorem q3_in {w : World} {b B : Nat} (hb : b < B) (hc : ∀ i (h : i < 3) j v, (encG ([g3 97, g3 98, g3 99][i]))[j]? = some v → w.cell? ⟨b, i * 4 + j, none⟩ = some v) : QIn w B (q3 b) :=
  ⟨Nat.le_of_ble_eq_true (by kernel_rfl), Nat.le_of_ble_eq_true (by kernel_rfl), Nat.le_of_ble_eq_true (by kernel_rfl), Nat.le_of_ble_eq_true (by kernel_rfl), fun _ => ⟨b, 0, rfl, hb, fun i hi j v hv => by simpa using hc i hi j v hv⟩, fun g hg => by
    simp only [q3, List.mem_cons, List.not_mem_nil, or_false] at hg
    rcases hg with rfl | rfl | rfl <;> exact Nat.le_of_ble_eq_true (by kernel_rfl)⟩
def l1 : List Reading := [⟨0, 5, 4⟩]
def l2 : List Reading := [⟨0, 5, 4⟩, ⟨1, 5, 5⟩]
def l3 : List Reading := [⟨0, 5, 9⟩, ⟨1, 5, 0⟩, ⟨2, 5, 0⟩]
theorem x0 (b : Nat) : possE (q3 b) [] 5 = 0 ∧ possX (q3 b) [] 5 1 = [⟨-5, 10⟩] := ⟨by kernel_rfl, by kernel_rfl⟩
theorem x1 (b : Nat) : possE (q3 b) l1 5 = 0 ∧ possX (q3 b) l1 5 1 = [⟨-5, 10⟩] := ⟨by kernel_rfl, by kernel_rfl⟩
theorem x2 (b : Nat) : possE (q3 b) l2 5 = 0 ∧ possX (q3 b) l2 5 1 = [⟨3, 6⟩] := ⟨by kernel_rfl, by kernel_rfl⟩
theorem x3 (b : Nat) : possE (q3 b) l3 5 = 0 ∧ possX (q3 b) l3 5 1 = [⟨-1, 1⟩] := ⟨by kernel_rfl, by kernel_rfl⟩
theorem x4 (b : Nat) : checkedE (q3 b) l3 = 0 ∧ susL (q3 b) l3 = ([0], [0]) := ⟨by kernel_rfl, by kernel_rfl⟩
theorem x5 (b : Nat) : marE (q3 b) 10 100 = 0 ∧ marV (q3 b) 10 100 = 32 := ⟨by kernel_rfl, by kernel_rfl⟩
def ThreeP (w : World) (e : Ending) (w' : World) : Prop :=
  ∃ gb, e = .returned (.agg #[.string ⟨#[113]⟩, .int .i64 0, .int .i64 0, .int .i64 2, .int .i64 1, .int .i64 1, .slice (some ⟨gb, 0, none⟩) 3 3]) ∧ w.heap.size ≤ gb ∧ gb < w'.heap.size ∧ Below w.heap.size w w' ∧
    ∀ i (h : i < 3) j v, (encG ([g3 97, g3 98, g3 99][i]))[j]? = some v → w'.cell? ⟨gb, i * 4 + j, none⟩ = some v
set_option maxHeartbeats 1000000 in
theorem three_any (w : World) : Calls Tryz.prog 18 #[] w (ThreeP w) := by
  go_enter Tryz.func18, Tryz.ntmps18
  go_wp2
  refine bodyPost_ret (v := .agg #[.string ⟨#[113]⟩, .int .i64 0, .int .i64 0, .int .i64 2, .int .i64 1, .int .i64 1, .slice (some ⟨w.heap.size + 1, 0, none⟩) 3 3]) (by simp [results, Tryz.results18, go_sem]) rfl ?_
  refine ⟨w.heap.size + 1, rfl, by omega, by simp, (by (repeat (refine Below.alloc ?_ (by first | exact Nat.le_refl _ | omega | (simp; done) | (simp; omega)) _)); exact Below.refl _ _), fun i hi j v hv => ?_⟩
  have hc := fun h => alloc_cell (w := w.alloc (.cells #[.string ⟨#[113]⟩, .int .i64 0, .int .i64 0, .int .i64 2, .int .i64 1, .int .i64 1, .slice (some ⟨w.heap.size + 1, 0, none⟩) 3 3] 47)) (cs := #[.string ⟨#[97]⟩, .int .i64 1, .int .i64 0, .int .i64 0, .string ⟨#[98]⟩, .int .i64 1, .int .i64 0, .int .i64 0, .string ⟨#[99]⟩, .int .i64 1, .int .i64 0, .int .i64 0]) (e := 28) (j := i * 4 + j) (v := v) h
  rw [show (w.alloc (.cells #[.string ⟨#[113]⟩, .int .i64 0, .int .i64 0, .int .i64 2, .int .i64 1, .int .i64 1, .slice (some ⟨w.heap.size + 1, 0, none⟩) 3 3] 47)).heap.size = w.heap.size + 1 by simp] at hc
  refine hc ?_
  clear hc
  have hj : j < 4 := by
    rcases Nat.lt_or_ge j 4 with h | h
    · exact h
    · rcases i with _ | _ | _ | i
      · rw [List.getElem?_eq_none (by simpa [encG, g3] using h)] at hv; cases hv
      · rw [List.getElem?_eq_none (by simpa [encG, g3] using h)] at hv; cases hv
      · rw [List.getElem?_eq_none (by simpa [encG, g3] using h)] at hv; cases hv
      · omega
  rcases i with _ | _ | _ | i
  · rcases j with _ | _ | _ | _ | j
    · exact hv
    · exact hv
    · exact hv
    · exact hv
    · omega
  · rcases j with _ | _ | _ | _ | j
    · exact hv
    · exact hv
    · exact hv
    · exact hv
    · omega
  · rcases j with _ | _ | _ | _ | j
    · exact hv
    · exact hv
    · exact hv
    · exact hv
    · omega
  · omega
set_option maxHeartbeats 1000000 in
theorem one_any (sp : List Span) (v : Value) (e lo hi : Int) (base : Nat) (w : World) (hown : w.ownsRow base 44 2 v sp.length (encSps sp)) (he : e = 0) (hs : sp = [⟨lo, hi⟩]) :
    Calls Tryz.prog 22 #[v, .int .i64 e, .int .i64 lo, .int .i64 hi] w fun r w' => r = .returned (.bool true) ∧ w' = w := by
  subst he hs
  obtain ⟨g, cap, rfl, hg⟩ := own_form hown (by simp)
  obtain ⟨c0, c1⟩ := own_cellsS hown (i := 0) (by simp)
  simp only [List.getElem_cons_zero, Nat.zero_mul] at c0 c1
  go_enter Tryz.func22, Tryz.ntmps22
  go_wp2
  go_ret
  exact ⟨rfl, rfl⟩
theorem poss3 (gb : Nat) (l : List Reading) (sp : List Span) (A : Option Addr) (c B : Nat) (W : World) (hq : QIn W B (q3 gb)) (hA : Sl W B 3 encR A l) (hB : B ≤ W.heap.size) (hlc : l.length ≤ c) (hc : c ≤ 9223372036854775807) (h12 : l.length ≤ 12) (hX : possE (q3 gb) l 5 = 0 ∧ possX (q3 gb) l 5 1 = sp) :
    Calls Tryz.prog 19 #[.agg #[.string ⟨#[113]⟩, .int .i64 0, .int .i64 0, .int .i64 2, .int .i64 1, .int .i64 1, .slice (some ⟨gb, 0, none⟩) 3 3], .slice A l.length c, .int .i64 5] W fun e w' => ∃ v, e = .returned (.tuple #[v, .int .i64 0]) ∧ w'.ownsRow W.heap.size 44 2 v sp.length (encSps sp) ∧ Below W.heap.size W w' := by
  refine (show Calls Tryz.prog 19 #[.agg #[.string ⟨#[113]⟩, .int .i64 0, .int .i64 0, .int .i64 2, .int .i64 1, .int .i64 1, .slice (some ⟨gb, 0, none⟩) 3 3], .slice A l.length c, .int .i64 5] W (PossR (q3 gb) l 5 W) from Possible_any (q3 gb) l 5 A c B W hq hA hB hlc hc (fun _ => h12)).mono ?_
  rintro e w' ⟨v, sp', rfl, _, h2, _, _, h5, h6⟩
  have e1 : sp' = sp := by rw [← hX.2]; exact (h2 hX.1).unique (possX_is (show (0 : Int) ≤ 2 by decide) (show (0 : Int) ≤ 1 by decide))
  subst e1
  exact ⟨v, by rw [hX.1], h5, h6⟩
theorem lits {α : Type} {enc : α → List Value} {k : Nat} (xs : List α) (w : World) (cs : Array Value) (e : TypeId) (h : ∀ i (hi : i < xs.length) j v, (enc xs[i])[j]? = some v → cs[0 + i * k + j]? = some v) : Sl (w.alloc (.cells cs e)) (w.heap.size + 1) k enc (some ⟨w.heap.size, 0, none⟩) xs :=
  fun _ => ⟨w.heap.size, 0, rfl, by omega, fun i hi j v hv => alloc_cell (h i hi j v hv)⟩
theorem lit1 : ∀ i (hi : i < l1.length) j v, (encR l1[i])[j]? = some v → (#[.int .i64 0, .int .i64 5, .int .i64 4] : Array Value)[0 + i * 3 + j]? = some v := by
  intro i hi j v hv
  have hi' : i < 1 := hi
  rcases i with _ | i
  · rcases j with _ | _ | _ | j
    · exact hv
    · exact hv
    · exact hv
    · simp [l1, encR] at hv
  · omega
theorem lit2 : ∀ i (hi : i < l2.length) j v, (encR l2[i])[j]? = some v → (#[.int .i64 0, .int .i64 5, .int .i64 4, .int .i64 1, .int .i64 5, .int .i64 5] : Array Value)[0 + i * 3 + j]? = some v := by
  intro i hi j v hv
  have hi' : i < 2 := hi
  rcases i with _ | _ | i
  · rcases j with _ | _ | _ | j
    · exact hv
    · exact hv
    · exact hv
    · simp [l2, encR] at hv
  · rcases j with _ | _ | _ | j
    · exact hv
    · exact hv
    · exact hv
    · simp [l2, encR] at hv
  · omega
theorem lit3 : ∀ i (hi : i < l3.length) j v, (encR l3[i])[j]? = some v → (#[.int .i64 0, .int .i64 5, .int .i64 9, .int .i64 1, .int .i64 5, .int .i64 0, .int .i64 2, .int .i64 5, .int .i64 0] : Array Value)[0 + i * 3 + j]? = some v := by
  intro i hi j v hv
  have hi' : i < 3 := hi
  rcases i with _ | _ | _ | i
  · rcases j with _ | _ | _ | j
    · exact hv
    · exact hv
    · exact hv
    · simp [l3, encR] at hv
  · rcases j with _ | _ | _ | j
    · exact hv
    · exact hv
    · exact hv
    · simp [l3, encR] at hv
  · rcases j with _ | _ | _ | j
    · exact hv
    · exact hv
    · exact hv
    · simp [l3, encR] at hv
  · omega
theorem poss_0 (gb B : Nat) (W : World) (hq : ∀ X, Below W.heap.size W X → QIn X B (q3 gb)) (hB : B ≤ W.heap.size) :
    Calls Tryz.prog 19 #[.agg #[.string ⟨#[113]⟩, .int .i64 0, .int .i64 0, .int .i64 2, .int .i64 1, .int .i64 1, .slice (some ⟨gb, 0, none⟩) 3 3], .slice none 0 0, .int .i64 5] W fun e w' => ∃ v, e = .returned (.tuple #[v, .int .i64 0]) ∧ w'.ownsRow W.heap.size 44 2 v 1 (encSps [⟨-5, 10⟩]) ∧ Below W.heap.size W w' := by
  have h := poss3 gb [] [⟨-5, 10⟩] none 0 B W (hq _ (Below.refl _ _)) Sl.nil hB (Nat.le_refl _) (by decide) (by decide) (x0 gb)
  exact h
theorem poss_1 (gb B : Nat) (W : World) (hq : ∀ X, Below W.heap.size W X → QIn X B (q3 gb)) (hB : B ≤ W.heap.size) :
    Calls Tryz.prog 19 #[.agg #[.string ⟨#[113]⟩, .int .i64 0, .int .i64 0, .int .i64 2, .int .i64 1, .int .i64 1, .slice (some ⟨gb, 0, none⟩) 3 3], .slice (some ⟨W.heap.size, 0, none⟩) 1 1, .int .i64 5] (W.alloc (.cells #[.int .i64 0, .int .i64 5, .int .i64 4] 55)) fun e w' => ∃ v, e = .returned (.tuple #[v, .int .i64 0]) ∧ w'.ownsRow W.heap.size 44 2 v 1 (encSps [⟨-5, 10⟩]) ∧ Below W.heap.size W w' := by
  have h := poss3 gb l1 [⟨-5, 10⟩] (some ⟨W.heap.size, 0, none⟩) 1 (W.heap.size + 1) (W.alloc (.cells #[.int .i64 0, .int .i64 5, .int .i64 4] 55)) ((hq _ ((Below.refl W.heap.size W).alloc (Nat.le_refl _) _)).mono (by omega)) (lits l1 W _ _ lit1) (by rw [World.size_alloc]; omega) (Nat.le_refl _) (by decide) (by decide) (x1 gb)
  refine h.mono ?_
  rintro e w' ⟨v, rfl, h5, h6⟩
  exact ⟨v, rfl, own_mono h5 (by rw [World.size_alloc]; omega), ((Below.refl W.heap.size W).alloc (Nat.le_refl _) _).trans (h6.mono (by rw [World.size_alloc]; omega))⟩
theorem poss_2 (gb B : Nat) (W : World) (hq : ∀ X, Below W.heap.size W X → QIn X B (q3 gb)) (hB : B ≤ W.heap.size) :
    Calls Tryz.prog 19 #[.agg #[.string ⟨#[113]⟩, .int .i64 0, .int .i64 0, .int .i64 2, .int .i64 1, .int .i64 1, .slice (some ⟨gb, 0, none⟩) 3 3], .slice (some ⟨W.heap.size, 0, none⟩) 2 2, .int .i64 5] (W.alloc (.cells #[.int .i64 0, .int .i64 5, .int .i64 4, .int .i64 1, .int .i64 5, .int .i64 5] 55)) fun e w' => ∃ v, e = .returned (.tuple #[v, .int .i64 0]) ∧ w'.ownsRow W.heap.size 44 2 v 1 (encSps [⟨3, 6⟩]) ∧ Below W.heap.size W w' := by
  have h := poss3 gb l2 [⟨3, 6⟩] (some ⟨W.heap.size, 0, none⟩) 2 (W.heap.size + 1) (W.alloc (.cells #[.int .i64 0, .int .i64 5, .int .i64 4, .int .i64 1, .int .i64 5, .int .i64 5] 55)) ((hq _ ((Below.refl W.heap.size W).alloc (Nat.le_refl _) _)).mono (by omega)) (lits l2 W _ _ lit2) (by rw [World.size_alloc]; omega) (Nat.le_refl _) (by decide) (by decide) (x2 gb)
  refine h.mono ?_
  rintro e w' ⟨v, rfl, h5, h6⟩
  exact ⟨v, rfl, own_mono h5 (by rw [World.size_alloc]; omega), ((Below.refl W.heap.size W).alloc (Nat.le_refl _) _).trans (h6.mono (by rw [World.size_alloc]; omega))⟩
theorem poss_3 (gb b : Nat) (B : Nat) (W : World) (hq : QIn W B (q3 gb)) (hA : Sl W B 3 encR (some ⟨b, 0, none⟩) l3) (hB : B ≤ W.heap.size) :
    Calls Tryz.prog 19 #[.agg #[.string ⟨#[113]⟩, .int .i64 0, .int .i64 0, .int .i64 2, .int .i64 1, .int .i64 1, .slice (some ⟨gb, 0, none⟩) 3 3], .slice (some ⟨b, 0, none⟩) 3 3, .int .i64 5] W fun e w' => ∃ v, e = .returned (.tuple #[v, .int .i64 0]) ∧ w'.ownsRow W.heap.size 44 2 v 1 (encSps [⟨-1, 1⟩]) ∧ Below W.heap.size W w' := by
  have h := poss3 gb l3 [⟨-1, 1⟩] (some ⟨b, 0, none⟩) 3 B W hq hA hB (Nat.le_refl _) (by decide) (by decide) (x3 gb)
  exact h
theorem susp_3 (gb b : Nat) (B : Nat) (W : World) (hq : QIn W B (q3 gb)) (hA : Sl W B 3 encR (some ⟨b, 0, none⟩) l3) (hB : B ≤ W.heap.size) :
    Calls Tryz.prog 20 #[.agg #[.string ⟨#[113]⟩, .int .i64 0, .int .i64 0, .int .i64 2, .int .i64 1, .int .i64 1, .slice (some ⟨gb, 0, none⟩) 3 3], .slice (some ⟨b, 0, none⟩) 3 3] W fun e w' => ∃ v1 v2, e = .returned (.tuple #[v1, v2, .int .i64 0]) ∧ w'.ownsRow W.heap.size 3 1 v1 1 [.int .i64 0] ∧ w'.ownsRow W.heap.size 3 1 v2 1 [.int .i64 0] ∧ Below W.heap.size W w' := by
  have h := Suspects_any (q3 gb) l3 (some ⟨b, 0, none⟩) 3 B W hq hA hB (Nat.le_refl _) (by decide) (fun _ => by decide)
  refine (show Calls Tryz.prog 20 #[.agg #[.string ⟨#[113]⟩, .int .i64 0, .int .i64 0, .int .i64 2, .int .i64 1, .int .i64 1, .slice (some ⟨gb, 0, none⟩) 3 3], .slice (some ⟨b, 0, none⟩) 3 3] W (SusR (q3 gb) l3 W) from h).mono ?_
  rintro e w' ⟨v1, v2, rfl, h1, h2, h3⟩
  rw [(x4 gb).2] at h1 h2
  exact ⟨v1, v2, by rw [(x4 gb).1], h1, h2, h3⟩
theorem marg_3 (gb : Nat) (B : Nat) (W : World) (hq : QIn W B (q3 gb)) (hB : B ≤ W.heap.size) :
    Calls Tryz.prog 21 #[.agg #[.string ⟨#[113]⟩, .int .i64 0, .int .i64 0, .int .i64 2, .int .i64 1, .int .i64 1, .slice (some ⟨gb, 0, none⟩) 3 3], .int .i64 10, .int .i64 100] W fun e w' => e = .returned (.tuple #[.int .i64 32, .int .i64 0]) ∧ Below W.heap.size W w' := by
  have h := Margin_any (q3 gb) 10 100 B W hq hB
  rw [(x5 gb).1, (x5 gb).2] at h
  exact h
theorem one_at (v : Value) (lo hi : Int) (base : Nat) (w : World) (hown : w.ownsRow base 44 2 v 1 (encSps [⟨lo, hi⟩])) :
    Calls Tryz.prog 22 #[v, .int .i64 0, .int .i64 lo, .int .i64 hi] w fun r w' => r = .returned (.bool true) ∧ w' = w := one_any [⟨lo, hi⟩] v 0 lo hi base w hown rfl rfl
set_option maxHeartbeats 1000000 in
set_option maxRecDepth 100000 in
theorem wakes_any (w : World) : Calls Tryz.prog 7 #[] w fun r w' => r = .returned (.bool true) ∧ Below w.heap.size w w' := by
  go_enter Tryz.func7, Tryz.ntmps7
  go_wp2_with (go_at_call 18; refine (three_any _).mono ?_; rintro r w1 ⟨gb, rfl, hgb1, hgb2, hb1, hcell⟩; have Hb1 := Lib.hid hb1; have HQ := Lib.hid (fun (X : World) (hX : Below w1.heap.size w1 X) => q3_in (B := w1.heap.size) hgb2 (fun i hi j v hv => (hX.cell (p := ⟨gb, i * 4 + j, none⟩) hgb2).trans (hcell i hi j v hv))); have HBx := Lib.hid (fun (X : World) (hX : Below (w1.heap.size + 1) (w1.alloc (.cells #[.string ⟨#[113]⟩, .int .i64 0, .int .i64 0, .int .i64 2, .int .i64 1, .int .i64 1, .slice (some ⟨gb, 0, none⟩) 3 3] 47)) X) => show X.cell? ⟨w1.heap.size, 0, none⟩ = some (.string ⟨#[113]⟩) ∧ X.cell? ⟨w1.heap.size, 1, none⟩ = some (.int .i64 0) ∧ X.cell? ⟨w1.heap.size, 2, none⟩ = some (.int .i64 0) ∧ X.cell? ⟨w1.heap.size, 3, none⟩ = some (.int .i64 2) ∧ X.cell? ⟨w1.heap.size, 4, none⟩ = some (.int .i64 1) ∧ X.cell? ⟨w1.heap.size, 5, none⟩ = some (.int .i64 1) ∧ X.cell? ⟨w1.heap.size, 6, none⟩ = some (.slice (some ⟨gb, 0, none⟩) 3 3) from ⟨(hX.cell (p := ⟨w1.heap.size, 0, none⟩) (by simp)).trans (alloc_cell rfl), (hX.cell (p := ⟨w1.heap.size, 1, none⟩) (by simp)).trans (alloc_cell rfl), (hX.cell (p := ⟨w1.heap.size, 2, none⟩) (by simp)).trans (alloc_cell rfl), (hX.cell (p := ⟨w1.heap.size, 3, none⟩) (by simp)).trans (alloc_cell rfl), (hX.cell (p := ⟨w1.heap.size, 4, none⟩) (by simp)).trans (alloc_cell rfl), (hX.cell (p := ⟨w1.heap.size, 5, none⟩) (by simp)).trans (alloc_cell rfl), (hX.cell (p := ⟨w1.heap.size, 6, none⟩) (by simp)).trans (alloc_cell rfl)⟩); have HU := Lib.hid (fun (X : World) (hX : Below (w1.heap.size + 1) (w1.alloc (.cells #[.string ⟨#[113]⟩, .int .i64 0, .int .i64 0, .int .i64 2, .int .i64 1, .int .i64 1, .slice (some ⟨gb, 0, none⟩) 3 3] 47)) X) => show Below w1.heap.size w1 X from ((Below.refl w1.heap.size w1).alloc (Nat.le_refl _) _).trans (hX.mono (by omega))); clear hb1 hcell)
  refine (poss_0 gb w1.heap.size _ (fun X hX => HQ.out X (HU.out _ (by simpa using hX))) (by simp)).mono ?_; rintro r w2 ⟨va, rfl, hva, hb2⟩
  have Hva := Lib.hid hva
  have HB2 := Lib.hid (show Below (w1.heap.size + 1) (w1.alloc (.cells #[.string ⟨#[113]⟩, .int .i64 0, .int .i64 0, .int .i64 2, .int .i64 1, .int .i64 1, .slice (some ⟨gb, 0, none⟩) 3 3] 47)) w2 from by simpa using hb2)
  have hs2 : w1.heap.size < w2.heap.size := (by have := HB2.out.size; simp at this; omega)
  obtain ⟨b20, b21, b22, b23, b24, b25, b26⟩ := HBx.out w2 HB2.out
  clear hva hb2
  go_wp2_with (go_at_call 18; fail)
  refine (poss_1 gb w1.heap.size w2 (fun X hX => HQ.out X (HU.out _ (HB2.out.trans (hX.mono (by omega))))) (by omega)).mono ?_; rintro r w3 ⟨vb, rfl, hvb, hb3⟩
  have Hvb := Lib.hid hvb; have Hb3 := Lib.hid hb3
  have HB3 := Lib.hid (show Below (w1.heap.size + 1) (w1.alloc (.cells #[.string ⟨#[113]⟩, .int .i64 0, .int .i64 0, .int .i64 2, .int .i64 1, .int .i64 1, .slice (some ⟨gb, 0, none⟩) 3 3] 47)) w3 from HB2.out.trans (hb3.mono (by omega)))
  have hs3 : w1.heap.size < w3.heap.size := (by have := HB3.out.size; simp at this; omega)
  obtain ⟨b30, b31, b32, b33, b34, b35, b36⟩ := HBx.out w3 HB3.out
  clear hvb hb3
  go_wp2_with (go_at_call 18; fail)
  refine (poss_2 gb w1.heap.size w3 (fun X hX => HQ.out X (HU.out _ (HB3.out.trans (hX.mono (by omega))))) (by omega)).mono ?_; rintro r w4 ⟨vc, rfl, hvc, hb4⟩
  have Hvc := Lib.hid hvc; have Hb4 := Lib.hid hb4
  have HB4 := Lib.hid (show Below (w1.heap.size + 1) (w1.alloc (.cells #[.string ⟨#[113]⟩, .int .i64 0, .int .i64 0, .int .i64 2, .int .i64 1, .int .i64 1, .slice (some ⟨gb, 0, none⟩) 3 3] 47)) w4 from HB3.out.trans (hb4.mono (by omega)))
  have hs4 : w1.heap.size < w4.heap.size := (by have := HB4.out.size; simp at this; omega)
  obtain ⟨b40, b41, b42, b43, b44, b45, b46⟩ := HBx.out w4 HB4.out
  have HL := Lib.hid (fun (X : World) (hX : Below (w4.heap.size + 1) (w4.alloc (.cells #[.int .i64 0, .int .i64 5, .int .i64 9, .int .i64 1, .int .i64 5, .int .i64 0, .int .i64 2, .int .i64 5, .int .i64 0] 55)) X) => (lits l3 w4 _ _ lit3).below hX)
  have HU4 := Lib.hid (fun (X : World) (hX : Below (w4.heap.size + 1) (w4.alloc (.cells #[.int .i64 0, .int .i64 5, .int .i64 9, .int .i64 1, .int .i64 5, .int .i64 0, .int .i64 2, .int .i64 5, .int .i64 0] 55)) X) => show Below w4.heap.size w4 X from ((Below.refl w4.heap.size w4).alloc (Nat.le_refl _) _).trans (hX.mono (by omega)))
  clear hvc hb4
  go_wp2_with (go_at_call 18; fail)
  refine (poss_3 gb w4.heap.size (w4.heap.size + 1) _ ((HQ.out _ (HU.out _ (HB4.out.alloc (by omega) _))).mono (by omega)) (HL.out _ (Below.refl _ _)) (by simp)).mono ?_; rintro r w5 ⟨vd, rfl, hvd, hb5⟩
  have Hvd := Lib.hid hvd; have Hb5 := Lib.hid (show Below (w4.heap.size + 1) (w4.alloc (.cells #[.int .i64 0, .int .i64 5, .int .i64 9, .int .i64 1, .int .i64 5, .int .i64 0, .int .i64 2, .int .i64 5, .int .i64 0] 55)) w5 from by simpa using hb5)
  have HB5 := Lib.hid (show Below (w1.heap.size + 1) (w1.alloc (.cells #[.string ⟨#[113]⟩, .int .i64 0, .int .i64 0, .int .i64 2, .int .i64 1, .int .i64 1, .slice (some ⟨gb, 0, none⟩) 3 3] 47)) w5 from HB4.out.trans ((HU4.out _ Hb5.out).mono (by omega)))
  have hs5 : w1.heap.size < w5.heap.size := (by have := HB5.out.size; simp at this; omega)
  obtain ⟨b50, b51, b52, b53, b54, b55, b56⟩ := HBx.out w5 HB5.out
  clear hvd hb5
  go_wp2_with (go_at_call 18; fail)
  refine (susp_3 gb w4.heap.size (w4.heap.size + 1) w5 ((HQ.out _ (HU.out _ HB5.out)).mono (by omega)) (HL.out _ Hb5.out) (by have := Hb5.out.size; simp at this; omega)).mono ?_; rintro r w6 ⟨vs, vp, rfl, hvs, hvp, hb6⟩
  have Hvs := Lib.hid hvs; have Hvp := Lib.hid hvp; have Hb6 := Lib.hid hb6
  have HB6 := Lib.hid (show Below (w1.heap.size + 1) (w1.alloc (.cells #[.string ⟨#[113]⟩, .int .i64 0, .int .i64 0, .int .i64 2, .int .i64 1, .int .i64 1, .slice (some ⟨gb, 0, none⟩) 3 3] 47)) w6 from HB5.out.trans (hb6.mono (by omega)))
  have hs6 : w1.heap.size < w6.heap.size := (by have := HB6.out.size; simp at this; omega)
  obtain ⟨b60, b61, b62, b63, b64, b65, b66⟩ := HBx.out w6 HB6.out
  clear hvs hvp hb6
  go_wp2_with (go_at_call 18; fail)
  refine (marg_3 gb w1.heap.size w6 (HQ.out _ (HU.out _ HB6.out)) (by omega)).mono ?_; rintro r w7 ⟨rfl, hb7⟩; have Hb7 := Lib.hid hb7; clear hb7
  go_wp2_with (go_at_call 18; fail)
  have B57 := Lib.hid (Hb6.out.trans (Hb7.out.mono Hb6.out.size))
  have B47 := Lib.hid ((HU4.out _ Hb5.out).trans (B57.out.mono (HU4.out _ Hb5.out).size))
  have B37 := Lib.hid (Hb4.out.trans (B47.out.mono Hb4.out.size))
  have B27 := Lib.hid (Hb3.out.trans (B37.out.mono Hb3.out.size))
  have Oa := Lib.hid (own_below Hva.out B27.out)
  have Ob := Lib.hid (own_below Hvb.out B37.out)
  have Oc := Lib.hid (own_below Hvc.out B47.out)
  have Od := Lib.hid (own_below Hvd.out B57.out)
  have Os := Lib.hid (own_below Hvs.out Hb7.out)
  have Op := Lib.hid (own_below Hvp.out Hb7.out)
  have HBE := Lib.hid (show Below w.heap.size w w7 from Hb1.out.trans ((HU.out w6 HB6.out |>.trans (Hb7.out.mono (by omega))).mono Hb1.out.size))
  obtain ⟨gs, cs, rfl, _⟩ := own_form Os.out (by omega)
  obtain ⟨gp, cp, rfl, _⟩ := own_form Op.out (by omega)
  have s0 : w7.cell? ⟨gs, 0, none⟩ = some (.int .i64 0) := Os.out.cellAt 0 (by simp)
  have p0 : w7.cell? ⟨gp, 0, none⟩ = some (.int .i64 0) := Op.out.cellAt 0 (by simp)
  clear b20 b21 b22 b23 b24 b25 b26 b30 b31 b32 b33 b34 b35 b36 b40 b41 b42 b43 b44 b45 b46 b50 b51 b52 b53 b54 b55 b56 b60 b61 b62 b63 b64 b65 b66
  refine (one_at va (-5) 10 _ w7 Oa.out).mono ?_
  rintro r _ ⟨rfl, rfl⟩
  go_wp2_with (go_at_call 18; fail)
  refine (one_at vb (-5) 10 _ _ Ob.out).mono ?_
  rintro r _ ⟨rfl, rfl⟩
  go_wp2_with (go_at_call 18; fail)
  refine (one_at vc 3 6 _ _ Oc.out).mono ?_
  rintro r _ ⟨rfl, rfl⟩
  go_wp2_with (go_at_call 18; fail)
  refine (one_at vd (-1) 1 _ _ Od.out).mono ?_
  rintro r _ ⟨rfl, rfl⟩
  go_wp2
  go_ret
  exact ⟨rfl, HBE.out⟩
end Go.Proofs.YtcgnpndfhhcplaaGreatDoor
