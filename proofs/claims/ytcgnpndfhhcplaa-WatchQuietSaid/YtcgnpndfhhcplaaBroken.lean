/-
  The law's gauges that have failed: at most as many as may. Conditions: bounds.
-/
import Derived.Test.YtcgnpndfhhcplaaWalk
namespace Go.Proofs.Ytcgnpndfhhcplaa
open Go.RowKit W7
attribute [local go_sem] Oper.semAt_some
theorem count_set_le : ∀ (bs : List Bool) (k : Nat), (bs.set k true).count true ≤ bs.count true + 1
  | [], _ => by simp
  | b :: bs, 0 => by simp only [List.set_cons_zero, List.count_cons]; split <;> split <;> simp_all <;> omega
  | b :: bs, k + 1 => by
    have := count_set_le bs k
    simp only [List.set_cons_succ, List.count_cons]
    omega
def BrokenR (q : Quantity) (w : World) (e : Ending) (w' : World) : Prop :=
  ∃ (g : Nat) (bs : List Bool), e = .returned (.slice (some ⟨g, 0, none⟩) bs.length bs.length) ∧ bs.length = q.gs.length ∧ (bs.count true : Int) ≤ q.bad ∧
    w'.ownsRow w.heap.size 4 1 (.slice (some ⟨g, 0, none⟩) bs.length bs.length) bs.length (bs.map .bool) ∧ Below w.heap.size w w'
set_option maxHeartbeats 1000000 in
set_option maxRecDepth 100000 in
theorem broken_any (q : Quantity) (bt : Int) (w : World) (hgl : q.gs.length ≤ 8) (hb0 : 0 ≤ q.bad) (hbn : q.bad ≤ q.gs.length) :
    Calls Try.prog 22 #[.agg #[.string q.name, .int .i64 q.lo, .int .i64 q.hi, .int .i64 q.rise, .int .i64 q.fall, .int .i64 q.bad, .slice q.gA q.gs.length q.gc], .int .i64 bt] w (BrokenR q w) := by
  obtain ⟨W0, hW0⟩ : ∃ W0, W0 = w.alloc (.cells #[.string q.name, .int .i64 q.lo, .int .i64 q.hi, .int .i64 q.rise, .int .i64 q.fall, .int .i64 q.bad, .slice q.gA q.gs.length q.gc] 26) := ⟨_, rfl⟩
  have HB0 := Lib.hid (show Below w.heap.size w W0 by rw [hW0]; exact (Below.refl _ _).alloc (Nat.le_refl _) _)
  have hs0 : w.heap.size < W0.heap.size := by rw [hW0]; simp
  have HQ0 := Lib.hid (show ∀ (X : World), Below W0.heap.size W0 X → ∀ j v, (#[.string q.name, .int .i64 q.lo, .int .i64 q.hi, .int .i64 q.rise, .int .i64 q.fall, .int .i64 q.bad, .slice q.gA q.gs.length q.gc] : Array Value)[j]? = some v → X.cell? ⟨w.heap.size, j, none⟩ = some v from fun X hX j v hv =>
    (hX.cell (p := ⟨w.heap.size, j, none⟩) hs0).trans (by rw [hW0]; exact alloc_cell hv))
  have c6 := HQ0.out W0 (Below.refl _ _) 6 _ rfl
  obtain ⟨ii, hinf, hinf1, hinf2, hinf3⟩ := info_parts (show (Try.prog.info? 4).map (fun i => (i.zero, i.size, i.bytes)) = some (some (.bool false), 1, 1) by kernel_rfl)
  have HW0 := Lib.hid hW0
  clear hW0
  go_enter Try.func22, Try.ntmps22
  go_wp2_with (at_make; rw [← HW0.out]; refine wpList_make_full _ rfl _ _ 48 rfl W0.heap.size 4 _ (.bool false) 1 Try.underlying48 hinf hinf1 hinf2 .i64 .i64 _ _ q.gs.length rfl rfl rfl rfl (by rw [hinf3]; omega) (by unfold maxLen; omega) (Nat.le_refl _) ?_; intro w1 hown1 hg1; have Hb1 := Lib.hid ((Below.refl W0.heap.size W0).grown hg1 (Nat.le_refl _) (fun k hk => by cases hk)); have Hown1 := Lib.hid hown1; clear hown1 hg1)
  obtain ⟨gb, hgb⟩ : ∃ gb, gb = W0.heap.size := ⟨_, rfl⟩
  have hgb0 : w.heap.size < gb := by omega
  obtain ⟨N, hN⟩ : ∃ N, N = q.gs.length := ⟨_, rfl⟩
  rw [← hgb, ← hN] at Hown1
  rw [← hgb] at HQ0 ⊢
  rw [← hN]
  rw [← hN] at hgl hbn
  have Hgb := Lib.hid hgb
  have HN := Lib.hid hN
  have H0 := Lib.hid (show w1.ownsRow gb 4 1 (.slice (some ⟨gb, 0, none⟩) N N) N ((List.replicate N false).map .bool) by
    have h := Hown1.out
    rw [show (madeCells (Value.bool false).cells (N * 1)).toList = (List.replicate N false).map .bool by show (madeCells (#[Value.bool false] : Array Value) (N * 1)).toList = _; rw [toList_madeCells_one, Nat.mul_one, List.map_replicate]] at h
    exact h)
  clear hgb hN Hown1
  go_loopw [6, 7] (fun v6 v7 wr => ∃ (k m : Nat) (bs : List Bool), k ≤ N ∧ v7 = .int .i64 k ∧ v6 = .int .i64 m ∧ m ≤ 8 ∧ Hid (bs.length = N) ∧ Hid (bs.count true ≤ m ∧ (m : Int) ≤ q.bad) ∧ Hid (wr.ownsRow gb 4 1 (.slice (some ⟨gb, 0, none⟩) N N) N (bs.map .bool)) ∧ Hid (Below gb W0 wr)) (fun _ v7 _ => N - (intOf v7).toNat)
  case atStart => exact ⟨0, 0, List.replicate N false, by omega, rfl, rfl, by omega, Lib.hid (by simp), Lib.hid ⟨by simp [List.count_replicate], by simpa using hb0⟩, H0, Lib.hid (by rw [Hgb.out]; exact Hb1.out)⟩
  case round =>
    obtain ⟨k, m, bs, hk, rfl, rfl, hm, Hl, Hc, Ho, Hb⟩ := hrel
    have hsz := Hb.out.size
    have c5 := HQ0.out wr (by have := Hb.out; rwa [Hgb.out] at this) 5 _ rfl
    by_cases hlt : k < N
    · have hkb : k < bs.length := by have := Hl.out; omega
      have hcell : wr.cell? ⟨gb, k, none⟩ = some (.bool bs[k]) := (Ho.out.cellAt k (by omega)).trans (by simp [hkb])
      have fz := Ho.out.frozenAt k
      have HCn := Lib.hid (count_set_le bs k)
      cases hbit : (bits .and .i64 (bt / 2 ^ k) 1 == 1)
      · go_wp2
        go_roundw
        case rel => exact ⟨k + 1, m, bs, by omega, by go_num, rfl, hm, Hl, Hc, Ho, Hb⟩
        case measure => simp [intOf]; omega
      · cases hmb : decide ((m : Int) < q.bad)
        · go_wp2
          go_roundw
          case rel => exact ⟨k + 1, m, bs, by omega, by go_num, rfl, hm, Hl, Hc, Ho, Hb⟩
          case measure => simp [intOf]; omega
        · have hmb2 : (m : Int) < q.bad := by simpa using hmb
          go_wp2
          go_roundw
          case rel =>
            obtain ⟨h1, g1⟩ := Ho.out.stored k (.bool true)
            refine ⟨k + 1, m + 1, bs.set k true, by omega, by go_num, by go_num, by omega, Lib.hid (by rw [List.length_set]; exact Hl.out), Lib.hid ⟨by have := Hc.out.1; have := HCn.out; omega, by omega⟩, Lib.hid (by rw [List.map_set]; exact h1), Lib.hid (Hb.out.grown g1 (by have := Hgb.out; omega) (fun k hk => by cases hk; omega))⟩
          case measure => simp [intOf]; omega
    · obtain rfl : k = N := by omega
      go_wp2
      go_ret
      refine ⟨gb, bs, by rw [Hl.out]; rfl, by rw [Hl.out, HN.out], by have := Hc.out; omega, by rw [Hl.out]; exact own_mono Ho.out (by omega), HB0.out.trans (Hb.out.mono (by omega))⟩
end Go.Proofs.Ytcgnpndfhhcplaa
