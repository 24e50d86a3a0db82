/-
  The response of a measure, package watch's and the specification's. Conditions: a valid plan's measures, bounds.
-/
import Derived.Test.YtcgnpndfhhcplaaPlanC
import Derived.Deep.CutRange
namespace W7
def selL (m x : Measure) : Bool := strEq x.crew m.crew && decide (m.rank < x.rank)
def selA (m x : Measure) : Bool := strEq x.crew m.crew && decide (x.rank < m.rank)
def respL (m : Measure) (l : List Measure) : Int := l.foldl (fun a x => if selL m x then max a x.takes else a) 0
def respA (m : Measure) (l : List Measure) : Int := l.foldl (fun a x => if selA m x then a + x.takes else a) 0
/-- the response of a measure -/
def respV (l : List Measure) (n : Nat) : Int := (l.getD n default).lag + respL (l.getD n default) l + respA (l.getD n default) l + (l.getD n default).takes
theorem respL_succ (m : Measure) (l : List Measure) (k : Nat) (h : k < l.length) : respL m (l.take (k + 1)) = if selL m l[k] then max (respL m (l.take k)) l[k].takes else respL m (l.take k) := by
  unfold respL; rw [List.take_succ_eq_append_getElem h, List.foldl_append]; rfl
theorem respA_succ (m : Measure) (l : List Measure) (k : Nat) (h : k < l.length) : respA m (l.take (k + 1)) = if selA m l[k] then respA m (l.take k) + l[k].takes else respA m (l.take k) := by
  unfold respA; rw [List.take_succ_eq_append_getElem h, List.foldl_append]; rfl
def MOk (l : List Measure) : Prop := l.length ≤ 16 ∧ ∀ m ∈ l, (m.name.size ≤ 9223372036854775807 ∧ m.crew.size ≤ 9223372036854775807) ∧ 0 ≤ m.rank ∧ m.rank ≤ 100000 ∧ 0 ≤ m.lag ∧ m.lag ≤ 100000 ∧ 0 ≤ m.takes ∧ m.takes ≤ 100000
theorem resp_bnd {l : List Measure} (h : MOk l) (m : Measure) : ∀ k, k ≤ l.length → (0 ≤ respL m (l.take k) ∧ respL m (l.take k) ≤ 100000) ∧ (0 ≤ respA m (l.take k) ∧ respA m (l.take k) ≤ 100000 * (k : Int)) := by
  intro k
  induction k with
  | zero => intro _; simp [respL, respA]
  | succ k ih =>
    intro hk
    obtain ⟨h1, h2⟩ := ih (by omega)
    have hm := h.2 l[k] (List.getElem_mem (by omega))
    rw [respL_succ m l k (by omega), respA_succ m l k (by omega)]
    constructor
    · split <;> omega
    · split <;> omega
end W7
namespace Go.Proofs.Ytcgnpndfhhcplaa
open Go.RowKit W7
set_option maxHeartbeats 2000000 in
set_option maxRecDepth 100000 in
theorem response_any (p : Plan) (n : Nat) (B : Nat) (w : World) (hp : PIn w B p) (hB : B ≤ w.heap.size) (hn : n < p.ms.length) (hok : MOk p.ms) :
    Calls Try.prog 61 #[.agg #[.slice p.qA p.qs.length p.qc, .slice p.mA p.ms.length p.mc, .slice p.aA p.al.length p.ac], .int .i64 n] w fun e w' => e = .returned (.int .i64 (respV p.ms n)) ∧ Below w.heap.size w w' := by
  have hmx := max_run Try.prog
  have hsl := hp.msl
  obtain ⟨MM, hMM⟩ : ∃ MM, p.mA = MM := ⟨_, rfl⟩
  rw [hMM] at hsl ⊢
  clear hMM hp
  obtain ⟨b, off, rfl, hbB, hcells⟩ := hsl (by omega)
  obtain ⟨l, hl⟩ : ∃ l, l = p.ms := ⟨_, rfl⟩
  rw [← hl] at hcells hn hok ⊢
  have hbw : b < w.heap.size := by omega
  obtain ⟨m, hm⟩ : ∃ m, m = l[n] := ⟨_, rfl⟩
  have HV := Lib.hid (show respV l n = m.lag + respL m (l.take l.length) + respA m (l.take l.length) + m.takes by unfold respV; rw [getD_lt hn, ← hm, List.take_length])
  have Hok := Lib.hid hok
  have hmo := hok.2 m (by rw [hm]; exact List.getElem_mem hn)
  have h16 := hok.1
  have HCl := Lib.hid (show ∀ (X : World), Below w.heap.size w X → ∀ i (h : i < l.length) j v, (encM l[i])[j]? = some v → X.cell? ⟨b, off + i * 5 + j, none⟩ = some v from fun X hX i h j v hv => (hX.cell (p := ⟨b, off + i * 5 + j, none⟩) hbw).trans (hcells i h j v hv))
  obtain ⟨W0, hW0⟩ : ∃ W0, W0 = w.alloc (.cells #[.slice p.qA p.qs.length p.qc, .slice (some ⟨b, off, none⟩) l.length p.mc, .slice p.aA p.al.length p.ac] 64) := ⟨_, rfl⟩
  obtain ⟨W1, hW1⟩ : ∃ W1, W1 = W0.alloc (.cells #[.string m.name, .string m.crew, .int .i64 m.rank, .int .i64 m.lag, .int .i64 m.takes] 101) := ⟨_, rfl⟩
  have HB0 := Lib.hid (show Below w.heap.size w W0 by rw [hW0]; exact (Below.refl _ _).alloc (Nat.le_refl _) _)
  have hs0 : W0.heap.size = w.heap.size + 1 := by rw [hW0]; simp
  have HB1 := Lib.hid (show Below w.heap.size w W1 by rw [hW1]; exact HB0.out.alloc (by omega) _)
  have hs1 : W1.heap.size = w.heap.size + 1 + 1 := by rw [hW1]; simp [hs0]
  have HP1 := Lib.hid (show ∀ (X : World), Below W1.heap.size W1 X → X.cell? ⟨w.heap.size, 1, none⟩ = some (.slice (some ⟨b, off, none⟩) l.length p.mc) from fun X hX =>
    (hX.cell (p := ⟨w.heap.size, 1, none⟩) (by simp; omega)).trans (by rw [hW1, World.cell?_alloc_lt _ _ _ (by simp; omega), hW0]; exact alloc_cell rfl))
  have HM1 := Lib.hid (show ∀ (X : World), Below W1.heap.size W1 X → ∀ j v, (#[.string m.name, .string m.crew, .int .i64 m.rank, .int .i64 m.lag, .int .i64 m.takes] : Array Value)[j]? = some v → X.cell? ⟨W0.heap.size, j, none⟩ = some v from fun X hX j v hv =>
    (hX.cell (p := ⟨W0.heap.size, j, none⟩) (by simp; omega)).trans (by rw [hW1]; exact alloc_cell hv))
  have z0 : W0.cell? ⟨b, off + n * 5, none⟩ = some (.string m.name) := by rw [hm]; exact HCl.out W0 HB0.out n hn 0 _ rfl
  have z1 : W0.cell? ⟨b, off + n * 5 + 1, none⟩ = some (.string m.crew) := by rw [hm]; exact HCl.out W0 HB0.out n hn 1 _ rfl
  have z2 : W0.cell? ⟨b, off + n * 5 + 2, none⟩ = some (.int .i64 m.rank) := by rw [hm]; exact HCl.out W0 HB0.out n hn 2 _ rfl
  have z3 : W0.cell? ⟨b, off + n * 5 + 3, none⟩ = some (.int .i64 m.lag) := by rw [hm]; exact HCl.out W0 HB0.out n hn 3 _ rfl
  have z4 : W0.cell? ⟨b, off + n * 5 + 4, none⟩ = some (.int .i64 m.takes) := by rw [hm]; exact HCl.out W0 HB0.out n hn 4 _ rfl
  have zp : W0.cell? ⟨w.heap.size, 1, none⟩ = some (.slice (some ⟨b, off, none⟩) l.length p.mc) := by rw [hW0]; exact alloc_cell rfl
  have hnI : (n : Int) < (l.length : Int) := by omega
  have HW0 := Lib.hid hW0
  have HW1 := Lib.hid hW1
  have hsA : w.heap.size < W0.heap.size := by omega
  have hsB : W0.heap.size < W1.heap.size := by omega
  clear hW0 hW1 hm hl hok hcells hs1 hs0
  go_enter Try.func61, Try.ntmps61
  go_upto_region 1 with fail
  rw [← HW0.out]
  go_upto_region 2 with fail
  rw [← HW1.out]
  have p1 := HP1.out W1 (Below.refl _ _)
  go_wp2
  clear p1 z0 z1 z2 z3 z4 zp
  go_loopw [6, 7, 18] (fun v6 v7 v18 wr => ∃ k : Nat, k ≤ l.length ∧ v18 = .int .i64 k ∧ v6 = .int .i64 (respL m (l.take k)) ∧ v7 = .int .i64 (respA m (l.take k)) ∧ Hid (Below W1.heap.size W1 wr)) (fun _ _ v18 _ => l.length - (intOf v18).toNat)
  case atStart => exact ⟨0, by omega, rfl, by simp [respL], by simp [respA], Lib.hid (Below.refl _ _)⟩
  case round =>
    obtain ⟨k, hk, rfl, rfl, rfl, Hb⟩ := hrel
    have hsz := Hb.out.size
    have hsw : w.heap.size < wr.heap.size := by omega
    have hsw0 : W0.heap.size < wr.heap.size := by omega
    have Hbw := Lib.hid (HB1.out.trans (Hb.out.mono (by omega)))
    have p1 := HP1.out wr Hb.out
    have d1 : wr.cell? ⟨W0.heap.size, 1, none⟩ = some (.string m.crew) := HM1.out wr Hb.out 1 _ rfl
    have d2 : wr.cell? ⟨W0.heap.size, 2, none⟩ = some (.int .i64 m.rank) := HM1.out wr Hb.out 2 _ rfl
    have d3 : wr.cell? ⟨W0.heap.size, 3, none⟩ = some (.int .i64 m.lag) := HM1.out wr Hb.out 3 _ rfl
    have d4 : wr.cell? ⟨W0.heap.size, 4, none⟩ = some (.int .i64 m.takes) := HM1.out wr Hb.out 4 _ rfl
    have hbd := resp_bnd Hok.out m k hk
    by_cases hlt : k < l.length
    · have HSL := Lib.hid (respL_succ m l k hlt)
      have HSA := Lib.hid (respA_succ m l k hlt)
      obtain ⟨x, hx⟩ : ∃ x, x = l[k] := ⟨_, rfl⟩
      obtain ⟨Lk, hLk⟩ : ∃ y, y = respL m (l.take k) := ⟨_, rfl⟩
      obtain ⟨Ak, hAk⟩ : ∃ y, y = respA m (l.take k) := ⟨_, rfl⟩
      have hxo := Hok.out.2 x (by rw [hx]; exact List.getElem_mem hlt)
      have c0 : wr.cell? ⟨b, off + k * 5, none⟩ = some (.string x.name) := by rw [hx]; exact HCl.out wr Hbw.out k hlt 0 _ rfl
      have c1 : wr.cell? ⟨b, off + k * 5 + 1, none⟩ = some (.string x.crew) := by rw [hx]; exact HCl.out wr Hbw.out k hlt 1 _ rfl
      have c2 : wr.cell? ⟨b, off + k * 5 + 2, none⟩ = some (.int .i64 x.rank) := by rw [hx]; exact HCl.out wr Hbw.out k hlt 2 _ rfl
      have c3 : wr.cell? ⟨b, off + k * 5 + 3, none⟩ = some (.int .i64 x.lag) := by rw [hx]; exact HCl.out wr Hbw.out k hlt 3 _ rfl
      have c4 : wr.cell? ⟨b, off + k * 5 + 4, none⟩ = some (.int .i64 x.takes) := by rw [hx]; exact HCl.out wr Hbw.out k hlt 4 _ rfl
      rw [← hx, ← hLk] at HSL
      rw [← hx, ← hAk] at HSA
      rw [← hLk, ← hAk] at hbd ⊢
      clear hx hLk hAk
      have HbN := Lib.hid (show Below W1.heap.size W1 (wr.alloc (.cells #[.string x.name, .string x.crew, .int .i64 x.rank, .int .i64 x.lag, .int .i64 x.takes] 101)) from Hb.out.alloc (by omega) _)
      by_cases hcr : x.crew.toList = m.crew.toList
      · have hse : strEq x.crew m.crew = true := by unfold strEq; simp [hcr]
        cases hr1 : decide (m.rank < x.rank)
        · cases hr2 : decide (x.rank < m.rank)
          · have hr3 : (x.rank == m.rank) = true := by have := of_decide_eq_false hr1; have := of_decide_eq_false hr2; simp; omega
            have HL2 := Lib.hid (show respL m (l.take (k + 1)) = Lk by rw [HSL.out]; unfold selL; rw [hse, hr1]; rfl)
            have HA2 := Lib.hid (show respA m (l.take (k + 1)) = Ak by rw [HSA.out]; unfold selA; rw [hse, hr2]; rfl)
            clear hse hr1 hr2
            go_wp2
            go_roundw
            case rel => exact ⟨k + 1, by omega, by go_num, by rw [HL2.out], by rw [HA2.out], HbN⟩
            case measure => simp [intOf]; omega
          · have hr3 : (x.rank == m.rank) = false := by have := of_decide_eq_true hr2; rw [beq_eq_false_iff_ne]; omega
            have HL2 := Lib.hid (show respL m (l.take (k + 1)) = Lk by rw [HSL.out]; unfold selL; rw [hse, hr1]; rfl)
            have HA2 := Lib.hid (show respA m (l.take (k + 1)) = Ak + x.takes by rw [HSA.out]; unfold selA; rw [hse, hr2]; rfl)
            clear hse hr2
            go_wp2
            go_roundw
            case rel => exact ⟨k + 1, by omega, by go_num, by rw [HL2.out], by rw [HA2.out], HbN⟩
            case measure => simp [intOf]; omega
        · have hr3 : (x.rank == m.rank) = false := by have := of_decide_eq_true hr1; rw [beq_eq_false_iff_ne]; omega
          have HL2 := Lib.hid (show respL m (l.take (k + 1)) = max Lk x.takes by rw [HSL.out]; unfold selL; rw [hse, hr1]; rfl)
          have HA2 := Lib.hid (show respA m (l.take (k + 1)) = Ak by rw [HSA.out]; unfold selA; rw [show decide (x.rank < m.rank) = false from decide_eq_false (by have := of_decide_eq_true hr1; omega), Bool.and_false]; rfl)
          clear hse
          go_wp2
          go_roundw
          case rel => exact ⟨k + 1, by omega, by go_num, by rw [HL2.out], by rw [HA2.out], HbN⟩
          case measure => simp [intOf]; omega
      · have hse : strEq x.crew m.crew = false := by unfold strEq; simp [hcr]
        have HL2 := Lib.hid (show respL m (l.take (k + 1)) = Lk by rw [HSL.out]; unfold selL; rw [hse]; rfl)
        have HA2 := Lib.hid (show respA m (l.take (k + 1)) = Ak by rw [HSA.out]; unfold selA; rw [hse]; rfl)
        clear hse
        go_wp2
        go_roundw
        case rel => exact ⟨k + 1, by omega, by go_num, by rw [HL2.out], by rw [HA2.out], HbN⟩
        case measure => simp [intOf]; omega
    · obtain rfl : k = l.length := by omega
      obtain ⟨Lk, hLk⟩ : ∃ y, y = respL m (l.take l.length) := ⟨_, rfl⟩
      obtain ⟨Ak, hAk⟩ : ∃ y, y = respA m (l.take l.length) := ⟨_, rfl⟩
      rw [← hLk, ← hAk] at hbd HV ⊢
      clear hLk hAk
      go_wp2
      go_ret
      exact ⟨ret_int (by rw [HV.out]), Hbw.out⟩
set_option maxHeartbeats 2000000 in
set_option maxRecDepth 100000 in
theorem refResponse_any (p : Plan) (n : Nat) (B : Nat) (w : World) (hp : PIn w B p) (hB : B ≤ w.heap.size) (hn : n < p.ms.length) (hok : MOk p.ms) :
    Calls Try.prog 63 #[.agg #[.slice p.qA p.qs.length p.qc, .slice p.mA p.ms.length p.mc, .slice p.aA p.al.length p.ac], .int .i64 n] w fun e w' => e = .returned (.int .i64 (respV p.ms n)) ∧ Below w.heap.size w w' := by
  have hmx := max_run Try.prog
  have hsl := hp.msl
  obtain ⟨MM, hMM⟩ : ∃ MM, p.mA = MM := ⟨_, rfl⟩
  rw [hMM] at hsl ⊢
  clear hMM hp
  obtain ⟨b, off, rfl, hbB, hcells⟩ := hsl (by omega)
  obtain ⟨l, hl⟩ : ∃ l, l = p.ms := ⟨_, rfl⟩
  rw [← hl] at hcells hn hok ⊢
  have hbw : b < w.heap.size := by omega
  obtain ⟨m, hm⟩ : ∃ m, m = l[n] := ⟨_, rfl⟩
  have HV := Lib.hid (show respV l n = m.lag + respL m (l.take l.length) + respA m (l.take l.length) + m.takes by unfold respV; rw [getD_lt hn, ← hm, List.take_length])
  have Hok := Lib.hid hok
  have hmo := hok.2 m (by rw [hm]; exact List.getElem_mem hn)
  have h16 := hok.1
  have HCl := Lib.hid (show ∀ (X : World), Below w.heap.size w X → ∀ i (h : i < l.length) j v, (encM l[i])[j]? = some v → X.cell? ⟨b, off + i * 5 + j, none⟩ = some v from fun X hX i h j v hv => (hX.cell (p := ⟨b, off + i * 5 + j, none⟩) hbw).trans (hcells i h j v hv))
  obtain ⟨W0, hW0⟩ : ∃ W0, W0 = w.alloc (.cells #[.slice p.qA p.qs.length p.qc, .slice (some ⟨b, off, none⟩) l.length p.mc, .slice p.aA p.al.length p.ac] 64) := ⟨_, rfl⟩
  obtain ⟨W1, hW1⟩ : ∃ W1, W1 = W0.alloc (.cells #[.string m.name, .string m.crew, .int .i64 m.rank, .int .i64 m.lag, .int .i64 m.takes] 101) := ⟨_, rfl⟩
  have HB0 := Lib.hid (show Below w.heap.size w W0 by rw [hW0]; exact (Below.refl _ _).alloc (Nat.le_refl _) _)
  have hs0 : W0.heap.size = w.heap.size + 1 := by rw [hW0]; simp
  have HB1 := Lib.hid (show Below w.heap.size w W1 by rw [hW1]; exact HB0.out.alloc (by omega) _)
  have hs1 : W1.heap.size = w.heap.size + 1 + 1 := by rw [hW1]; simp [hs0]
  have HP1 := Lib.hid (show ∀ (X : World), Below W1.heap.size W1 X → X.cell? ⟨w.heap.size, 1, none⟩ = some (.slice (some ⟨b, off, none⟩) l.length p.mc) from fun X hX =>
    (hX.cell (p := ⟨w.heap.size, 1, none⟩) (by simp; omega)).trans (by rw [hW1, World.cell?_alloc_lt _ _ _ (by simp; omega), hW0]; exact alloc_cell rfl))
  have HM1 := Lib.hid (show ∀ (X : World), Below W1.heap.size W1 X → ∀ j v, (#[.string m.name, .string m.crew, .int .i64 m.rank, .int .i64 m.lag, .int .i64 m.takes] : Array Value)[j]? = some v → X.cell? ⟨W0.heap.size, j, none⟩ = some v from fun X hX j v hv =>
    (hX.cell (p := ⟨W0.heap.size, j, none⟩) (by simp; omega)).trans (by rw [hW1]; exact alloc_cell hv))
  have z0 : W0.cell? ⟨b, off + n * 5, none⟩ = some (.string m.name) := by rw [hm]; exact HCl.out W0 HB0.out n hn 0 _ rfl
  have z1 : W0.cell? ⟨b, off + n * 5 + 1, none⟩ = some (.string m.crew) := by rw [hm]; exact HCl.out W0 HB0.out n hn 1 _ rfl
  have z2 : W0.cell? ⟨b, off + n * 5 + 2, none⟩ = some (.int .i64 m.rank) := by rw [hm]; exact HCl.out W0 HB0.out n hn 2 _ rfl
  have z3 : W0.cell? ⟨b, off + n * 5 + 3, none⟩ = some (.int .i64 m.lag) := by rw [hm]; exact HCl.out W0 HB0.out n hn 3 _ rfl
  have z4 : W0.cell? ⟨b, off + n * 5 + 4, none⟩ = some (.int .i64 m.takes) := by rw [hm]; exact HCl.out W0 HB0.out n hn 4 _ rfl
  have zp : W0.cell? ⟨w.heap.size, 1, none⟩ = some (.slice (some ⟨b, off, none⟩) l.length p.mc) := by rw [hW0]; exact alloc_cell rfl
  have hnI : (n : Int) < (l.length : Int) := by omega
  have HW0 := Lib.hid hW0
  have HW1 := Lib.hid hW1
  have hsA : w.heap.size < W0.heap.size := by omega
  have hsB : W0.heap.size < W1.heap.size := by omega
  clear hW0 hW1 hm hl hok hcells hs1 hs0
  go_enter Try.func63, Try.ntmps63
  go_upto_region 1 with fail
  rw [← HW0.out]
  go_upto_region 2 with fail
  rw [← HW1.out]
  have p1 := HP1.out W1 (Below.refl _ _)
  have d3 : W1.cell? ⟨W0.heap.size, 3, none⟩ = some (.int .i64 m.lag) := HM1.out W1 (Below.refl _ _) 3 _ rfl
  have d4 : W1.cell? ⟨W0.heap.size, 4, none⟩ = some (.int .i64 m.takes) := HM1.out W1 (Below.refl _ _) 4 _ rfl
  go_quiet (fail)
  go_wp2
  clear p1 z0 z1 z2 z3 z4 zp d3 d4
  go_loopw [6, 7, 8] (fun v6 v7 v18 wr => ∃ k : Nat, k ≤ l.length ∧ v18 = .int .i64 k ∧ v6 = .int .i64 (respL m (l.take k)) ∧ v7 = .int .i64 (m.lag + m.takes + respA m (l.take k)) ∧ Hid (Below W1.heap.size W1 wr)) (fun _ _ v18 _ => l.length - (intOf v18).toNat)
  case atStart => exact ⟨0, by omega, rfl, by simp [respL], by simp [respA], Lib.hid (below_drewN (Below.refl _ _) _)⟩
  case round =>
    obtain ⟨k, hk, rfl, rfl, rfl, Hb⟩ := hrel
    have hsz := Hb.out.size
    have hsw : w.heap.size < wr.heap.size := by omega
    have hsw0 : W0.heap.size < wr.heap.size := by omega
    have Hbw := Lib.hid (HB1.out.trans (Hb.out.mono (by omega)))
    have p1 := HP1.out wr Hb.out
    have d1 : wr.cell? ⟨W0.heap.size, 1, none⟩ = some (.string m.crew) := HM1.out wr Hb.out 1 _ rfl
    have d2 : wr.cell? ⟨W0.heap.size, 2, none⟩ = some (.int .i64 m.rank) := HM1.out wr Hb.out 2 _ rfl
    have d3 : wr.cell? ⟨W0.heap.size, 3, none⟩ = some (.int .i64 m.lag) := HM1.out wr Hb.out 3 _ rfl
    have d4 : wr.cell? ⟨W0.heap.size, 4, none⟩ = some (.int .i64 m.takes) := HM1.out wr Hb.out 4 _ rfl
    have hbd := resp_bnd Hok.out m k hk
    by_cases hlt : k < l.length
    · have HSL := Lib.hid (respL_succ m l k hlt)
      have HSA := Lib.hid (respA_succ m l k hlt)
      obtain ⟨x, hx⟩ : ∃ x, x = l[k] := ⟨_, rfl⟩
      obtain ⟨Lk, hLk⟩ : ∃ y, y = respL m (l.take k) := ⟨_, rfl⟩
      obtain ⟨Ak, hAk⟩ : ∃ y, y = respA m (l.take k) := ⟨_, rfl⟩
      have hxo := Hok.out.2 x (by rw [hx]; exact List.getElem_mem hlt)
      have c0 : wr.cell? ⟨b, off + k * 5, none⟩ = some (.string x.name) := by rw [hx]; exact HCl.out wr Hbw.out k hlt 0 _ rfl
      have c1 : wr.cell? ⟨b, off + k * 5 + 1, none⟩ = some (.string x.crew) := by rw [hx]; exact HCl.out wr Hbw.out k hlt 1 _ rfl
      have c2 : wr.cell? ⟨b, off + k * 5 + 2, none⟩ = some (.int .i64 x.rank) := by rw [hx]; exact HCl.out wr Hbw.out k hlt 2 _ rfl
      have c3 : wr.cell? ⟨b, off + k * 5 + 3, none⟩ = some (.int .i64 x.lag) := by rw [hx]; exact HCl.out wr Hbw.out k hlt 3 _ rfl
      have c4 : wr.cell? ⟨b, off + k * 5 + 4, none⟩ = some (.int .i64 x.takes) := by rw [hx]; exact HCl.out wr Hbw.out k hlt 4 _ rfl
      rw [← hx, ← hLk] at HSL
      rw [← hx, ← hAk] at HSA
      rw [← hLk, ← hAk] at hbd ⊢
      clear hx hLk hAk
      have HbN := Lib.hid (show Below W1.heap.size W1 (wr.alloc (.cells #[.string x.name, .string x.crew, .int .i64 x.rank, .int .i64 x.lag, .int .i64 x.takes] 101)) from Hb.out.alloc (by omega) _)
      by_cases hcr : x.crew.toList = m.crew.toList
      · have hse : strEq x.crew m.crew = true := by unfold strEq; simp [hcr]
        cases hr1 : decide (m.rank < x.rank)
        · cases hr2 : decide (x.rank < m.rank)
          · have hr3 : (x.rank == m.rank) = true := by have := of_decide_eq_false hr1; have := of_decide_eq_false hr2; simp; omega
            have HL2 := Lib.hid (show respL m (l.take (k + 1)) = Lk by rw [HSL.out]; unfold selL; rw [hse, hr1]; rfl)
            have HA2 := Lib.hid (show respA m (l.take (k + 1)) = Ak by rw [HSA.out]; unfold selA; rw [hse, hr2]; rfl)
            clear hse
            go_wp2
            go_roundw
            case rel => exact ⟨k + 1, by omega, by go_num, by rw [HL2.out], by rw [HA2.out], HbN⟩
            case measure => simp [intOf]; omega
          · have hr3 : (x.rank == m.rank) = false := by have := of_decide_eq_true hr2; rw [beq_eq_false_iff_ne]; omega
            have HL2 := Lib.hid (show respL m (l.take (k + 1)) = Lk by rw [HSL.out]; unfold selL; rw [hse, hr1]; rfl)
            have HA2 := Lib.hid (show respA m (l.take (k + 1)) = Ak + x.takes by rw [HSA.out]; unfold selA; rw [hse, hr2]; rfl)
            clear hse
            go_wp2
            go_roundw
            case rel => exact ⟨k + 1, by omega, by go_num, by rw [HL2.out], by rw [HA2.out, ← Int.add_assoc], HbN⟩
            case measure => simp [intOf]; omega
        · have hr3 : (x.rank == m.rank) = false := by have := of_decide_eq_true hr1; rw [beq_eq_false_iff_ne]; omega
          have HL2 := Lib.hid (show respL m (l.take (k + 1)) = max Lk x.takes by rw [HSL.out]; unfold selL; rw [hse, hr1]; rfl)
          have hr2 : decide (x.rank < m.rank) = false := decide_eq_false (by have := of_decide_eq_true hr1; omega)
          have HA2 := Lib.hid (show respA m (l.take (k + 1)) = Ak by rw [HSA.out]; unfold selA; rw [show decide (x.rank < m.rank) = false from decide_eq_false (by have := of_decide_eq_true hr1; omega), Bool.and_false]; rfl)
          clear hse
          go_wp2
          go_roundw
          case rel => exact ⟨k + 1, by omega, by go_num, by rw [HL2.out], by rw [HA2.out], HbN⟩
          case measure => simp [intOf]; omega
      · have hse : strEq x.crew m.crew = false := by unfold strEq; simp [hcr]
        have hnb : (!x.crew.toList == m.crew.toList) = true := by simp [hcr]
        have HL2 := Lib.hid (show respL m (l.take (k + 1)) = Lk by rw [HSL.out]; unfold selL; rw [hse]; rfl)
        have HA2 := Lib.hid (show respA m (l.take (k + 1)) = Ak by rw [HSA.out]; unfold selA; rw [hse]; rfl)
        clear hse
        go_wp2
        go_roundw
        case rel => exact ⟨k + 1, by omega, by go_num, by rw [HL2.out], by rw [HA2.out], HbN⟩
        case measure => simp [intOf]; omega
    · obtain rfl : k = l.length := by omega
      obtain ⟨Lk, hLk⟩ : ∃ y, y = respL m (l.take l.length) := ⟨_, rfl⟩
      obtain ⟨Ak, hAk⟩ : ∃ y, y = respA m (l.take l.length) := ⟨_, rfl⟩
      rw [← hLk, ← hAk] at hbd HV ⊢
      clear hLk hAk
      go_wp2
      go_ret
      exact ⟨ret_int (by rw [HV.out]; omega), Hbw.out⟩
end Go.Proofs.Ytcgnpndfhhcplaa
