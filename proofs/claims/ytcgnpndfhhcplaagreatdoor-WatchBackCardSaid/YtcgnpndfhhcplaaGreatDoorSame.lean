/-
  Are two plans equal: package watch's Same and its specification's. Conditions: how the plans lie in memory.
  Are two plans equal: package watch's Same; its specification's of two quantities. Conditions: how the plans lie in memory.
  Are two plans equal: the specification's Same. Conditions: how the plans lie in memory.
  Plain: plans that are alike but for their addresses are equal. No program.
-/
import Derived.Test.YtcgnpndfhhcplaaGreatDoorChkQ
import Derived.Deep.CutRange
import Derived.Test.YtcgnpndfhhcplaaGreatDoorRange
import Derived.Test.YtcgnpndfhhcplaaGreatDoorTxt
namespace W7
/-- are two lists equal, element by element -/
def listEq {α : Type} [Inhabited α] (eq : α → α → Bool) (xs ys : List α) : Bool := decide (xs.length = ys.length) && (List.range xs.length).all fun i => eq (xs.getD i default) (ys.getD i default)
def preEq {α : Type} [Inhabited α] (eq : α → α → Bool) (xs ys : List α) (k : Nat) : Bool := (List.range k).all fun i => eq (xs.getD i default) (ys.getD i default)
section
variable {α : Type} [Inhabited α] {eq : α → α → Bool} {xs ys : List α}
theorem preEq_succ {k : Nat} (h : preEq eq xs ys k = true) (hk : k < xs.length) (hk2 : k < ys.length) (he : eq xs[k] ys[k] = true) : preEq eq xs ys (k + 1) = true := by
  unfold preEq at *
  rw [List.range_succ, List.all_append, h, List.all_cons, List.all_nil, getD_lt hk, getD_lt hk2, he]
  rfl
theorem listEq_lens (h : xs.length ≠ ys.length) : listEq eq xs ys = false := by unfold listEq; rw [decide_eq_false h]; rfl
theorem listEq_done (h : xs.length = ys.length) (hp : preEq eq xs ys xs.length = true) : listEq eq xs ys = true := by
  unfold listEq; rw [decide_eq_true h]; exact hp
theorem listEq_no {k : Nat} (hk : k < xs.length) (hk2 : k < ys.length) (he : eq xs[k] ys[k] = false) : listEq eq xs ys = false := by
  unfold listEq
  rw [Bool.and_eq_false_iff]
  refine .inr ?_
  rw [List.all_eq_false]
  exact ⟨k, by simpa using hk, by rw [getD_lt hk, getD_lt hk2, he]; decide⟩
theorem listEq_refl (h : ∀ x, eq x x = true) : listEq eq xs xs = true := by
  unfold listEq
  rw [decide_eq_true rfl, Bool.true_and, List.all_eq_true]
  exact fun i _ => h _
end
def gaugeEq (x y : Gauge) : Bool := strEq x.name y.name && ((x.acc == y.acc) && ((x.drift == y.drift) && (x.since == y.since)))
def measEq (x y : Measure) : Bool := strEq x.name y.name && (strEq x.crew y.crew && ((x.rank == y.rank) && ((x.lag == y.lag) && (x.takes == y.takes))))
def alarmEq (x y : Alarm) : Bool := (x.q == y.q) && ((x.level == y.level) && ((x.limit == y.limit) && (x.m == y.m)))
def quantEq (x y : Quantity) : Bool := strEq x.name y.name && ((x.lo == y.lo) && ((x.hi == y.hi) && ((x.rise == y.rise) && ((x.fall == y.fall) && ((x.bad == y.bad) && listEq gaugeEq x.gs y.gs)))))
def sameP (a b : Plan) : Bool := listEq quantEq a.qs b.qs && (listEq measEq a.ms b.ms && listEq alarmEq a.al b.al)
theorem strEq_refl (a : ByteArray) : strEq a a = true := by simp [strEq]
theorem gaugeEq_refl (x : Gauge) : gaugeEq x x = true := by simp [gaugeEq, strEq_refl]
theorem measEq_refl (x : Measure) : measEq x x = true := by simp [measEq, strEq_refl]
theorem alarmEq_refl (x : Alarm) : alarmEq x x = true := by simp [alarmEq]
theorem quantEq_refl (x : Quantity) : quantEq x x = true := by simp [quantEq, strEq_refl, listEq_refl gaugeEq_refl]
theorem sameP_refl (p : Plan) : sameP p p = true := by unfold sameP; rw [listEq_refl quantEq_refl, listEq_refl measEq_refl, listEq_refl alarmEq_refl]; rfl
end W7
namespace Go.Proofs.YtcgnpndfhhcplaaGreatDoor
open Go.RowKit W7
attribute [local go_sem] Oper.semAt_some
set_option maxHeartbeats 2000000 in
set_option maxRecDepth 100000 in
theorem eqsGauge_any (xs ys : List Gauge) (n m : Nat) (hn : n = xs.length) (hm : m = ys.length) (A A' : Option Addr) (c c' B : Nat) (w : World) (hA : Sl w B 4 encG A xs) (hB : Sl w B 4 encG A' ys) (hw : B ≤ w.heap.size) (hl : xs.length ≤ 9223372036854775807) (hl2 : ys.length ≤ 9223372036854775807) :
    Calls Tryz.prog 41 #[.slice A n c, .slice A' m c'] w fun e w' => e = .returned (.bool (listEq gaugeEq xs ys)) ∧ Below w.heap.size w w' := by
  have HA := Lib.hid hA
  have HB := Lib.hid hB
  clear hA hB
  by_cases hlen : xs.length = ys.length
  rotate_left
  · have HL := Lib.hid (listEq_lens (eq := gaugeEq) hlen)
    have hne : ((n : Int) != (m : Int)) = true := by subst hn; subst hm; simp; omega
    clear hn hm hlen
    go_enter Tryz.func41, Tryz.ntmps41
    go_wp2
    go_ret
    exact ⟨ret_bool HL.out.symm, Below.refl _ _⟩
  obtain rfl : m = n := by omega
  have hne : ((m : Int) != (m : Int)) = false := by simp
  have HL := Lib.hid hlen
  have hml : m ≤ 9223372036854775807 := by omega
  have HX := Lib.hid hn
  have HY := Lib.hid hm
  clear hlen hn hm
  go_enter Tryz.func41, Tryz.ntmps41
  go_wp2
  go_loopw [13] (fun v wr => ∃ i : Nat, i ≤ m ∧ v = .int .i64 i ∧ Hid (preEq gaugeEq xs ys i = true) ∧ Hid (Below w.heap.size w wr)) (fun v _ => m - (intOf v).toNat)
  case atStart => exact ⟨0, by omega, rfl, Lib.hid rfl, Lib.hid (Below.refl _ _)⟩
  case round =>
    obtain ⟨i, hi, rfl, Hp, Hb⟩ := hrel
    by_cases hlt : i < m
    · have hxi : i < xs.length := by have := HX.out; omega
      have hyi : i < ys.length := by have := HY.out; omega
      obtain ⟨b1, o1, rfl, hb1, hc1⟩ := HA.out (by omega)
      obtain ⟨b2, o2, rfl, hb2, hc2⟩ := HB.out (by omega)
      have hbw1 : b1 < w.heap.size := by omega
      have hbw2 : b2 < w.heap.size := by omega
      have Hyes := Lib.hid (preEq_succ (eq := gaugeEq) Hp.out hxi hyi)
      have Hno := Lib.hid (listEq_no (eq := gaugeEq) hxi hyi)
      obtain ⟨x, hx⟩ : ∃ x, x = xs[i] := ⟨_, rfl⟩
      obtain ⟨y, hy⟩ : ∃ y, y = ys[i] := ⟨_, rfl⟩
      have x0 : wr.cell? ⟨b1, o1 + i * 4, none⟩ = some (.string x.name) := by rw [hx]; exact (Hb.out.cell (p := ⟨b1, o1 + i * 4 + 0, none⟩) hbw1).trans (hc1 i hxi 0 _ rfl)
      have y0 : wr.cell? ⟨b2, o2 + i * 4, none⟩ = some (.string y.name) := by rw [hy]; exact (Hb.out.cell (p := ⟨b2, o2 + i * 4 + 0, none⟩) hbw2).trans (hc2 i hyi 0 _ rfl)
      have x1 : wr.cell? ⟨b1, o1 + i * 4 + 1, none⟩ = some (.int .i64 x.acc) := by rw [hx]; exact (Hb.out.cell (p := ⟨b1, o1 + i * 4 + 1, none⟩) hbw1).trans (hc1 i hxi 1 _ rfl)
      have y1 : wr.cell? ⟨b2, o2 + i * 4 + 1, none⟩ = some (.int .i64 y.acc) := by rw [hy]; exact (Hb.out.cell (p := ⟨b2, o2 + i * 4 + 1, none⟩) hbw2).trans (hc2 i hyi 1 _ rfl)
      have x2 : wr.cell? ⟨b1, o1 + i * 4 + 2, none⟩ = some (.int .i64 x.drift) := by rw [hx]; exact (Hb.out.cell (p := ⟨b1, o1 + i * 4 + 2, none⟩) hbw1).trans (hc1 i hxi 2 _ rfl)
      have y2 : wr.cell? ⟨b2, o2 + i * 4 + 2, none⟩ = some (.int .i64 y.drift) := by rw [hy]; exact (Hb.out.cell (p := ⟨b2, o2 + i * 4 + 2, none⟩) hbw2).trans (hc2 i hyi 2 _ rfl)
      have x3 : wr.cell? ⟨b1, o1 + i * 4 + 3, none⟩ = some (.int .i64 x.since) := by rw [hx]; exact (Hb.out.cell (p := ⟨b1, o1 + i * 4 + 3, none⟩) hbw1).trans (hc1 i hxi 3 _ rfl)
      have y3 : wr.cell? ⟨b2, o2 + i * 4 + 3, none⟩ = some (.int .i64 y.since) := by rw [hy]; exact (Hb.out.cell (p := ⟨b2, o2 + i * 4 + 3, none⟩) hbw2).trans (hc2 i hyi 3 _ rfl)
      rw [← hx, ← hy] at Hyes Hno
      clear hx hy hc1 hc2
      have hsz := Hb.out.size
      cases e0 : (x.name.toList == y.name.toList)
      · have Hr := Lib.hid (Hno.out (by simp [gaugeEq, strEq, e0]))
        go_wp2
        go_quiet (fail)
        go_wp2
        go_ret
        exact ⟨ret_bool Hr.out.symm, below_drewN Hb.out _⟩
      · skip
        cases e1 : (x.acc == y.acc)
        · have Hr := Lib.hid (Hno.out (by simp [gaugeEq, strEq, e0, e1]))
          go_wp2
          go_quiet (fail)
          go_wp2
          go_ret
          exact ⟨ret_bool Hr.out.symm, below_drewN Hb.out _⟩
        · skip
          cases e2 : (x.drift == y.drift)
          · have Hr := Lib.hid (Hno.out (by simp [gaugeEq, strEq, e0, e1, e2]))
            go_wp2
            go_quiet (fail)
            go_wp2
            go_ret
            exact ⟨ret_bool Hr.out.symm, below_drewN Hb.out _⟩
          · skip
            cases e3 : (x.since == y.since)
            · have Hr := Lib.hid (Hno.out (by simp [gaugeEq, strEq, e0, e1, e2, e3]))
              go_wp2
              go_quiet (fail)
              go_wp2
              go_ret
              exact ⟨ret_bool Hr.out.symm, below_drewN Hb.out _⟩
            · skip
              have Hr := Lib.hid (Hyes.out (by simp [gaugeEq, strEq, e0, e1, e2, e3]))
              go_wp2
              go_quiet (fail)
              go_wp2
              go_roundw
              case rel => exact ⟨i + 1, by omega, by go_num, Hr, Lib.hid (below_drewN Hb.out _)⟩
              case measure => simp [intOf]; omega
    · obtain rfl : i = m := by omega
      have HR := Lib.hid (listEq_done (eq := gaugeEq) HL.out (by rw [← HX.out]; exact Hp.out))
      go_wp2
      go_ret
      exact ⟨ret_bool HR.out.symm, Hb.out⟩
set_option maxHeartbeats 2000000 in
set_option maxRecDepth 100000 in
theorem eqsMeasure_any (xs ys : List Measure) (n m : Nat) (hn : n = xs.length) (hm : m = ys.length) (A A' : Option Addr) (c c' B : Nat) (w : World) (hA : Sl w B 5 encM A xs) (hB : Sl w B 5 encM A' ys) (hw : B ≤ w.heap.size) (hl : xs.length ≤ 9223372036854775807) (hl2 : ys.length ≤ 9223372036854775807) :
    Calls Tryz.prog 43 #[.slice A n c, .slice A' m c'] w fun e w' => e = .returned (.bool (listEq measEq xs ys)) ∧ Below w.heap.size w w' := by
  have HA := Lib.hid hA
  have HB := Lib.hid hB
  clear hA hB
  by_cases hlen : xs.length = ys.length
  rotate_left
  · have HL := Lib.hid (listEq_lens (eq := measEq) hlen)
    have hne : ((n : Int) != (m : Int)) = true := by subst hn; subst hm; simp; omega
    clear hn hm hlen
    go_enter Tryz.func43, Tryz.ntmps43
    go_wp2
    go_ret
    exact ⟨ret_bool HL.out.symm, Below.refl _ _⟩
  obtain rfl : m = n := by omega
  have hne : ((m : Int) != (m : Int)) = false := by simp
  have HL := Lib.hid hlen
  have hml : m ≤ 9223372036854775807 := by omega
  have HX := Lib.hid hn
  have HY := Lib.hid hm
  clear hlen hn hm
  go_enter Tryz.func43, Tryz.ntmps43
  go_wp2
  go_loopw [13] (fun v wr => ∃ i : Nat, i ≤ m ∧ v = .int .i64 i ∧ Hid (preEq measEq xs ys i = true) ∧ Hid (Below w.heap.size w wr)) (fun v _ => m - (intOf v).toNat)
  case atStart => exact ⟨0, by omega, rfl, Lib.hid rfl, Lib.hid (Below.refl _ _)⟩
  case round =>
    obtain ⟨i, hi, rfl, Hp, Hb⟩ := hrel
    by_cases hlt : i < m
    · have hxi : i < xs.length := by have := HX.out; omega
      have hyi : i < ys.length := by have := HY.out; omega
      obtain ⟨b1, o1, rfl, hb1, hc1⟩ := HA.out (by omega)
      obtain ⟨b2, o2, rfl, hb2, hc2⟩ := HB.out (by omega)
      have hbw1 : b1 < w.heap.size := by omega
      have hbw2 : b2 < w.heap.size := by omega
      have Hyes := Lib.hid (preEq_succ (eq := measEq) Hp.out hxi hyi)
      have Hno := Lib.hid (listEq_no (eq := measEq) hxi hyi)
      obtain ⟨x, hx⟩ : ∃ x, x = xs[i] := ⟨_, rfl⟩
      obtain ⟨y, hy⟩ : ∃ y, y = ys[i] := ⟨_, rfl⟩
      have x0 : wr.cell? ⟨b1, o1 + i * 5, none⟩ = some (.string x.name) := by rw [hx]; exact (Hb.out.cell (p := ⟨b1, o1 + i * 5 + 0, none⟩) hbw1).trans (hc1 i hxi 0 _ rfl)
      have y0 : wr.cell? ⟨b2, o2 + i * 5, none⟩ = some (.string y.name) := by rw [hy]; exact (Hb.out.cell (p := ⟨b2, o2 + i * 5 + 0, none⟩) hbw2).trans (hc2 i hyi 0 _ rfl)
      have x1 : wr.cell? ⟨b1, o1 + i * 5 + 1, none⟩ = some (.string x.crew) := by rw [hx]; exact (Hb.out.cell (p := ⟨b1, o1 + i * 5 + 1, none⟩) hbw1).trans (hc1 i hxi 1 _ rfl)
      have y1 : wr.cell? ⟨b2, o2 + i * 5 + 1, none⟩ = some (.string y.crew) := by rw [hy]; exact (Hb.out.cell (p := ⟨b2, o2 + i * 5 + 1, none⟩) hbw2).trans (hc2 i hyi 1 _ rfl)
      have x2 : wr.cell? ⟨b1, o1 + i * 5 + 2, none⟩ = some (.int .i64 x.rank) := by rw [hx]; exact (Hb.out.cell (p := ⟨b1, o1 + i * 5 + 2, none⟩) hbw1).trans (hc1 i hxi 2 _ rfl)
      have y2 : wr.cell? ⟨b2, o2 + i * 5 + 2, none⟩ = some (.int .i64 y.rank) := by rw [hy]; exact (Hb.out.cell (p := ⟨b2, o2 + i * 5 + 2, none⟩) hbw2).trans (hc2 i hyi 2 _ rfl)
      have x3 : wr.cell? ⟨b1, o1 + i * 5 + 3, none⟩ = some (.int .i64 x.lag) := by rw [hx]; exact (Hb.out.cell (p := ⟨b1, o1 + i * 5 + 3, none⟩) hbw1).trans (hc1 i hxi 3 _ rfl)
      have y3 : wr.cell? ⟨b2, o2 + i * 5 + 3, none⟩ = some (.int .i64 y.lag) := by rw [hy]; exact (Hb.out.cell (p := ⟨b2, o2 + i * 5 + 3, none⟩) hbw2).trans (hc2 i hyi 3 _ rfl)
      have x4 : wr.cell? ⟨b1, o1 + i * 5 + 4, none⟩ = some (.int .i64 x.takes) := by rw [hx]; exact (Hb.out.cell (p := ⟨b1, o1 + i * 5 + 4, none⟩) hbw1).trans (hc1 i hxi 4 _ rfl)
      have y4 : wr.cell? ⟨b2, o2 + i * 5 + 4, none⟩ = some (.int .i64 y.takes) := by rw [hy]; exact (Hb.out.cell (p := ⟨b2, o2 + i * 5 + 4, none⟩) hbw2).trans (hc2 i hyi 4 _ rfl)
      rw [← hx, ← hy] at Hyes Hno
      clear hx hy hc1 hc2
      have hsz := Hb.out.size
      cases e0 : (x.name.toList == y.name.toList)
      · have Hr := Lib.hid (Hno.out (by simp [measEq, strEq, e0]))
        go_wp2
        go_quiet (fail)
        go_wp2
        go_ret
        exact ⟨ret_bool Hr.out.symm, below_drewN Hb.out _⟩
      · skip
        cases e1 : (x.crew.toList == y.crew.toList)
        · have Hr := Lib.hid (Hno.out (by simp [measEq, strEq, e0, e1]))
          go_wp2
          go_quiet (fail)
          go_wp2
          go_ret
          exact ⟨ret_bool Hr.out.symm, below_drewN Hb.out _⟩
        · skip
          cases e2 : (x.rank == y.rank)
          · have Hr := Lib.hid (Hno.out (by simp [measEq, strEq, e0, e1, e2]))
            go_wp2
            go_quiet (fail)
            go_wp2
            go_ret
            exact ⟨ret_bool Hr.out.symm, below_drewN Hb.out _⟩
          · skip
            cases e3 : (x.lag == y.lag)
            · have Hr := Lib.hid (Hno.out (by simp [measEq, strEq, e0, e1, e2, e3]))
              go_wp2
              go_quiet (fail)
              go_wp2
              go_ret
              exact ⟨ret_bool Hr.out.symm, below_drewN Hb.out _⟩
            · skip
              cases e4 : (x.takes == y.takes)
              · have Hr := Lib.hid (Hno.out (by simp [measEq, strEq, e0, e1, e2, e3, e4]))
                go_wp2
                go_quiet (fail)
                go_wp2
                go_ret
                exact ⟨ret_bool Hr.out.symm, below_drewN Hb.out _⟩
              · skip
                have Hr := Lib.hid (Hyes.out (by simp [measEq, strEq, e0, e1, e2, e3, e4]))
                go_wp2
                go_quiet (fail)
                go_wp2
                go_roundw
                case rel => exact ⟨i + 1, by omega, by go_num, Hr, Lib.hid (below_drewN Hb.out _)⟩
                case measure => simp [intOf]; omega
    · obtain rfl : i = m := by omega
      have HR := Lib.hid (listEq_done (eq := measEq) HL.out (by rw [← HX.out]; exact Hp.out))
      go_wp2
      go_ret
      exact ⟨ret_bool HR.out.symm, Hb.out⟩
set_option maxHeartbeats 2000000 in
set_option maxRecDepth 100000 in
theorem eqsAlarm_any (xs ys : List Alarm) (n m : Nat) (hn : n = xs.length) (hm : m = ys.length) (A A' : Option Addr) (c c' B : Nat) (w : World) (hA : Sl w B 4 encA A xs) (hB : Sl w B 4 encA A' ys) (hw : B ≤ w.heap.size) (hl : xs.length ≤ 9223372036854775807) (hl2 : ys.length ≤ 9223372036854775807) :
    Calls Tryz.prog 44 #[.slice A n c, .slice A' m c'] w fun e w' => e = .returned (.bool (listEq alarmEq xs ys)) ∧ Below w.heap.size w w' := by
  have HA := Lib.hid hA
  have HB := Lib.hid hB
  clear hA hB
  by_cases hlen : xs.length = ys.length
  rotate_left
  · have HL := Lib.hid (listEq_lens (eq := alarmEq) hlen)
    have hne : ((n : Int) != (m : Int)) = true := by subst hn; subst hm; simp; omega
    clear hn hm hlen
    go_enter Tryz.func44, Tryz.ntmps44
    go_wp2
    go_ret
    exact ⟨ret_bool HL.out.symm, Below.refl _ _⟩
  obtain rfl : m = n := by omega
  have hne : ((m : Int) != (m : Int)) = false := by simp
  have HL := Lib.hid hlen
  have hml : m ≤ 9223372036854775807 := by omega
  have HX := Lib.hid hn
  have HY := Lib.hid hm
  clear hlen hn hm
  go_enter Tryz.func44, Tryz.ntmps44
  go_wp2
  go_loopw [13] (fun v wr => ∃ i : Nat, i ≤ m ∧ v = .int .i64 i ∧ Hid (preEq alarmEq xs ys i = true) ∧ Hid (Below w.heap.size w wr)) (fun v _ => m - (intOf v).toNat)
  case atStart => exact ⟨0, by omega, rfl, Lib.hid rfl, Lib.hid (Below.refl _ _)⟩
  case round =>
    obtain ⟨i, hi, rfl, Hp, Hb⟩ := hrel
    by_cases hlt : i < m
    · have hxi : i < xs.length := by have := HX.out; omega
      have hyi : i < ys.length := by have := HY.out; omega
      obtain ⟨b1, o1, rfl, hb1, hc1⟩ := HA.out (by omega)
      obtain ⟨b2, o2, rfl, hb2, hc2⟩ := HB.out (by omega)
      have hbw1 : b1 < w.heap.size := by omega
      have hbw2 : b2 < w.heap.size := by omega
      have Hyes := Lib.hid (preEq_succ (eq := alarmEq) Hp.out hxi hyi)
      have Hno := Lib.hid (listEq_no (eq := alarmEq) hxi hyi)
      obtain ⟨x, hx⟩ : ∃ x, x = xs[i] := ⟨_, rfl⟩
      obtain ⟨y, hy⟩ : ∃ y, y = ys[i] := ⟨_, rfl⟩
      have x0 : wr.cell? ⟨b1, o1 + i * 4, none⟩ = some (.int .i64 x.q) := by rw [hx]; exact (Hb.out.cell (p := ⟨b1, o1 + i * 4 + 0, none⟩) hbw1).trans (hc1 i hxi 0 _ rfl)
      have y0 : wr.cell? ⟨b2, o2 + i * 4, none⟩ = some (.int .i64 y.q) := by rw [hy]; exact (Hb.out.cell (p := ⟨b2, o2 + i * 4 + 0, none⟩) hbw2).trans (hc2 i hyi 0 _ rfl)
      have x1 : wr.cell? ⟨b1, o1 + i * 4 + 1, none⟩ = some (.int .i64 x.level) := by rw [hx]; exact (Hb.out.cell (p := ⟨b1, o1 + i * 4 + 1, none⟩) hbw1).trans (hc1 i hxi 1 _ rfl)
      have y1 : wr.cell? ⟨b2, o2 + i * 4 + 1, none⟩ = some (.int .i64 y.level) := by rw [hy]; exact (Hb.out.cell (p := ⟨b2, o2 + i * 4 + 1, none⟩) hbw2).trans (hc2 i hyi 1 _ rfl)
      have x2 : wr.cell? ⟨b1, o1 + i * 4 + 2, none⟩ = some (.int .i64 x.limit) := by rw [hx]; exact (Hb.out.cell (p := ⟨b1, o1 + i * 4 + 2, none⟩) hbw1).trans (hc1 i hxi 2 _ rfl)
      have y2 : wr.cell? ⟨b2, o2 + i * 4 + 2, none⟩ = some (.int .i64 y.limit) := by rw [hy]; exact (Hb.out.cell (p := ⟨b2, o2 + i * 4 + 2, none⟩) hbw2).trans (hc2 i hyi 2 _ rfl)
      have x3 : wr.cell? ⟨b1, o1 + i * 4 + 3, none⟩ = some (.int .i64 x.m) := by rw [hx]; exact (Hb.out.cell (p := ⟨b1, o1 + i * 4 + 3, none⟩) hbw1).trans (hc1 i hxi 3 _ rfl)
      have y3 : wr.cell? ⟨b2, o2 + i * 4 + 3, none⟩ = some (.int .i64 y.m) := by rw [hy]; exact (Hb.out.cell (p := ⟨b2, o2 + i * 4 + 3, none⟩) hbw2).trans (hc2 i hyi 3 _ rfl)
      rw [← hx, ← hy] at Hyes Hno
      clear hx hy hc1 hc2
      have hsz := Hb.out.size
      cases e0 : (x.q == y.q)
      · have Hr := Lib.hid (Hno.out (by simp [alarmEq, e0]))
        go_wp2
        go_quiet (fail)
        go_wp2
        go_ret
        exact ⟨ret_bool Hr.out.symm, below_drewN Hb.out _⟩
      · skip
        cases e1 : (x.level == y.level)
        · have Hr := Lib.hid (Hno.out (by simp [alarmEq, e0, e1]))
          go_wp2
          go_quiet (fail)
          go_wp2
          go_ret
          exact ⟨ret_bool Hr.out.symm, below_drewN Hb.out _⟩
        · skip
          cases e2 : (x.limit == y.limit)
          · have Hr := Lib.hid (Hno.out (by simp [alarmEq, e0, e1, e2]))
            go_wp2
            go_quiet (fail)
            go_wp2
            go_ret
            exact ⟨ret_bool Hr.out.symm, below_drewN Hb.out _⟩
          · skip
            cases e3 : (x.m == y.m)
            · have Hr := Lib.hid (Hno.out (by simp [alarmEq, e0, e1, e2, e3]))
              go_wp2
              go_quiet (fail)
              go_wp2
              go_ret
              exact ⟨ret_bool Hr.out.symm, below_drewN Hb.out _⟩
            · skip
              have Hr := Lib.hid (Hyes.out (by simp [alarmEq, e0, e1, e2, e3]))
              go_wp2
              go_quiet (fail)
              go_wp2
              go_roundw
              case rel => exact ⟨i + 1, by omega, by go_num, Hr, Lib.hid (below_drewN Hb.out _)⟩
              case measure => simp [intOf]; omega
    · obtain rfl : i = m := by omega
      have HR := Lib.hid (listEq_done (eq := alarmEq) HL.out (by rw [← HX.out]; exact Hp.out))
      go_wp2
      go_ret
      exact ⟨ret_bool HR.out.symm, Hb.out⟩
set_option maxHeartbeats 2000000 in
set_option maxRecDepth 100000 in
theorem same1_any (x y : Quantity) (B : Nat) (w : World) (hx : QIn w B x) (hy : QIn w B y) (hB : B ≤ w.heap.size) :
    Calls Tryz.prog 40 #[.agg #[.string x.name, .int .i64 x.lo, .int .i64 x.hi, .int .i64 x.rise, .int .i64 x.fall, .int .i64 x.bad, .slice x.gA x.gs.length x.gc], .agg #[.string y.name, .int .i64 y.lo, .int .i64 y.hi, .int .i64 y.rise, .int .i64 y.fall, .int .i64 y.bad, .slice y.gA y.gs.length y.gc]] w fun e w' => e = .returned (.bool (quantEq x y)) ∧ Below w.heap.size w w' := by
  obtain ⟨W0, hW0⟩ : ∃ W0, W0 = (w.alloc (.cells #[.string x.name, .int .i64 x.lo, .int .i64 x.hi, .int .i64 x.rise, .int .i64 x.fall, .int .i64 x.bad, .slice x.gA x.gs.length x.gc] 47)).alloc (.cells #[.string y.name, .int .i64 y.lo, .int .i64 y.hi, .int .i64 y.rise, .int .i64 y.fall, .int .i64 y.bad, .slice y.gA y.gs.length y.gc] 47) := ⟨_, rfl⟩
  have HB0 := Lib.hid (show Below w.heap.size w W0 by rw [hW0]; exact ((Below.refl _ _).alloc (Nat.le_refl _) _).alloc (by simp) _)
  have hs0 : w.heap.size + 1 < W0.heap.size := by rw [hW0]; simp
  have HE := Lib.hid (eqsGauge_any x.gs y.gs _ _ rfl rfl x.gA y.gA x.gc y.gc w.heap.size W0 ((hx.sl.mono hB).below HB0.out) ((hy.sl.mono hB).below HB0.out) (by omega) hx.len hy.len)
  clear hx hy hB
  have x0 : W0.cell? ⟨w.heap.size, 0, none⟩ = some (.string x.name) := by rw [hW0]; exact (((Below.refl _ _).alloc (Nat.le_refl _) _).cell (p := ⟨w.heap.size, 0, none⟩) (by simp)).trans (alloc_cell rfl)
  have y0 : W0.cell? ⟨w.heap.size + 1, 0, none⟩ = some (.string y.name) := by rw [hW0]; simp
  have x1 : W0.cell? ⟨w.heap.size, 1, none⟩ = some (.int .i64 x.lo) := by rw [hW0]; exact (((Below.refl _ _).alloc (Nat.le_refl _) _).cell (p := ⟨w.heap.size, 1, none⟩) (by simp)).trans (alloc_cell rfl)
  have y1 : W0.cell? ⟨w.heap.size + 1, 1, none⟩ = some (.int .i64 y.lo) := by rw [hW0]; simp
  have x2 : W0.cell? ⟨w.heap.size, 2, none⟩ = some (.int .i64 x.hi) := by rw [hW0]; exact (((Below.refl _ _).alloc (Nat.le_refl _) _).cell (p := ⟨w.heap.size, 2, none⟩) (by simp)).trans (alloc_cell rfl)
  have y2 : W0.cell? ⟨w.heap.size + 1, 2, none⟩ = some (.int .i64 y.hi) := by rw [hW0]; simp
  have x3 : W0.cell? ⟨w.heap.size, 3, none⟩ = some (.int .i64 x.rise) := by rw [hW0]; exact (((Below.refl _ _).alloc (Nat.le_refl _) _).cell (p := ⟨w.heap.size, 3, none⟩) (by simp)).trans (alloc_cell rfl)
  have y3 : W0.cell? ⟨w.heap.size + 1, 3, none⟩ = some (.int .i64 y.rise) := by rw [hW0]; simp
  have x4 : W0.cell? ⟨w.heap.size, 4, none⟩ = some (.int .i64 x.fall) := by rw [hW0]; exact (((Below.refl _ _).alloc (Nat.le_refl _) _).cell (p := ⟨w.heap.size, 4, none⟩) (by simp)).trans (alloc_cell rfl)
  have y4 : W0.cell? ⟨w.heap.size + 1, 4, none⟩ = some (.int .i64 y.fall) := by rw [hW0]; simp
  have x5 : W0.cell? ⟨w.heap.size, 5, none⟩ = some (.int .i64 x.bad) := by rw [hW0]; exact (((Below.refl _ _).alloc (Nat.le_refl _) _).cell (p := ⟨w.heap.size, 5, none⟩) (by simp)).trans (alloc_cell rfl)
  have y5 : W0.cell? ⟨w.heap.size + 1, 5, none⟩ = some (.int .i64 y.bad) := by rw [hW0]; simp
  have x6 : W0.cell? ⟨w.heap.size, 6, none⟩ = some (.slice x.gA x.gs.length x.gc) := by rw [hW0]; exact (((Below.refl _ _).alloc (Nat.le_refl _) _).cell (p := ⟨w.heap.size, 6, none⟩) (by simp)).trans (alloc_cell rfl)
  have y6 : W0.cell? ⟨w.heap.size + 1, 6, none⟩ = some (.slice y.gA y.gs.length y.gc) := by rw [hW0]; simp
  have HW0 := Lib.hid hW0
  clear hW0
  cases e0 : (x.name.toList == y.name.toList)
  · have Hr := Lib.hid (show quantEq x y = false by simp [quantEq, strEq, e0])
    go_enter Tryz.func40, Tryz.ntmps40
    go_upto_region 1 with fail
    rw [← HW0.out]
    go_wp2
    go_ret
    exact ⟨ret_bool Hr.out.symm, HB0.out⟩
  · skip
    cases e1 : (x.lo == y.lo)
    · have Hr := Lib.hid (show quantEq x y = false by simp [quantEq, strEq, e0, e1])
      go_enter Tryz.func40, Tryz.ntmps40
      go_upto_region 1 with fail
      rw [← HW0.out]
      go_wp2
      go_ret
      exact ⟨ret_bool Hr.out.symm, HB0.out⟩
    · skip
      cases e2 : (x.hi == y.hi)
      · have Hr := Lib.hid (show quantEq x y = false by simp [quantEq, strEq, e0, e1, e2])
        go_enter Tryz.func40, Tryz.ntmps40
        go_upto_region 1 with fail
        rw [← HW0.out]
        go_wp2
        go_ret
        exact ⟨ret_bool Hr.out.symm, HB0.out⟩
      · skip
        cases e3 : (x.rise == y.rise)
        · have Hr := Lib.hid (show quantEq x y = false by simp [quantEq, strEq, e0, e1, e2, e3])
          go_enter Tryz.func40, Tryz.ntmps40
          go_upto_region 1 with fail
          rw [← HW0.out]
          go_wp2
          go_ret
          exact ⟨ret_bool Hr.out.symm, HB0.out⟩
        · skip
          cases e4 : (x.fall == y.fall)
          · have Hr := Lib.hid (show quantEq x y = false by simp [quantEq, strEq, e0, e1, e2, e3, e4])
            go_enter Tryz.func40, Tryz.ntmps40
            go_upto_region 1 with fail
            rw [← HW0.out]
            go_wp2
            go_ret
            exact ⟨ret_bool Hr.out.symm, HB0.out⟩
          · skip
            cases e5 : (x.bad == y.bad)
            · have Hr := Lib.hid (show quantEq x y = false by simp [quantEq, strEq, e0, e1, e2, e3, e4, e5])
              go_enter Tryz.func40, Tryz.ntmps40
              go_upto_region 1 with fail
              rw [← HW0.out]
              go_wp2
              go_ret
              exact ⟨ret_bool Hr.out.symm, HB0.out⟩
            · skip
              have Hr := Lib.hid (show quantEq x y = listEq gaugeEq x.gs y.gs by simp [quantEq, strEq, e0, e1, e2, e3, e4, e5])
              go_enter Tryz.func40, Tryz.ntmps40
              go_upto_region 1 with fail
              rw [← HW0.out]
              go_wp2_with (go_at_call 41; refine HE.out.mono ?_; rintro r w1 ⟨rfl, hb1⟩)
              go_ret
              exact ⟨ret_bool Hr.out.symm, HB0.out.trans (hb1.mono (by omega))⟩
set_option maxHeartbeats 2000000 in
set_option maxRecDepth 100000 in
theorem eqfQ_any (xs ys : List Quantity) (n m : Nat) (hn : n = xs.length) (hm : m = ys.length) (A A' : Option Addr) (c c' B : Nat) (w : World) (hA : Sl w B 7 encQ A xs) (hB : Sl w B 7 encQ A' ys) (hqx : ∀ q ∈ xs, QIn w B q) (hqy : ∀ q ∈ ys, QIn w B q) (hw : B ≤ w.heap.size) (hl : xs.length ≤ 9223372036854775807) (hl2 : ys.length ≤ 9223372036854775807) :
    Calls Tryz.prog 42 #[.slice A n c, .slice A' m c', .func (.func 40) #[] #[]] w fun e w' => e = .returned (.bool (listEq quantEq xs ys)) ∧ Below w.heap.size w w' := by
  have HA := Lib.hid hA
  have HB := Lib.hid hB
  have HQx := Lib.hid hqx
  have HQy := Lib.hid hqy
  clear hA hB hqx hqy
  by_cases hlen : xs.length = ys.length
  rotate_left
  · have HL := Lib.hid (listEq_lens (eq := quantEq) hlen)
    have hne : ((n : Int) != (m : Int)) = true := by subst hn; subst hm; simp; omega
    clear hn hm hlen
    go_enter Tryz.func42, Tryz.ntmps42
    go_wp2
    go_ret
    exact ⟨ret_bool HL.out.symm, Below.refl _ _⟩
  obtain rfl : m = n := by omega
  have hne : ((m : Int) != (m : Int)) = false := by simp
  have HL := Lib.hid hlen
  have hml : m ≤ 9223372036854775807 := by omega
  have HX := Lib.hid hn
  have HY := Lib.hid hm
  clear hlen hn hm
  go_enter Tryz.func42, Tryz.ntmps42
  go_wp2
  go_loopw [17] (fun v wr => ∃ i : Nat, i ≤ m ∧ v = .int .i64 i ∧ Hid (preEq quantEq xs ys i = true) ∧ Hid (Below w.heap.size w wr)) (fun v _ => m - (intOf v).toNat)
  case atStart => exact ⟨0, by omega, rfl, Lib.hid rfl, Lib.hid (Below.refl _ _)⟩
  case round =>
    obtain ⟨i, hi, rfl, Hp, Hb⟩ := hrel
    have hsz := Hb.out.size
    by_cases hlt : i < m
    · have hxi : i < xs.length := by have := HX.out; omega
      have hyi : i < ys.length := by have := HY.out; omega
      obtain ⟨b1, o1, rfl, hb1, hc1⟩ := HA.out (by omega)
      obtain ⟨b2, o2, rfl, hb2, hc2⟩ := HB.out (by omega)
      have hbw1 : b1 < w.heap.size := by omega
      have hbw2 : b2 < w.heap.size := by omega
      have Hyes := Lib.hid (preEq_succ (eq := quantEq) Hp.out hxi hyi)
      have Hno := Lib.hid (listEq_no (eq := quantEq) hxi hyi)
      obtain ⟨x, hx⟩ : ∃ x, x = xs[i] := ⟨_, rfl⟩
      obtain ⟨y, hy⟩ : ∃ y, y = ys[i] := ⟨_, rfl⟩
      have HQX := Lib.hid (show QIn w B x by rw [hx]; exact HQx.out _ (List.getElem_mem hxi))
      have HQY := Lib.hid (show QIn w B y by rw [hy]; exact HQy.out _ (List.getElem_mem hyi))
      have x0 : wr.cell? ⟨b1, o1 + i * 7, none⟩ = some (.string x.name) := by rw [hx]; exact (Hb.out.cell (p := ⟨b1, o1 + i * 7 + 0, none⟩) hbw1).trans (hc1 i hxi 0 _ rfl)
      have y0 : wr.cell? ⟨b2, o2 + i * 7, none⟩ = some (.string y.name) := by rw [hy]; exact (Hb.out.cell (p := ⟨b2, o2 + i * 7 + 0, none⟩) hbw2).trans (hc2 i hyi 0 _ rfl)
      have x1 : wr.cell? ⟨b1, o1 + i * 7 + 1, none⟩ = some (.int .i64 x.lo) := by rw [hx]; exact (Hb.out.cell (p := ⟨b1, o1 + i * 7 + 1, none⟩) hbw1).trans (hc1 i hxi 1 _ rfl)
      have y1 : wr.cell? ⟨b2, o2 + i * 7 + 1, none⟩ = some (.int .i64 y.lo) := by rw [hy]; exact (Hb.out.cell (p := ⟨b2, o2 + i * 7 + 1, none⟩) hbw2).trans (hc2 i hyi 1 _ rfl)
      have x2 : wr.cell? ⟨b1, o1 + i * 7 + 2, none⟩ = some (.int .i64 x.hi) := by rw [hx]; exact (Hb.out.cell (p := ⟨b1, o1 + i * 7 + 2, none⟩) hbw1).trans (hc1 i hxi 2 _ rfl)
      have y2 : wr.cell? ⟨b2, o2 + i * 7 + 2, none⟩ = some (.int .i64 y.hi) := by rw [hy]; exact (Hb.out.cell (p := ⟨b2, o2 + i * 7 + 2, none⟩) hbw2).trans (hc2 i hyi 2 _ rfl)
      have x3 : wr.cell? ⟨b1, o1 + i * 7 + 3, none⟩ = some (.int .i64 x.rise) := by rw [hx]; exact (Hb.out.cell (p := ⟨b1, o1 + i * 7 + 3, none⟩) hbw1).trans (hc1 i hxi 3 _ rfl)
      have y3 : wr.cell? ⟨b2, o2 + i * 7 + 3, none⟩ = some (.int .i64 y.rise) := by rw [hy]; exact (Hb.out.cell (p := ⟨b2, o2 + i * 7 + 3, none⟩) hbw2).trans (hc2 i hyi 3 _ rfl)
      have x4 : wr.cell? ⟨b1, o1 + i * 7 + 4, none⟩ = some (.int .i64 x.fall) := by rw [hx]; exact (Hb.out.cell (p := ⟨b1, o1 + i * 7 + 4, none⟩) hbw1).trans (hc1 i hxi 4 _ rfl)
      have y4 : wr.cell? ⟨b2, o2 + i * 7 + 4, none⟩ = some (.int .i64 y.fall) := by rw [hy]; exact (Hb.out.cell (p := ⟨b2, o2 + i * 7 + 4, none⟩) hbw2).trans (hc2 i hyi 4 _ rfl)
      have x5 : wr.cell? ⟨b1, o1 + i * 7 + 5, none⟩ = some (.int .i64 x.bad) := by rw [hx]; exact (Hb.out.cell (p := ⟨b1, o1 + i * 7 + 5, none⟩) hbw1).trans (hc1 i hxi 5 _ rfl)
      have y5 : wr.cell? ⟨b2, o2 + i * 7 + 5, none⟩ = some (.int .i64 y.bad) := by rw [hy]; exact (Hb.out.cell (p := ⟨b2, o2 + i * 7 + 5, none⟩) hbw2).trans (hc2 i hyi 5 _ rfl)
      have x6 : wr.cell? ⟨b1, o1 + i * 7 + 6, none⟩ = some (.slice x.gA x.gs.length x.gc) := by rw [hx]; exact (Hb.out.cell (p := ⟨b1, o1 + i * 7 + 6, none⟩) hbw1).trans (hc1 i hxi 6 _ rfl)
      have y6 : wr.cell? ⟨b2, o2 + i * 7 + 6, none⟩ = some (.slice y.gA y.gs.length y.gc) := by rw [hy]; exact (Hb.out.cell (p := ⟨b2, o2 + i * 7 + 6, none⟩) hbw2).trans (hc2 i hyi 6 _ rfl)
      rw [← hx, ← hy] at Hyes Hno
      clear hx hy hc1 hc2
      have hr1 : b1 < wr.heap.size := by omega
      have hr2 : b2 < wr.heap.size := by omega
      have HU := Lib.hid (fun (o1 o2 : Obj) => show Below wr.heap.size wr ((wr.alloc o1).alloc o2) from ((Below.refl _ _).alloc (Nat.le_refl _) _).alloc (by simp) _)
      go_wp2_with (go_at_call 40; fail)
      refine (same1_any x y B _ (HQX.out.below (Hb.out.mono hw |>.trans ((HU.out _ _).mono (by omega)))) (HQY.out.below (Hb.out.mono hw |>.trans ((HU.out _ _).mono (by omega)))) (by simp; omega)).mono ?_
      rintro r w2 ⟨rfl, hb2⟩
      have Hb2 := Lib.hid (Hb.out.trans (((HU.out _ _).trans (hb2.mono (by simp; omega))).mono hsz))
      clear hb2 HU
      cases he : quantEq x y
      · have Hr := Lib.hid (Hno.out he)
        go_wp2
        go_ret
        exact ⟨ret_bool Hr.out.symm, Hb2.out⟩
      · have Hr := Lib.hid (Hyes.out he)
        go_wp2
        go_roundw
        case rel => exact ⟨i + 1, by omega, by go_num, Hr, Hb2⟩
        case measure => simp [intOf]; omega
    · obtain rfl : i = m := by omega
      have HR := Lib.hid (listEq_done (eq := quantEq) HL.out (by rw [← HX.out]; exact Hp.out))
      go_wp2
      go_ret
      exact ⟨ret_bool HR.out.symm, Hb.out⟩
end Go.Proofs.YtcgnpndfhhcplaaGreatDoor
namespace Go.Proofs.YtcgnpndfhhcplaaGreatDoor
open Go.RowKit W7
attribute [local go_sem] Oper.semAt_some
set_option maxHeartbeats 2000000 in
set_option maxRecDepth 100000 in
theorem Same_any (p o : Plan) (B : Nat) (w : World) (hp : PIn w B p) (ho : PIn w B o) (hB : B ≤ w.heap.size) :
    Calls Tryz.prog 12 #[.agg #[.slice p.qA p.qs.length p.qc, .slice p.mA p.ms.length p.mc, .slice p.aA p.al.length p.ac], .agg #[.slice o.qA o.qs.length o.qc, .slice o.mA o.ms.length o.mc, .slice o.aA o.al.length o.ac]] w fun e w' => e = .returned (.bool (sameP p o)) ∧ Below w.heap.size w w' := by
  obtain ⟨W0, hW0⟩ : ∃ W0, W0 = (w.alloc (.cells #[.slice p.qA p.qs.length p.qc, .slice p.mA p.ms.length p.mc, .slice p.aA p.al.length p.ac] 26)).alloc (.cells #[.slice o.qA o.qs.length o.qc, .slice o.mA o.ms.length o.mc, .slice o.aA o.al.length o.ac] 26) := ⟨_, rfl⟩
  have HB0 := Lib.hid (show Below w.heap.size w W0 by rw [hW0]; exact ((Below.refl _ _).alloc (Nat.le_refl _) _).alloc (by simp) _)
  have hs0 : w.heap.size + 1 < W0.heap.size := by rw [hW0]; simp
  have x0 : W0.cell? ⟨w.heap.size, 0, none⟩ = some (.slice p.qA p.qs.length p.qc) := by rw [hW0]; exact (((Below.refl _ _).alloc (Nat.le_refl _) _).cell (p := ⟨w.heap.size, 0, none⟩) (by simp)).trans (alloc_cell rfl)
  have y0 : W0.cell? ⟨w.heap.size + 1, 0, none⟩ = some (.slice o.qA o.qs.length o.qc) := by rw [hW0]; simp
  have x1 : W0.cell? ⟨w.heap.size, 1, none⟩ = some (.slice p.mA p.ms.length p.mc) := by rw [hW0]; exact (((Below.refl _ _).alloc (Nat.le_refl _) _).cell (p := ⟨w.heap.size, 1, none⟩) (by simp)).trans (alloc_cell rfl)
  have y1 : W0.cell? ⟨w.heap.size + 1, 1, none⟩ = some (.slice o.mA o.ms.length o.mc) := by rw [hW0]; simp
  have x2 : W0.cell? ⟨w.heap.size, 2, none⟩ = some (.slice p.aA p.al.length p.ac) := by rw [hW0]; exact (((Below.refl _ _).alloc (Nat.le_refl _) _).cell (p := ⟨w.heap.size, 2, none⟩) (by simp)).trans (alloc_cell rfl)
  have y2 : W0.cell? ⟨w.heap.size + 1, 2, none⟩ = some (.slice o.aA o.al.length o.ac) := by rw [hW0]; simp
  have HP := Lib.hid (fun (X : World) (hX : Below W0.heap.size W0 X) => (hp.mono hB).below (HB0.out.trans (hX.mono (by omega))))
  have HO := Lib.hid (fun (X : World) (hX : Below W0.heap.size W0 X) => (ho.mono hB).below (HB0.out.trans (hX.mono (by omega))))
  have hlq : p.qs.length ≤ 9223372036854775807 := by have := hp.qlc; have := hp.qc2; omega
  have hlq2 : o.qs.length ≤ 9223372036854775807 := by have := ho.qlc; have := ho.qc2; omega
  have hlm : p.ms.length ≤ 9223372036854775807 := by have := hp.mlc; have := hp.mc2; omega
  have hlm2 : o.ms.length ≤ 9223372036854775807 := by have := ho.mlc; have := ho.mc2; omega
  have hla : p.al.length ≤ 9223372036854775807 := by have := hp.alc; have := hp.ac2; omega
  have hla2 : o.al.length ≤ 9223372036854775807 := by have := ho.alc; have := ho.ac2; omega
  have H1 := Lib.hid (eqfQ_any p.qs o.qs _ _ rfl rfl p.qA o.qA p.qc o.qc w.heap.size W0 (HP.out W0 (Below.refl _ _)).qsl (HO.out W0 (Below.refl _ _)).qsl (HP.out W0 (Below.refl _ _)).qin (HO.out W0 (Below.refl _ _)).qin (by omega) hlq hlq2)
  have HW0 := Lib.hid hW0
  clear hW0 hp ho
  go_enter Tryz.func12, Tryz.ntmps12
  go_upto_region 1 with fail
  rw [← HW0.out]
  go_wp2_with (go_at_call 42; fail)
  refine H1.out.mono ?_
  rintro r w1 ⟨rfl, hb1⟩
  have HB1 := Lib.hid hb1
  have hs1 := hb1.size
  clear hb1 H1
  have X0 := (HB1.out.cell (p := ⟨w.heap.size, 0, none⟩) (show w.heap.size < W0.heap.size by omega)).trans x0
  have Y0 := (HB1.out.cell (p := ⟨w.heap.size + 1, 0, none⟩) (show w.heap.size + 1 < W0.heap.size by omega)).trans y0
  have X1 := (HB1.out.cell (p := ⟨w.heap.size, 1, none⟩) (show w.heap.size < W0.heap.size by omega)).trans x1
  have Y1 := (HB1.out.cell (p := ⟨w.heap.size + 1, 1, none⟩) (show w.heap.size + 1 < W0.heap.size by omega)).trans y1
  have X2 := (HB1.out.cell (p := ⟨w.heap.size, 2, none⟩) (show w.heap.size < W0.heap.size by omega)).trans x2
  have Y2 := (HB1.out.cell (p := ⟨w.heap.size + 1, 2, none⟩) (show w.heap.size + 1 < W0.heap.size by omega)).trans y2
  clear x0 x1 x2 y0 y1 y2
  cases e1 : listEq quantEq p.qs o.qs
  · have Hr := Lib.hid (show sameP p o = false by unfold sameP; rw [e1]; rfl)
    go_wp2
    go_ret
    exact ⟨ret_bool Hr.out.symm, HB0.out.trans (HB1.out.mono (by omega))⟩
  have H2 := Lib.hid (eqsMeasure_any p.ms o.ms _ _ rfl rfl p.mA o.mA p.mc o.mc w.heap.size w1 (HP.out w1 HB1.out).msl (HO.out w1 HB1.out).msl (by omega) hlm hlm2)
  go_wp2_with (go_at_call 43; fail)
  refine H2.out.mono ?_
  rintro r w2 ⟨rfl, hb2⟩
  have HB2 := Lib.hid (HB1.out.trans (hb2.mono (by omega)))
  have hs2 := hb2.size
  have X0' := (hb2.cell (p := ⟨w.heap.size, 0, none⟩) (show w.heap.size < w1.heap.size by omega)).trans X0
  have Y0' := (hb2.cell (p := ⟨w.heap.size + 1, 0, none⟩) (show w.heap.size + 1 < w1.heap.size by omega)).trans Y0
  have X1' := (hb2.cell (p := ⟨w.heap.size, 1, none⟩) (show w.heap.size < w1.heap.size by omega)).trans X1
  have Y1' := (hb2.cell (p := ⟨w.heap.size + 1, 1, none⟩) (show w.heap.size + 1 < w1.heap.size by omega)).trans Y1
  have X2' := (hb2.cell (p := ⟨w.heap.size, 2, none⟩) (show w.heap.size < w1.heap.size by omega)).trans X2
  have Y2' := (hb2.cell (p := ⟨w.heap.size + 1, 2, none⟩) (show w.heap.size + 1 < w1.heap.size by omega)).trans Y2
  clear hb2 H2 X0 X1 X2 Y0 Y1 Y2
  cases e2 : listEq measEq p.ms o.ms
  · have Hr := Lib.hid (show sameP p o = false by unfold sameP; rw [e1, e2]; rfl)
    go_wp2
    go_ret
    exact ⟨ret_bool Hr.out.symm, HB0.out.trans (HB2.out.mono (by omega))⟩
  have H3 := Lib.hid (eqsAlarm_any p.al o.al _ _ rfl rfl p.aA o.aA p.ac o.ac w.heap.size w2 (HP.out w2 HB2.out).asl (HO.out w2 HB2.out).asl (by omega) hla hla2)
  have Hr := Lib.hid (show sameP p o = listEq alarmEq p.al o.al by unfold sameP; rw [e1, e2]; rfl)
  go_wp2_with (go_at_call 44; refine H3.out.mono ?_; rintro r w3 ⟨rfl, hb3⟩)
  go_ret
  exact ⟨ret_bool Hr.out.symm, HB0.out.trans ((HB2.out.trans (hb3.mono (by omega))).mono (by omega))⟩
set_option maxHeartbeats 4000000 in
set_option maxRecDepth 100000 in
theorem refSameQ_any (x y : Quantity) (B : Nat) (w : World) (hx : QIn w B x) (hy : QIn w B y) (hB : B ≤ w.heap.size) :
    Calls Tryz.prog 45 #[.agg #[.string x.name, .int .i64 x.lo, .int .i64 x.hi, .int .i64 x.rise, .int .i64 x.fall, .int .i64 x.bad, .slice x.gA x.gs.length x.gc], .agg #[.string y.name, .int .i64 y.lo, .int .i64 y.hi, .int .i64 y.rise, .int .i64 y.fall, .int .i64 y.bad, .slice y.gA y.gs.length y.gc]] w fun e w' => e = .returned (.bool (quantEq x y)) ∧ Below w.heap.size w w' := by
  obtain ⟨XA, hXA⟩ : ∃ XA, x.gA = XA := ⟨_, rfl⟩
  obtain ⟨YA, hYA⟩ : ∃ YA, y.gA = YA := ⟨_, rfl⟩
  have HA0 := Lib.hid (show Sl w w.heap.size 4 encG XA x.gs by rw [← hXA]; exact hx.sl.mono hB)
  have HB00 := Lib.hid (show Sl w w.heap.size 4 encG YA y.gs by rw [← hYA]; exact hy.sl.mono hB)
  rw [hXA, hYA]
  have hlx := hx.len
  have hly := hy.len
  obtain ⟨W0, hW0⟩ : ∃ W0, W0 = (w.alloc (.cells #[.string x.name, .int .i64 x.lo, .int .i64 x.hi, .int .i64 x.rise, .int .i64 x.fall, .int .i64 x.bad, .slice XA x.gs.length x.gc] 47)).alloc (.cells #[.string y.name, .int .i64 y.lo, .int .i64 y.hi, .int .i64 y.rise, .int .i64 y.fall, .int .i64 y.bad, .slice YA y.gs.length y.gc] 47) := ⟨_, rfl⟩
  have HB0 := Lib.hid (show Below w.heap.size w W0 by rw [hW0]; exact ((Below.refl _ _).alloc (Nat.le_refl _) _).alloc (by simp) _)
  have hs0 : w.heap.size + 1 < W0.heap.size := by rw [hW0]; simp
  have HA := Lib.hid (HA0.out.below HB0.out)
  have HBY := Lib.hid (HB00.out.below HB0.out)
  clear HA0 HB00 hx hy hB hXA hYA
  have x0 : W0.cell? ⟨w.heap.size, 0, none⟩ = some (.string x.name) := by rw [hW0]; exact (((Below.refl _ _).alloc (Nat.le_refl _) _).cell (p := ⟨w.heap.size, 0, none⟩) (by simp)).trans (alloc_cell rfl)
  have y0 : W0.cell? ⟨w.heap.size + 1, 0, none⟩ = some (.string y.name) := by rw [hW0]; simp
  have x1 : W0.cell? ⟨w.heap.size, 1, none⟩ = some (.int .i64 x.lo) := by rw [hW0]; exact (((Below.refl _ _).alloc (Nat.le_refl _) _).cell (p := ⟨w.heap.size, 1, none⟩) (by simp)).trans (alloc_cell rfl)
  have y1 : W0.cell? ⟨w.heap.size + 1, 1, none⟩ = some (.int .i64 y.lo) := by rw [hW0]; simp
  have x2 : W0.cell? ⟨w.heap.size, 2, none⟩ = some (.int .i64 x.hi) := by rw [hW0]; exact (((Below.refl _ _).alloc (Nat.le_refl _) _).cell (p := ⟨w.heap.size, 2, none⟩) (by simp)).trans (alloc_cell rfl)
  have y2 : W0.cell? ⟨w.heap.size + 1, 2, none⟩ = some (.int .i64 y.hi) := by rw [hW0]; simp
  have x3 : W0.cell? ⟨w.heap.size, 3, none⟩ = some (.int .i64 x.rise) := by rw [hW0]; exact (((Below.refl _ _).alloc (Nat.le_refl _) _).cell (p := ⟨w.heap.size, 3, none⟩) (by simp)).trans (alloc_cell rfl)
  have y3 : W0.cell? ⟨w.heap.size + 1, 3, none⟩ = some (.int .i64 y.rise) := by rw [hW0]; simp
  have x4 : W0.cell? ⟨w.heap.size, 4, none⟩ = some (.int .i64 x.fall) := by rw [hW0]; exact (((Below.refl _ _).alloc (Nat.le_refl _) _).cell (p := ⟨w.heap.size, 4, none⟩) (by simp)).trans (alloc_cell rfl)
  have y4 : W0.cell? ⟨w.heap.size + 1, 4, none⟩ = some (.int .i64 y.fall) := by rw [hW0]; simp
  have x5 : W0.cell? ⟨w.heap.size, 5, none⟩ = some (.int .i64 x.bad) := by rw [hW0]; exact (((Below.refl _ _).alloc (Nat.le_refl _) _).cell (p := ⟨w.heap.size, 5, none⟩) (by simp)).trans (alloc_cell rfl)
  have y5 : W0.cell? ⟨w.heap.size + 1, 5, none⟩ = some (.int .i64 y.bad) := by rw [hW0]; simp
  have x6 : W0.cell? ⟨w.heap.size, 6, none⟩ = some (.slice XA x.gs.length x.gc) := by rw [hW0]; exact (((Below.refl _ _).alloc (Nat.le_refl _) _).cell (p := ⟨w.heap.size, 6, none⟩) (by simp)).trans (alloc_cell rfl)
  have y6 : W0.cell? ⟨w.heap.size + 1, 6, none⟩ = some (.slice YA y.gs.length y.gc) := by rw [hW0]; simp
  have HW0 := Lib.hid hW0
  clear hW0
  cases e0 : (x.name.toList == y.name.toList)
  · have Hr := Lib.hid (show quantEq x y = false by simp [quantEq, strEq, e0])
    have f0 : (x.name.toList != y.name.toList) = true := by simp only [bne, e0]; rfl
    go_enter Tryz.func45, Tryz.ntmps45
    go_upto_region 1 with fail
    rw [← HW0.out]
    go_wp2
    go_ret
    exact ⟨ret_bool Hr.out.symm, HB0.out⟩
  · have f0 : (x.name.toList != y.name.toList) = false := by simp only [bne, e0]; rfl
    cases e1 : (x.lo == y.lo)
    · have Hr := Lib.hid (show quantEq x y = false by simp [quantEq, strEq, e0, e1])
      have f1 : (x.lo != y.lo) = true := by simp only [bne, e1]; rfl
      go_enter Tryz.func45, Tryz.ntmps45
      go_upto_region 1 with fail
      rw [← HW0.out]
      go_wp2
      go_ret
      exact ⟨ret_bool Hr.out.symm, HB0.out⟩
    · have f1 : (x.lo != y.lo) = false := by simp only [bne, e1]; rfl
      cases e2 : (x.hi == y.hi)
      · have Hr := Lib.hid (show quantEq x y = false by simp [quantEq, strEq, e0, e1, e2])
        have f2 : (x.hi != y.hi) = true := by simp only [bne, e2]; rfl
        go_enter Tryz.func45, Tryz.ntmps45
        go_upto_region 1 with fail
        rw [← HW0.out]
        go_wp2
        go_ret
        exact ⟨ret_bool Hr.out.symm, HB0.out⟩
      · have f2 : (x.hi != y.hi) = false := by simp only [bne, e2]; rfl
        cases e3 : (x.rise == y.rise)
        · have Hr := Lib.hid (show quantEq x y = false by simp [quantEq, strEq, e0, e1, e2, e3])
          have f3 : (x.rise != y.rise) = true := by simp only [bne, e3]; rfl
          go_enter Tryz.func45, Tryz.ntmps45
          go_upto_region 1 with fail
          rw [← HW0.out]
          go_wp2
          go_ret
          exact ⟨ret_bool Hr.out.symm, HB0.out⟩
        · have f3 : (x.rise != y.rise) = false := by simp only [bne, e3]; rfl
          cases e4 : (x.fall == y.fall)
          · have Hr := Lib.hid (show quantEq x y = false by simp [quantEq, strEq, e0, e1, e2, e3, e4])
            have f4 : (x.fall != y.fall) = true := by simp only [bne, e4]; rfl
            go_enter Tryz.func45, Tryz.ntmps45
            go_upto_region 1 with fail
            rw [← HW0.out]
            go_wp2
            go_ret
            exact ⟨ret_bool Hr.out.symm, HB0.out⟩
          · have f4 : (x.fall != y.fall) = false := by simp only [bne, e4]; rfl
            cases e5 : (x.bad == y.bad)
            · have Hr := Lib.hid (show quantEq x y = false by simp [quantEq, strEq, e0, e1, e2, e3, e4, e5])
              have f5 : (x.bad != y.bad) = true := by simp only [bne, e5]; rfl
              go_enter Tryz.func45, Tryz.ntmps45
              go_upto_region 1 with fail
              rw [← HW0.out]
              go_wp2
              go_ret
              exact ⟨ret_bool Hr.out.symm, HB0.out⟩
            · have f5 : (x.bad != y.bad) = false := by simp only [bne, e5]; rfl
              have HQ := Lib.hid (show quantEq x y = listEq gaugeEq x.gs y.gs by simp [quantEq, strEq, e0, e1, e2, e3, e4, e5])
              by_cases hlen : x.gs.length = y.gs.length
              rotate_left
              · have Hr := Lib.hid (show quantEq x y = false by rw [HQ.out]; exact listEq_lens hlen)
                have hne : ((x.gs.length : Int) != (y.gs.length : Int)) = true := by simp; omega
                clear hlen
                go_enter Tryz.func45, Tryz.ntmps45
                go_upto_region 1 with fail
                rw [← HW0.out]
                go_wp2
                go_ret
                exact ⟨ret_bool Hr.out.symm, HB0.out⟩
              obtain ⟨n, hn⟩ : ∃ n, n = x.gs.length := ⟨_, rfl⟩
              have hn2 : y.gs.length = n := by omega
              rw [← hn] at x6 hlx HW0
              rw [hn2] at y6 HW0
              have hne : ((n : Int) != (n : Int)) = false := by simp
              have HL := Lib.hid hlen
              have HX := Lib.hid hn
              have HY := Lib.hid hn2
              clear hlen hn hn2 hly
              go_enter Tryz.func45, Tryz.ntmps45
              go_upto_region 1 with fail
              rw [← HX.out, HY.out, ← HW0.out]
              go_wp2
              have XX := Lib.hid x6
              have YY := Lib.hid y6
              clear x0 y0 x1 y1 x2 y2 x3 y3 x4 y4 x5 y5 x6 y6
              go_loopw [5] (fun v wr => ∃ i : Nat, i ≤ n ∧ v = .int .i64 i ∧ Hid (preEq gaugeEq x.gs y.gs i = true) ∧ Hid (Below W0.heap.size W0 wr)) (fun v _ => n - (intOf v).toNat)
              case atStart => exact ⟨0, by omega, rfl, Lib.hid rfl, Lib.hid (Below.refl _ _)⟩
              case round =>
                obtain ⟨i, hi, rfl, Hp, Hb⟩ := hrel
                have hsz := Hb.out.size
                have z6 := (Hb.out.cell (p := ⟨w.heap.size, 6, none⟩) (show w.heap.size < W0.heap.size by omega)).trans XX.out
                have t6 := (Hb.out.cell (p := ⟨w.heap.size + 1, 6, none⟩) (show w.heap.size + 1 < W0.heap.size by omega)).trans YY.out
                by_cases hlt : i < n
                · have hxi : i < x.gs.length := by have := HX.out; omega
                  have hyi : i < y.gs.length := by have := HY.out; omega
                  obtain ⟨b1, o1, rfl, hb1, hc1⟩ := HA.out (by omega)
                  obtain ⟨b2, o2, rfl, hb2, hc2⟩ := HBY.out (by omega)
                  have hbw1 : b1 < W0.heap.size := by omega
                  have hbw2 : b2 < W0.heap.size := by omega
                  have Hyes := Lib.hid (preEq_succ (eq := gaugeEq) Hp.out hxi hyi)
                  have Hno := Lib.hid (listEq_no (eq := gaugeEq) hxi hyi)
                  obtain ⟨u, hu⟩ : ∃ u, u = x.gs[i] := ⟨_, rfl⟩
                  obtain ⟨v, hv⟩ : ∃ v, v = y.gs[i] := ⟨_, rfl⟩
                  have u0 : wr.cell? ⟨b1, o1 + i * 4, none⟩ = some (.string u.name) := by rw [hu]; exact (Hb.out.cell (p := ⟨b1, o1 + i * 4 + 0, none⟩) hbw1).trans (hc1 i hxi 0 _ rfl)
                  have v0 : wr.cell? ⟨b2, o2 + i * 4, none⟩ = some (.string v.name) := by rw [hv]; exact (Hb.out.cell (p := ⟨b2, o2 + i * 4 + 0, none⟩) hbw2).trans (hc2 i hyi 0 _ rfl)
                  have u1 : wr.cell? ⟨b1, o1 + i * 4 + 1, none⟩ = some (.int .i64 u.acc) := by rw [hu]; exact (Hb.out.cell (p := ⟨b1, o1 + i * 4 + 1, none⟩) hbw1).trans (hc1 i hxi 1 _ rfl)
                  have v1 : wr.cell? ⟨b2, o2 + i * 4 + 1, none⟩ = some (.int .i64 v.acc) := by rw [hv]; exact (Hb.out.cell (p := ⟨b2, o2 + i * 4 + 1, none⟩) hbw2).trans (hc2 i hyi 1 _ rfl)
                  have u2 : wr.cell? ⟨b1, o1 + i * 4 + 2, none⟩ = some (.int .i64 u.drift) := by rw [hu]; exact (Hb.out.cell (p := ⟨b1, o1 + i * 4 + 2, none⟩) hbw1).trans (hc1 i hxi 2 _ rfl)
                  have v2 : wr.cell? ⟨b2, o2 + i * 4 + 2, none⟩ = some (.int .i64 v.drift) := by rw [hv]; exact (Hb.out.cell (p := ⟨b2, o2 + i * 4 + 2, none⟩) hbw2).trans (hc2 i hyi 2 _ rfl)
                  have u3 : wr.cell? ⟨b1, o1 + i * 4 + 3, none⟩ = some (.int .i64 u.since) := by rw [hu]; exact (Hb.out.cell (p := ⟨b1, o1 + i * 4 + 3, none⟩) hbw1).trans (hc1 i hxi 3 _ rfl)
                  have v3 : wr.cell? ⟨b2, o2 + i * 4 + 3, none⟩ = some (.int .i64 v.since) := by rw [hv]; exact (Hb.out.cell (p := ⟨b2, o2 + i * 4 + 3, none⟩) hbw2).trans (hc2 i hyi 3 _ rfl)
                  rw [← hu, ← hv] at Hyes Hno
                  clear hu hv hc1 hc2
                  cases g0 : (u.name.toList == v.name.toList)
                  · have Hr := Lib.hid (Hno.out (by simp [gaugeEq, strEq, g0]))
                    go_wp2
                    go_quiet (fail)
                    go_wp2
                    go_ret
                    exact ⟨ret_bool (by rw [HQ.out, Hr.out]), HB0.out.trans ((below_drewN Hb.out _).mono (by omega))⟩
                  · skip
                    cases g1 : (u.acc == v.acc)
                    · have Hr := Lib.hid (Hno.out (by simp [gaugeEq, strEq, g0, g1]))
                      go_wp2
                      go_quiet (fail)
                      go_wp2
                      go_ret
                      exact ⟨ret_bool (by rw [HQ.out, Hr.out]), HB0.out.trans ((below_drewN Hb.out _).mono (by omega))⟩
                    · skip
                      cases g2 : (u.drift == v.drift)
                      · have Hr := Lib.hid (Hno.out (by simp [gaugeEq, strEq, g0, g1, g2]))
                        go_wp2
                        go_quiet (fail)
                        go_wp2
                        go_ret
                        exact ⟨ret_bool (by rw [HQ.out, Hr.out]), HB0.out.trans ((below_drewN Hb.out _).mono (by omega))⟩
                      · skip
                        cases g3 : (u.since == v.since)
                        · have Hr := Lib.hid (Hno.out (by simp [gaugeEq, strEq, g0, g1, g2, g3]))
                          go_wp2
                          go_quiet (fail)
                          go_wp2
                          go_ret
                          exact ⟨ret_bool (by rw [HQ.out, Hr.out]), HB0.out.trans ((below_drewN Hb.out _).mono (by omega))⟩
                        · skip
                          have Hr := Lib.hid (Hyes.out (by simp [gaugeEq, strEq, g0, g1, g2, g3]))
                          go_wp2
                          go_quiet (fail)
                          go_wp2
                          go_roundw
                          case rel => exact ⟨i + 1, by omega, by go_num, Hr, Lib.hid (below_drewN Hb.out _)⟩
                          case measure => simp [intOf]; omega
                · obtain rfl : i = n := by omega
                  have HR := Lib.hid (listEq_done (eq := gaugeEq) HL.out (by rw [← HX.out]; exact Hp.out))
                  go_wp2
                  go_ret
                  exact ⟨ret_bool (by rw [HQ.out, HR.out]), HB0.out.trans (Hb.out.mono (by omega))⟩
end Go.Proofs.YtcgnpndfhhcplaaGreatDoor
namespace Go.Proofs.YtcgnpndfhhcplaaGreatDoor
open Go.RowKit W7
attribute [local go_sem] Oper.semAt_some
set_option maxHeartbeats 4000000 in
set_option maxRecDepth 100000 in
theorem refSame_any (p o : Plan) (B : Nat) (w : World) (hp : PIn w B p) (ho : PIn w B o) (hB : B ≤ w.heap.size) :
    Calls Tryz.prog 13 #[.agg #[.slice p.qA p.qs.length p.qc, .slice p.mA p.ms.length p.mc, .slice p.aA p.al.length p.ac], .agg #[.slice o.qA o.qs.length o.qc, .slice o.mA o.ms.length o.mc, .slice o.aA o.al.length o.ac]] w fun e w' => e = .returned (.bool (sameP p o)) ∧ Below w.heap.size w w' := by
  obtain ⟨QP, hQP⟩ : ∃ V, p.qA = V := ⟨_, rfl⟩
  obtain ⟨MP, hMP⟩ : ∃ V, p.mA = V := ⟨_, rfl⟩
  obtain ⟨AP, hAP⟩ : ∃ V, p.aA = V := ⟨_, rfl⟩
  obtain ⟨QO, hQO⟩ : ∃ V, o.qA = V := ⟨_, rfl⟩
  obtain ⟨MO, hMO⟩ : ∃ V, o.mA = V := ⟨_, rfl⟩
  obtain ⟨AO, hAO⟩ : ∃ V, o.aA = V := ⟨_, rfl⟩
  have HQP0 := Lib.hid (show Sl w w.heap.size 7 encQ QP p.qs by rw [← hQP]; exact hp.qsl.mono hB)
  have HMP0 := Lib.hid (show Sl w w.heap.size 5 encM MP p.ms by rw [← hMP]; exact hp.msl.mono hB)
  have HAP0 := Lib.hid (show Sl w w.heap.size 4 encA AP p.al by rw [← hAP]; exact hp.asl.mono hB)
  have HQO0 := Lib.hid (show Sl w w.heap.size 7 encQ QO o.qs by rw [← hQO]; exact ho.qsl.mono hB)
  have HMO0 := Lib.hid (show Sl w w.heap.size 5 encM MO o.ms by rw [← hMO]; exact ho.msl.mono hB)
  have HAO0 := Lib.hid (show Sl w w.heap.size 4 encA AO o.al by rw [← hAO]; exact ho.asl.mono hB)
  rw [hQP, hMP, hAP, hQO, hMO, hAO]
  have lQP : p.qs.length ≤ 9223372036854775807 := by have := hp.qlc; have := hp.qc2; omega
  have lMP : p.ms.length ≤ 9223372036854775807 := by have := hp.mlc; have := hp.mc2; omega
  have lAP : p.al.length ≤ 9223372036854775807 := by have := hp.alc; have := hp.ac2; omega
  have lQO : o.qs.length ≤ 9223372036854775807 := by have := ho.qlc; have := ho.qc2; omega
  have lMO : o.ms.length ≤ 9223372036854775807 := by have := ho.mlc; have := ho.mc2; omega
  have lAO : o.al.length ≤ 9223372036854775807 := by have := ho.alc; have := ho.ac2; omega
  obtain ⟨W0, hW0⟩ : ∃ W0, W0 = (w.alloc (.cells #[.slice QP p.qs.length p.qc, .slice MP p.ms.length p.mc, .slice AP p.al.length p.ac] 26)).alloc (.cells #[.slice QO o.qs.length o.qc, .slice MO o.ms.length o.mc, .slice AO o.al.length o.ac] 26) := ⟨_, rfl⟩
  have HB0 := Lib.hid (show Below w.heap.size w W0 by rw [hW0]; exact ((Below.refl _ _).alloc (Nat.le_refl _) _).alloc (by simp) _)
  have hs0 : w.heap.size + 1 < W0.heap.size := by rw [hW0]; simp
  have HQP := Lib.hid (fun (X : World) (hX : Below W0.heap.size W0 X) => HQP0.out.below (HB0.out.trans (hX.mono (show w.heap.size ≤ W0.heap.size by omega))))
  have HMP := Lib.hid (fun (X : World) (hX : Below W0.heap.size W0 X) => HMP0.out.below (HB0.out.trans (hX.mono (show w.heap.size ≤ W0.heap.size by omega))))
  have HAP := Lib.hid (fun (X : World) (hX : Below W0.heap.size W0 X) => HAP0.out.below (HB0.out.trans (hX.mono (show w.heap.size ≤ W0.heap.size by omega))))
  have HQO := Lib.hid (fun (X : World) (hX : Below W0.heap.size W0 X) => HQO0.out.below (HB0.out.trans (hX.mono (show w.heap.size ≤ W0.heap.size by omega))))
  have HMO := Lib.hid (fun (X : World) (hX : Below W0.heap.size W0 X) => HMO0.out.below (HB0.out.trans (hX.mono (show w.heap.size ≤ W0.heap.size by omega))))
  have HAO := Lib.hid (fun (X : World) (hX : Below W0.heap.size W0 X) => HAO0.out.below (HB0.out.trans (hX.mono (show w.heap.size ≤ W0.heap.size by omega))))
  have HQp := Lib.hid (fun (X : World) (hX : Below W0.heap.size W0 X) => show ∀ q ∈ p.qs, QIn X w.heap.size q from fun q hq => ((hp.qin q hq).mono hB).below (HB0.out.trans (hX.mono (show w.heap.size ≤ W0.heap.size by omega))))
  have HQo := Lib.hid (fun (X : World) (hX : Below W0.heap.size W0 X) => show ∀ q ∈ o.qs, QIn X w.heap.size q from fun q hq => ((ho.qin q hq).mono hB).below (HB0.out.trans (hX.mono (show w.heap.size ≤ W0.heap.size by omega))))
  clear HQP0 HMP0 HAP0 HQO0 HMO0 HAO0 hp ho hB hQP hMP hAP hQO hMO hAO
  have x0 : W0.cell? ⟨w.heap.size, 0, none⟩ = some (.slice QP p.qs.length p.qc) := by rw [hW0]; exact (((Below.refl _ _).alloc (Nat.le_refl _) _).cell (p := ⟨w.heap.size, 0, none⟩) (by simp)).trans (alloc_cell rfl)
  have y0 : W0.cell? ⟨w.heap.size + 1, 0, none⟩ = some (.slice QO o.qs.length o.qc) := by rw [hW0]; simp
  have x1 : W0.cell? ⟨w.heap.size, 1, none⟩ = some (.slice MP p.ms.length p.mc) := by rw [hW0]; exact (((Below.refl _ _).alloc (Nat.le_refl _) _).cell (p := ⟨w.heap.size, 1, none⟩) (by simp)).trans (alloc_cell rfl)
  have y1 : W0.cell? ⟨w.heap.size + 1, 1, none⟩ = some (.slice MO o.ms.length o.mc) := by rw [hW0]; simp
  have x2 : W0.cell? ⟨w.heap.size, 2, none⟩ = some (.slice AP p.al.length p.ac) := by rw [hW0]; exact (((Below.refl _ _).alloc (Nat.le_refl _) _).cell (p := ⟨w.heap.size, 2, none⟩) (by simp)).trans (alloc_cell rfl)
  have y2 : W0.cell? ⟨w.heap.size + 1, 2, none⟩ = some (.slice AO o.al.length o.ac) := by rw [hW0]; simp
  have HW0 := Lib.hid hW0
  clear hW0
  by_cases h0 : p.qs.length = o.qs.length
  rotate_left
  · have Hr := Lib.hid (show sameP p o = false by unfold sameP; rw [listEq_lens (eq := quantEq) h0]; simp)
    have f0 : ((p.qs.length : Int) != (o.qs.length : Int)) = true := by simp; omega
    clear h0
    go_enter Tryz.func13, Tryz.ntmps13
    go_upto_region 1 with fail
    rw [← HW0.out]
    go_wp2
    go_ret
    exact ⟨ret_bool Hr.out.symm, HB0.out⟩
  by_cases h1 : p.ms.length = o.ms.length
  rotate_left
  · have Hr := Lib.hid (show sameP p o = false by unfold sameP; rw [listEq_lens (eq := measEq) h1]; simp)
    have f0 : ((p.qs.length : Int) != (o.qs.length : Int)) = false := by rw [h0]; simp
    have f1 : ((p.ms.length : Int) != (o.ms.length : Int)) = true := by simp; omega
    clear h0 h1
    go_enter Tryz.func13, Tryz.ntmps13
    go_upto_region 1 with fail
    rw [← HW0.out]
    go_wp2
    go_ret
    exact ⟨ret_bool Hr.out.symm, HB0.out⟩
  by_cases h2 : p.al.length = o.al.length
  rotate_left
  · have Hr := Lib.hid (show sameP p o = false by unfold sameP; rw [listEq_lens (eq := alarmEq) h2]; simp)
    have f0 : ((p.qs.length : Int) != (o.qs.length : Int)) = false := by rw [h0]; simp
    have f1 : ((p.ms.length : Int) != (o.ms.length : Int)) = false := by rw [h1]; simp
    have f2 : ((p.al.length : Int) != (o.al.length : Int)) = true := by simp; omega
    clear h0 h1 h2
    go_enter Tryz.func13, Tryz.ntmps13
    go_upto_region 1 with fail
    rw [← HW0.out]
    go_wp2
    go_ret
    exact ⟨ret_bool Hr.out.symm, HB0.out⟩
  obtain ⟨n0, hn0⟩ : ∃ n, n = p.qs.length := ⟨_, rfl⟩
  have hm0 : o.qs.length = n0 := by omega
  rw [← hn0] at x0 lQP HW0
  rw [hm0] at y0 HW0
  have f0 : ((n0 : Int) != (n0 : Int)) = false := by simp
  have HL0 := Lib.hid h0
  have HX0 := Lib.hid hn0
  have HY0 := Lib.hid hm0
  obtain ⟨n1, hn1⟩ : ∃ n, n = p.ms.length := ⟨_, rfl⟩
  have hm1 : o.ms.length = n1 := by omega
  rw [← hn1] at x1 lMP HW0
  rw [hm1] at y1 HW0
  have f1 : ((n1 : Int) != (n1 : Int)) = false := by simp
  have HL1 := Lib.hid h1
  have HX1 := Lib.hid hn1
  have HY1 := Lib.hid hm1
  obtain ⟨n2, hn2⟩ : ∃ n, n = p.al.length := ⟨_, rfl⟩
  have hm2 : o.al.length = n2 := by omega
  rw [← hn2] at x2 lAP HW0
  rw [hm2] at y2 HW0
  have f2 : ((n2 : Int) != (n2 : Int)) = false := by simp
  have HL2 := Lib.hid h2
  have HX2 := Lib.hid hn2
  have HY2 := Lib.hid hm2
  clear h0 h1 h2 hn0 hn1 hn2 hm0 hm1 hm2 lQO lMO lAO
  go_enter Tryz.func13, Tryz.ntmps13
  go_upto_region 1 with fail
  rw [← HX0.out, ← HX1.out, ← HX2.out, HY0.out, HY1.out, HY2.out, ← HW0.out]
  go_wp2
  have XX0 := Lib.hid x0
  have YY0 := Lib.hid y0
  have XX1 := Lib.hid x1
  have YY1 := Lib.hid y1
  have XX2 := Lib.hid x2
  have YY2 := Lib.hid y2
  clear x0 x1 x2 y0 y1 y2
  go_loopw [5] (fun v wr => ∃ i : Nat, i ≤ n0 ∧ v = .int .i64 i ∧ Hid (preEq quantEq p.qs o.qs i = true) ∧ Hid (Below W0.heap.size W0 wr)) (fun v _ => n0 - (intOf v).toNat)
  case atStart => exact ⟨0, by omega, rfl, Lib.hid rfl, Lib.hid (Below.refl _ _)⟩
  case round =>
    obtain ⟨i, hi, rfl, Hp, Hb0⟩ := hrel
    have hsz := Hb0.out.size
    have z0 := (Hb0.out.cell (p := ⟨w.heap.size, 0, none⟩) (show w.heap.size < W0.heap.size by omega)).trans XX0.out
    have t0 := (Hb0.out.cell (p := ⟨w.heap.size + 1, 0, none⟩) (show w.heap.size + 1 < W0.heap.size by omega)).trans YY0.out
    have z1 := (Hb0.out.cell (p := ⟨w.heap.size, 1, none⟩) (show w.heap.size < W0.heap.size by omega)).trans XX1.out
    have t1 := (Hb0.out.cell (p := ⟨w.heap.size + 1, 1, none⟩) (show w.heap.size + 1 < W0.heap.size by omega)).trans YY1.out
    have z2 := (Hb0.out.cell (p := ⟨w.heap.size, 2, none⟩) (show w.heap.size < W0.heap.size by omega)).trans XX2.out
    have t2 := (Hb0.out.cell (p := ⟨w.heap.size + 1, 2, none⟩) (show w.heap.size + 1 < W0.heap.size by omega)).trans YY2.out
    by_cases hlt : i < n0
    · have hxi : i < p.qs.length := by have := HX0.out; omega
      have hyi : i < o.qs.length := by have := HL0.out; omega
      obtain ⟨b1, o1, rfl, hb1, hc1⟩ := (HQP.out wr Hb0.out) (by omega)
      obtain ⟨b2, o2, rfl, hb2, hc2⟩ := (HQO.out wr Hb0.out) (by omega)
      have hbw1 : b1 < wr.heap.size := by omega
      have hbw2 : b2 < wr.heap.size := by omega
      have Hyes := Lib.hid (preEq_succ (eq := quantEq) Hp.out hxi hyi)
      have Hno := Lib.hid (listEq_no (eq := quantEq) hxi hyi)
      obtain ⟨u, hu⟩ : ∃ u, u = p.qs[i] := ⟨_, rfl⟩
      obtain ⟨v, hv⟩ : ∃ v, v = o.qs[i] := ⟨_, rfl⟩
      have eu0 : wr.cell? ⟨b1, o1 + i * 7, none⟩ = some (.string u.name) := by rw [hu]; exact hc1 i hxi 0 _ rfl
      have ev0 : wr.cell? ⟨b2, o2 + i * 7, none⟩ = some (.string v.name) := by rw [hv]; exact hc2 i hyi 0 _ rfl
      have eu1 : wr.cell? ⟨b1, o1 + i * 7 + 1, none⟩ = some (.int .i64 u.lo) := by rw [hu]; exact hc1 i hxi 1 _ rfl
      have ev1 : wr.cell? ⟨b2, o2 + i * 7 + 1, none⟩ = some (.int .i64 v.lo) := by rw [hv]; exact hc2 i hyi 1 _ rfl
      have eu2 : wr.cell? ⟨b1, o1 + i * 7 + 2, none⟩ = some (.int .i64 u.hi) := by rw [hu]; exact hc1 i hxi 2 _ rfl
      have ev2 : wr.cell? ⟨b2, o2 + i * 7 + 2, none⟩ = some (.int .i64 v.hi) := by rw [hv]; exact hc2 i hyi 2 _ rfl
      have eu3 : wr.cell? ⟨b1, o1 + i * 7 + 3, none⟩ = some (.int .i64 u.rise) := by rw [hu]; exact hc1 i hxi 3 _ rfl
      have ev3 : wr.cell? ⟨b2, o2 + i * 7 + 3, none⟩ = some (.int .i64 v.rise) := by rw [hv]; exact hc2 i hyi 3 _ rfl
      have eu4 : wr.cell? ⟨b1, o1 + i * 7 + 4, none⟩ = some (.int .i64 u.fall) := by rw [hu]; exact hc1 i hxi 4 _ rfl
      have ev4 : wr.cell? ⟨b2, o2 + i * 7 + 4, none⟩ = some (.int .i64 v.fall) := by rw [hv]; exact hc2 i hyi 4 _ rfl
      have eu5 : wr.cell? ⟨b1, o1 + i * 7 + 5, none⟩ = some (.int .i64 u.bad) := by rw [hu]; exact hc1 i hxi 5 _ rfl
      have ev5 : wr.cell? ⟨b2, o2 + i * 7 + 5, none⟩ = some (.int .i64 v.bad) := by rw [hv]; exact hc2 i hyi 5 _ rfl
      have eu6 : wr.cell? ⟨b1, o1 + i * 7 + 6, none⟩ = some (.slice u.gA u.gs.length u.gc) := by rw [hu]; exact hc1 i hxi 6 _ rfl
      have ev6 : wr.cell? ⟨b2, o2 + i * 7 + 6, none⟩ = some (.slice v.gA v.gs.length v.gc) := by rw [hv]; exact hc2 i hyi 6 _ rfl
      have HQU := Lib.hid (fun (X : World) (hX : Below W0.heap.size W0 X) => show QIn X w.heap.size u by rw [hu]; exact HQp.out X hX _ (List.getElem_mem hxi))
      have HQV := Lib.hid (fun (X : World) (hX : Below W0.heap.size W0 X) => show QIn X w.heap.size v by rw [hv]; exact HQo.out X hX _ (List.getElem_mem hyi))
      rw [← hu, ← hv] at Hyes Hno
      clear hu hv hc1 hc2
      have c0 := later_cell eu0 (by omega)
      have d0 := later_cell ev0 (by omega)
      have c1 := later_cell eu1 (by omega)
      have d1 := later_cell ev1 (by omega)
      have c2 := later_cell eu2 (by omega)
      have d2 := later_cell ev2 (by omega)
      have c3 := later_cell eu3 (by omega)
      have d3 := later_cell ev3 (by omega)
      have c4 := later_cell eu4 (by omega)
      have d4 := later_cell ev4 (by omega)
      have c5 := later_cell eu5 (by omega)
      have d5 := later_cell ev5 (by omega)
      have c6 := later_cell eu6 (by omega)
      have d6 := later_cell ev6 (by omega)
      have kz := later_cell z0 (by omega)
      have kt := later_cell t0 (by omega)
      go_wp2
      obtain ⟨R6, hR6⟩ : ∃ R : (Nat → Bool) → Act → World → Prop, R = fun L a' w' => ∃ (e : Later wr) (v40 v41 v42 v43 v44 v45 v46 v47 v48 v49 v50 : Value), w' = e.w ∧ a' = { tmps := #[Value.agg #[Value.slice (some { block := b1, off := o1 }) n0 p.qc, Value.slice MP n1 p.mc, Value.slice AP n2 p.ac], Value.agg #[Value.slice (some { block := b2, off := o2 }) n0 o.qc, Value.slice MO n1 o.mc, Value.slice AO n2 o.ac], Value.pointer (some { block := w.heap.size, off := 0 }), Value.pointer (some { block := w.heap.size + 1, off := 0 }), u4, Value.int IntKind.i64 ↑i, undef, undef, Value.pointer (some { block := w.heap.size, off := 0 }), Value.slice (some { block := b1, off := o1 }) n0 p.qc, Value.int IntKind.i64 ↑n0, Value.pointer (some { block := w.heap.size + 1, off := 0 }), Value.slice (some { block := b2, off := o2 }) n0 o.qc, Value.int IntKind.i64 ↑n0, Value.bool false, Value.bool false, Value.pointer (some { block := w.heap.size, off := 1 }), Value.slice MP n1 p.mc, Value.int IntKind.i64 ↑n1, Value.pointer (some { block := w.heap.size + 1, off := 1 }), Value.slice MO n1 o.mc, Value.int IntKind.i64 ↑n1, Value.bool false, Value.bool false, Value.bool false, Value.pointer (some { block := w.heap.size, off := 2 }), Value.slice AP n2 p.ac, Value.int IntKind.i64 ↑n2, Value.pointer (some { block := w.heap.size + 1, off := 2 }), Value.slice AO n2 o.ac, Value.int IntKind.i64 ↑n2, Value.bool false, Value.bool false, Value.int IntKind.i64 ↑i, Value.pointer (some { block := w.heap.size, off := 0 }), Value.slice (some { block := b1, off := o1 }) n0 p.qc, Value.int IntKind.i64 ↑n0, Value.bool true, u38, u39, v40, v41, v42, v43, v44, v45, v46, v47, v48, v49, v50, u51, undef, undef, undef, undef, undef, undef, undef, undef, undef, undef, undef, undef, undef, undef, undef, undef, undef, undef, undef, undef, undef, undef, undef, undef, undef, undef, undef, undef, undef, undef, undef, undef, undef, undef, undef, undef], defers := [] } ∧ (L 0 = true → v40 = .pointer (some ⟨w.heap.size, 0, none⟩)) ∧ (L 1 = true → v41 = .slice (some ⟨b1, o1, none⟩) n0 p.qc) ∧ (L 2 = true → v42 = .int .i64 i) ∧ (L 3 = true → v43 = .pointer (some ⟨b1, o1 + i * 7, none⟩)) ∧ (L 4 = true → v44 = .agg #[.string u.name, .int .i64 u.lo, .int .i64 u.hi, .int .i64 u.rise, .int .i64 u.fall, .int .i64 u.bad, .slice u.gA u.gs.length u.gc]) ∧ (L 5 = true → v45 = .pointer (some ⟨w.heap.size + 1, 0, none⟩)) ∧ (L 6 = true → v46 = .slice (some ⟨b2, o2, none⟩) n0 o.qc) ∧ (L 7 = true → v47 = .int .i64 i) ∧ (L 8 = true → v48 = .pointer (some ⟨b2, o2 + i * 7, none⟩)) ∧ (L 9 = true → v49 = .agg #[.string v.name, .int .i64 v.lo, .int .i64 v.hi, .int .i64 v.rise, .int .i64 v.fall, .int .i64 v.bad, .slice v.gA v.gs.length v.gc]) ∧ (L 10 = true → v50 = .bool (quantEq u v)) := ⟨_, rfl⟩
      have HR6 := Lib.hid hR6
      clear hR6
      refine wp_region_inv 11 R6 (by kernel_rfl) (by kernel_rfl) (by kernel_rfl) (by kernel_rfl) (by decide) (by kernel_rfl) ?_ ?_ ?_
      · rw [HR6.out]
        exact ⟨⟨_, (Below.refl wr.heap.size wr).drew⟩, _, _, _, _, _, _, _, _, _, _, _, rfl, rfl, by simp, by simp, by simp, by simp, by simp, by simp, by simp, by simp, by simp, by simp, by simp⟩
      · rintro L a' w' i o hi ho hLi haf hInv
        rw [HR6.out] at hInv
        obtain ⟨e, v40, v41, v42, v43, v44, v45, v46, v47, v48, v49, v50, rfl, rfl, h0, h1, h2, h3, h4, h5, h6, h7, h8, h9, h10⟩ := hInv
        have hse : wr.heap.size ≤ e.w.heap.size := e.b.size
        rcases i with _ | _ | _ | _ | _ | _ | _ | _ | _ | _ | _ | i
        case succ.succ.succ.succ.succ.succ.succ.succ.succ.succ.succ => omega
        all_goals (simp only [List.getElem?_cons_zero, List.getElem?_cons_succ, Option.some.injEq] at ho; subst ho)
        · go_wp2
          rw [HR6.out]
          exact ⟨e, _, _, _, _, _, _, _, _, _, _, _, rfl, rfl, fun _ => rfl, fun z => h1 (by simpa using z), fun z => h2 (by simpa using z), fun z => h3 (by simpa using z), fun z => h4 (by simpa using z), fun z => h5 (by simpa using z), fun z => h6 (by simpa using z), fun z => h7 (by simpa using z), fun z => h8 (by simpa using z), fun z => h9 (by simpa using z), fun z => h10 (by simpa using z)⟩
        · obtain rfl := h0 (haf ⟨0, .data⟩ (by simp) rfl)
          go_wp2
          rw [HR6.out]
          exact ⟨e, _, _, _, _, _, _, _, _, _, _, _, rfl, rfl, fun _ => rfl, fun _ => rfl, fun z => h2 (by simpa using z), fun z => h3 (by simpa using z), fun z => h4 (by simpa using z), fun z => h5 (by simpa using z), fun z => h6 (by simpa using z), fun z => h7 (by simpa using z), fun z => h8 (by simpa using z), fun z => h9 (by simpa using z), fun z => h10 (by simpa using z)⟩
        · go_wp2
          rw [HR6.out]
          exact ⟨e, _, _, _, _, _, _, _, _, _, _, _, rfl, rfl, fun z => h0 (by simpa using z), fun z => h1 (by simpa using z), fun _ => rfl, fun z => h3 (by simpa using z), fun z => h4 (by simpa using z), fun z => h5 (by simpa using z), fun z => h6 (by simpa using z), fun z => h7 (by simpa using z), fun z => h8 (by simpa using z), fun z => h9 (by simpa using z), fun z => h10 (by simpa using z)⟩
        · obtain rfl := h1 (haf ⟨1, .data⟩ (by simp) rfl)
          obtain rfl := h2 (haf ⟨2, .data⟩ (by simp) rfl)
          go_wp2
          rw [HR6.out]
          exact ⟨e, _, _, _, _, _, _, _, _, _, _, _, rfl, rfl, fun z => h0 (by simpa using z), fun _ => rfl, fun _ => rfl, fun _ => rfl, fun z => h4 (by simpa using z), fun z => h5 (by simpa using z), fun z => h6 (by simpa using z), fun z => h7 (by simpa using z), fun z => h8 (by simpa using z), fun z => h9 (by simpa using z), fun z => h10 (by simpa using z)⟩
        · obtain rfl := h3 (haf ⟨3, .data⟩ (by simp) rfl)
          go_wp2
          rw [HR6.out]
          exact ⟨e, _, _, _, _, _, _, _, _, _, _, _, rfl, rfl, fun z => h0 (by simpa using z), fun z => h1 (by simpa using z), fun z => h2 (by simpa using z), fun _ => rfl, fun _ => rfl, fun z => h5 (by simpa using z), fun z => h6 (by simpa using z), fun z => h7 (by simpa using z), fun z => h8 (by simpa using z), fun z => h9 (by simpa using z), fun z => h10 (by simpa using z)⟩
        · go_wp2
          rw [HR6.out]
          exact ⟨e, _, _, _, _, _, _, _, _, _, _, _, rfl, rfl, fun z => h0 (by simpa using z), fun z => h1 (by simpa using z), fun z => h2 (by simpa using z), fun z => h3 (by simpa using z), fun z => h4 (by simpa using z), fun _ => rfl, fun z => h6 (by simpa using z), fun z => h7 (by simpa using z), fun z => h8 (by simpa using z), fun z => h9 (by simpa using z), fun z => h10 (by simpa using z)⟩
        · obtain rfl := h5 (haf ⟨5, .data⟩ (by simp) rfl)
          go_wp2
          rw [HR6.out]
          exact ⟨e, _, _, _, _, _, _, _, _, _, _, _, rfl, rfl, fun z => h0 (by simpa using z), fun z => h1 (by simpa using z), fun z => h2 (by simpa using z), fun z => h3 (by simpa using z), fun z => h4 (by simpa using z), fun _ => rfl, fun _ => rfl, fun z => h7 (by simpa using z), fun z => h8 (by simpa using z), fun z => h9 (by simpa using z), fun z => h10 (by simpa using z)⟩
        · go_wp2
          rw [HR6.out]
          exact ⟨e, _, _, _, _, _, _, _, _, _, _, _, rfl, rfl, fun z => h0 (by simpa using z), fun z => h1 (by simpa using z), fun z => h2 (by simpa using z), fun z => h3 (by simpa using z), fun z => h4 (by simpa using z), fun z => h5 (by simpa using z), fun z => h6 (by simpa using z), fun _ => rfl, fun z => h8 (by simpa using z), fun z => h9 (by simpa using z), fun z => h10 (by simpa using z)⟩
        · obtain rfl := h6 (haf ⟨6, .data⟩ (by simp) rfl)
          obtain rfl := h7 (haf ⟨7, .data⟩ (by simp) rfl)
          go_wp2
          rw [HR6.out]
          exact ⟨e, _, _, _, _, _, _, _, _, _, _, _, rfl, rfl, fun z => h0 (by simpa using z), fun z => h1 (by simpa using z), fun z => h2 (by simpa using z), fun z => h3 (by simpa using z), fun z => h4 (by simpa using z), fun z => h5 (by simpa using z), fun _ => rfl, fun _ => rfl, fun _ => rfl, fun z => h9 (by simpa using z), fun z => h10 (by simpa using z)⟩
        · obtain rfl := h8 (haf ⟨8, .data⟩ (by simp) rfl)
          go_wp2
          rw [HR6.out]
          exact ⟨e, _, _, _, _, _, _, _, _, _, _, _, rfl, rfl, fun z => h0 (by simpa using z), fun z => h1 (by simpa using z), fun z => h2 (by simpa using z), fun z => h3 (by simpa using z), fun z => h4 (by simpa using z), fun z => h5 (by simpa using z), fun z => h6 (by simpa using z), fun z => h7 (by simpa using z), fun _ => rfl, fun _ => rfl, fun z => h10 (by simpa using z)⟩
        · obtain rfl := h4 (haf ⟨4, .data⟩ (by simp) rfl)
          obtain rfl := h9 (haf ⟨9, .data⟩ (by simp) rfl)
          go_wp2_with (go_at_call 45; refine (refSameQ_any u v w.heap.size _ (HQU.out _ (Hb0.out.trans (e.b.mono hsz))) (HQV.out _ (Hb0.out.trans (e.b.mono hsz))) (by omega)).mono ?_; rintro r w4 ⟨rfl, hNew⟩)
          rw [HR6.out]
          exact ⟨⟨w4, e.b.trans (hNew.mono e.b.size)⟩, _, _, _, _, _, _, _, _, _, _, _, rfl, rfl, fun z => h0 (by simpa using z), fun z => h1 (by simpa using z), fun z => h2 (by simpa using z), fun z => h3 (by simpa using z), fun _ => rfl, fun z => h5 (by simpa using z), fun z => h6 (by simpa using z), fun z => h7 (by simpa using z), fun z => h8 (by simpa using z), fun _ => rfl, fun _ => rfl⟩
      · rintro L a' w' hL hInv
        rw [HR6.out] at hInv
        obtain ⟨e, v40, v41, v42, v43, v44, v45, v46, v47, v48, v49, v50, rfl, rfl, h0, h1, h2, h3, h4, h5, h6, h7, h8, h9, h10⟩ := hInv
        obtain rfl := h0 (hL 0 (by omega))
        obtain rfl := h1 (hL 1 (by omega))
        obtain rfl := h2 (hL 2 (by omega))
        obtain rfl := h3 (hL 3 (by omega))
        obtain rfl := h4 (hL 4 (by omega))
        obtain rfl := h5 (hL 5 (by omega))
        obtain rfl := h6 (hL 6 (by omega))
        obtain rfl := h7 (hL 7 (by omega))
        obtain rfl := h8 (hL 8 (by omega))
        obtain rfl := h9 (hL 9 (by omega))
        obtain rfl := h10 (hL 10 (by omega))
        have hse : wr.heap.size ≤ e.w.heap.size := e.b.size
        clear h0 h1 h2 h3 h4 h5 h6 h7 h8 h9 h10 hL HR6
        have HB1 := Lib.hid (Hb0.out.trans (e.b.mono hsz))
        clear c0 c1 c2 c3 c4 c5 c6 d0 d1 d2 d3 d4 d5 d6 kz kt
        cases he : quantEq u v
        · have Hr := Lib.hid (Hno.out he)
          go_wp2
          go_ret
          exact ⟨ret_bool (by unfold sameP; rw [Hr.out]; rfl), HB0.out.trans (HB1.out.mono (by omega))⟩
        · have Hr := Lib.hid (Hyes.out he)
          go_wp2
          go_roundw
          case rel => exact ⟨i + 1, by omega, by go_num, Hr, HB1⟩
          case measure => simp [intOf]; omega
    · obtain rfl : i = n0 := by omega
      have HD0 := Lib.hid (listEq_done (eq := quantEq) HL0.out (by rw [← HX0.out]; exact Hp.out))
      go_wp2
      clear z0 z1 z2 t0 t1 t2
      go_loopw [6] (fun v wr => ∃ i : Nat, i ≤ n1 ∧ v = .int .i64 i ∧ Hid (preEq measEq p.ms o.ms i = true) ∧ Hid (Below W0.heap.size W0 wr)) (fun v _ => n1 - (intOf v).toNat)
      case atStart => exact ⟨0, by omega, rfl, Lib.hid rfl, Lib.hid Hb0.out⟩
      case round =>
        obtain ⟨i, hi, rfl, Hp, Hb1⟩ := hrel
        have hsz := Hb1.out.size
        have z0 := (Hb1.out.cell (p := ⟨w.heap.size, 0, none⟩) (show w.heap.size < W0.heap.size by omega)).trans XX0.out
        have t0 := (Hb1.out.cell (p := ⟨w.heap.size + 1, 0, none⟩) (show w.heap.size + 1 < W0.heap.size by omega)).trans YY0.out
        have z1 := (Hb1.out.cell (p := ⟨w.heap.size, 1, none⟩) (show w.heap.size < W0.heap.size by omega)).trans XX1.out
        have t1 := (Hb1.out.cell (p := ⟨w.heap.size + 1, 1, none⟩) (show w.heap.size + 1 < W0.heap.size by omega)).trans YY1.out
        have z2 := (Hb1.out.cell (p := ⟨w.heap.size, 2, none⟩) (show w.heap.size < W0.heap.size by omega)).trans XX2.out
        have t2 := (Hb1.out.cell (p := ⟨w.heap.size + 1, 2, none⟩) (show w.heap.size + 1 < W0.heap.size by omega)).trans YY2.out
        by_cases hlt : i < n1
        · have hxi : i < p.ms.length := by have := HX1.out; omega
          have hyi : i < o.ms.length := by have := HL1.out; omega
          obtain ⟨b1, o1, rfl, hb1, hc1⟩ := (HMP.out wr Hb1.out) (by omega)
          obtain ⟨b2, o2, rfl, hb2, hc2⟩ := (HMO.out wr Hb1.out) (by omega)
          have hbw1 : b1 < wr.heap.size := by omega
          have hbw2 : b2 < wr.heap.size := by omega
          have Hyes := Lib.hid (preEq_succ (eq := measEq) Hp.out hxi hyi)
          have Hno := Lib.hid (listEq_no (eq := measEq) hxi hyi)
          obtain ⟨u, hu⟩ : ∃ u, u = p.ms[i] := ⟨_, rfl⟩
          obtain ⟨v, hv⟩ : ∃ v, v = o.ms[i] := ⟨_, rfl⟩
          have eu0 : wr.cell? ⟨b1, o1 + i * 5, none⟩ = some (.string u.name) := by rw [hu]; exact hc1 i hxi 0 _ rfl
          have ev0 : wr.cell? ⟨b2, o2 + i * 5, none⟩ = some (.string v.name) := by rw [hv]; exact hc2 i hyi 0 _ rfl
          have eu1 : wr.cell? ⟨b1, o1 + i * 5 + 1, none⟩ = some (.string u.crew) := by rw [hu]; exact hc1 i hxi 1 _ rfl
          have ev1 : wr.cell? ⟨b2, o2 + i * 5 + 1, none⟩ = some (.string v.crew) := by rw [hv]; exact hc2 i hyi 1 _ rfl
          have eu2 : wr.cell? ⟨b1, o1 + i * 5 + 2, none⟩ = some (.int .i64 u.rank) := by rw [hu]; exact hc1 i hxi 2 _ rfl
          have ev2 : wr.cell? ⟨b2, o2 + i * 5 + 2, none⟩ = some (.int .i64 v.rank) := by rw [hv]; exact hc2 i hyi 2 _ rfl
          have eu3 : wr.cell? ⟨b1, o1 + i * 5 + 3, none⟩ = some (.int .i64 u.lag) := by rw [hu]; exact hc1 i hxi 3 _ rfl
          have ev3 : wr.cell? ⟨b2, o2 + i * 5 + 3, none⟩ = some (.int .i64 v.lag) := by rw [hv]; exact hc2 i hyi 3 _ rfl
          have eu4 : wr.cell? ⟨b1, o1 + i * 5 + 4, none⟩ = some (.int .i64 u.takes) := by rw [hu]; exact hc1 i hxi 4 _ rfl
          have ev4 : wr.cell? ⟨b2, o2 + i * 5 + 4, none⟩ = some (.int .i64 v.takes) := by rw [hv]; exact hc2 i hyi 4 _ rfl
          rw [← hu, ← hv] at Hyes Hno
          clear hu hv hc1 hc2
          cases g0 : (u.name.toList == v.name.toList)
          · have Hr := Lib.hid (Hno.out (by simp [measEq, strEq, g0]))
            go_wp2
            go_quiet (fail)
            go_wp2
            go_ret
            exact ⟨ret_bool (by unfold sameP; rw [HD0.out, Hr.out]; rfl), HB0.out.trans ((below_drewN Hb1.out _).mono (by omega))⟩
          · skip
            cases g1 : (u.crew.toList == v.crew.toList)
            · have Hr := Lib.hid (Hno.out (by simp [measEq, strEq, g0, g1]))
              go_wp2
              go_quiet (fail)
              go_wp2
              go_ret
              exact ⟨ret_bool (by unfold sameP; rw [HD0.out, Hr.out]; rfl), HB0.out.trans ((below_drewN Hb1.out _).mono (by omega))⟩
            · skip
              cases g2 : (u.rank == v.rank)
              · have Hr := Lib.hid (Hno.out (by simp [measEq, strEq, g0, g1, g2]))
                go_wp2
                go_quiet (fail)
                go_wp2
                go_ret
                exact ⟨ret_bool (by unfold sameP; rw [HD0.out, Hr.out]; rfl), HB0.out.trans ((below_drewN Hb1.out _).mono (by omega))⟩
              · skip
                cases g3 : (u.lag == v.lag)
                · have Hr := Lib.hid (Hno.out (by simp [measEq, strEq, g0, g1, g2, g3]))
                  go_wp2
                  go_quiet (fail)
                  go_wp2
                  go_ret
                  exact ⟨ret_bool (by unfold sameP; rw [HD0.out, Hr.out]; rfl), HB0.out.trans ((below_drewN Hb1.out _).mono (by omega))⟩
                · skip
                  cases g4 : (u.takes == v.takes)
                  · have Hr := Lib.hid (Hno.out (by simp [measEq, strEq, g0, g1, g2, g3, g4]))
                    go_wp2
                    go_quiet (fail)
                    go_wp2
                    go_ret
                    exact ⟨ret_bool (by unfold sameP; rw [HD0.out, Hr.out]; rfl), HB0.out.trans ((below_drewN Hb1.out _).mono (by omega))⟩
                  · skip
                    have Hr := Lib.hid (Hyes.out (by simp [measEq, strEq, g0, g1, g2, g3, g4]))
                    go_wp2
                    go_quiet (fail)
                    go_wp2
                    go_roundw
                    case rel => exact ⟨i + 1, by omega, by go_num, Hr, Lib.hid (below_drewN Hb1.out _)⟩
                    case measure => simp [intOf]; omega
        · obtain rfl : i = n1 := by omega
          have HD1 := Lib.hid (listEq_done (eq := measEq) HL1.out (by rw [← HX1.out]; exact Hp.out))
          go_wp2
          clear z0 z1 z2 t0 t1 t2
          go_loopw [7] (fun v wr => ∃ i : Nat, i ≤ n2 ∧ v = .int .i64 i ∧ Hid (preEq alarmEq p.al o.al i = true) ∧ Hid (Below W0.heap.size W0 wr)) (fun v _ => n2 - (intOf v).toNat)
          case atStart => exact ⟨0, by omega, rfl, Lib.hid rfl, Lib.hid Hb1.out⟩
          case round =>
            obtain ⟨i, hi, rfl, Hp, Hb2⟩ := hrel
            have hsz := Hb2.out.size
            have z0 := (Hb2.out.cell (p := ⟨w.heap.size, 0, none⟩) (show w.heap.size < W0.heap.size by omega)).trans XX0.out
            have t0 := (Hb2.out.cell (p := ⟨w.heap.size + 1, 0, none⟩) (show w.heap.size + 1 < W0.heap.size by omega)).trans YY0.out
            have z1 := (Hb2.out.cell (p := ⟨w.heap.size, 1, none⟩) (show w.heap.size < W0.heap.size by omega)).trans XX1.out
            have t1 := (Hb2.out.cell (p := ⟨w.heap.size + 1, 1, none⟩) (show w.heap.size + 1 < W0.heap.size by omega)).trans YY1.out
            have z2 := (Hb2.out.cell (p := ⟨w.heap.size, 2, none⟩) (show w.heap.size < W0.heap.size by omega)).trans XX2.out
            have t2 := (Hb2.out.cell (p := ⟨w.heap.size + 1, 2, none⟩) (show w.heap.size + 1 < W0.heap.size by omega)).trans YY2.out
            by_cases hlt : i < n2
            · have hxi : i < p.al.length := by have := HX2.out; omega
              have hyi : i < o.al.length := by have := HL2.out; omega
              obtain ⟨b1, o1, rfl, hb1, hc1⟩ := (HAP.out wr Hb2.out) (by omega)
              obtain ⟨b2, o2, rfl, hb2, hc2⟩ := (HAO.out wr Hb2.out) (by omega)
              have hbw1 : b1 < wr.heap.size := by omega
              have hbw2 : b2 < wr.heap.size := by omega
              have Hyes := Lib.hid (preEq_succ (eq := alarmEq) Hp.out hxi hyi)
              have Hno := Lib.hid (listEq_no (eq := alarmEq) hxi hyi)
              obtain ⟨u, hu⟩ : ∃ u, u = p.al[i] := ⟨_, rfl⟩
              obtain ⟨v, hv⟩ : ∃ v, v = o.al[i] := ⟨_, rfl⟩
              have eu0 : wr.cell? ⟨b1, o1 + i * 4, none⟩ = some (.int .i64 u.q) := by rw [hu]; exact hc1 i hxi 0 _ rfl
              have ev0 : wr.cell? ⟨b2, o2 + i * 4, none⟩ = some (.int .i64 v.q) := by rw [hv]; exact hc2 i hyi 0 _ rfl
              have eu1 : wr.cell? ⟨b1, o1 + i * 4 + 1, none⟩ = some (.int .i64 u.level) := by rw [hu]; exact hc1 i hxi 1 _ rfl
              have ev1 : wr.cell? ⟨b2, o2 + i * 4 + 1, none⟩ = some (.int .i64 v.level) := by rw [hv]; exact hc2 i hyi 1 _ rfl
              have eu2 : wr.cell? ⟨b1, o1 + i * 4 + 2, none⟩ = some (.int .i64 u.limit) := by rw [hu]; exact hc1 i hxi 2 _ rfl
              have ev2 : wr.cell? ⟨b2, o2 + i * 4 + 2, none⟩ = some (.int .i64 v.limit) := by rw [hv]; exact hc2 i hyi 2 _ rfl
              have eu3 : wr.cell? ⟨b1, o1 + i * 4 + 3, none⟩ = some (.int .i64 u.m) := by rw [hu]; exact hc1 i hxi 3 _ rfl
              have ev3 : wr.cell? ⟨b2, o2 + i * 4 + 3, none⟩ = some (.int .i64 v.m) := by rw [hv]; exact hc2 i hyi 3 _ rfl
              rw [← hu, ← hv] at Hyes Hno
              clear hu hv hc1 hc2
              cases g0 : (u.q == v.q)
              · have Hr := Lib.hid (Hno.out (by simp [alarmEq, g0]))
                go_wp2
                go_quiet (fail)
                go_wp2
                go_ret
                exact ⟨ret_bool (by unfold sameP; rw [HD0.out, HD1.out, Hr.out]; rfl), HB0.out.trans ((below_drewN Hb2.out _).mono (by omega))⟩
              · skip
                cases g1 : (u.level == v.level)
                · have Hr := Lib.hid (Hno.out (by simp [alarmEq, g0, g1]))
                  go_wp2
                  go_quiet (fail)
                  go_wp2
                  go_ret
                  exact ⟨ret_bool (by unfold sameP; rw [HD0.out, HD1.out, Hr.out]; rfl), HB0.out.trans ((below_drewN Hb2.out _).mono (by omega))⟩
                · skip
                  cases g2 : (u.limit == v.limit)
                  · have Hr := Lib.hid (Hno.out (by simp [alarmEq, g0, g1, g2]))
                    go_wp2
                    go_quiet (fail)
                    go_wp2
                    go_ret
                    exact ⟨ret_bool (by unfold sameP; rw [HD0.out, HD1.out, Hr.out]; rfl), HB0.out.trans ((below_drewN Hb2.out _).mono (by omega))⟩
                  · skip
                    cases g3 : (u.m == v.m)
                    · have Hr := Lib.hid (Hno.out (by simp [alarmEq, g0, g1, g2, g3]))
                      go_wp2
                      go_quiet (fail)
                      go_wp2
                      go_ret
                      exact ⟨ret_bool (by unfold sameP; rw [HD0.out, HD1.out, Hr.out]; rfl), HB0.out.trans ((below_drewN Hb2.out _).mono (by omega))⟩
                    · skip
                      have Hr := Lib.hid (Hyes.out (by simp [alarmEq, g0, g1, g2, g3]))
                      go_wp2
                      go_quiet (fail)
                      go_wp2
                      go_roundw
                      case rel => exact ⟨i + 1, by omega, by go_num, Hr, Lib.hid (below_drewN Hb2.out _)⟩
                      case measure => simp [intOf]; omega
            · obtain rfl : i = n2 := by omega
              have HD2 := Lib.hid (listEq_done (eq := alarmEq) HL2.out (by rw [← HX2.out]; exact Hp.out))
              go_wp2
              go_ret
              exact ⟨ret_bool (by unfold sameP; rw [HD0.out, HD1.out, HD2.out]; rfl), HB0.out.trans (Hb2.out.mono (by omega))⟩
end Go.Proofs.YtcgnpndfhhcplaaGreatDoor
namespace W7
theorem strEq_of {a b : ByteArray} (h : a = b) : strEq a b = true := by subst h; exact strEq_refl a
theorem quantEq_abs {x y : Quantity} (h : absQ x = absQ y) : quantEq x y = true := by
  have h1 : x.name = y.name := by have e := congrArg Quantity.name h; exact e
  have h2 : x.lo = y.lo := by have e := congrArg Quantity.lo h; exact e
  have h3 : x.hi = y.hi := by have e := congrArg Quantity.hi h; exact e
  have h4 : x.rise = y.rise := by have e := congrArg Quantity.rise h; exact e
  have h5 : x.fall = y.fall := by have e := congrArg Quantity.fall h; exact e
  have h6 : x.bad = y.bad := by have e := congrArg Quantity.bad h; exact e
  have h7 : x.gs = y.gs := by have e := congrArg Quantity.gs h; exact e
  unfold quantEq
  rw [h1, h2, h3, h4, h5, h6, h7, strEq_refl, listEq_refl gaugeEq_refl]
  simp
theorem listEq_abs {xs ys : List Quantity} (h : xs.map absQ = ys.map absQ) : listEq quantEq xs ys = true := by
  have hl : xs.length = ys.length := by have := congrArg List.length h; simpa using this
  unfold listEq
  rw [decide_eq_true hl, Bool.true_and, List.all_eq_true]
  intro i hi
  have hi' : i < xs.length := by simpa using hi
  rw [getD_lt hi', getD_lt (by omega)]
  refine quantEq_abs ?_
  have h1 : (xs.map absQ)[i]? = (ys.map absQ)[i]? := by rw [h]
  rw [List.getElem?_map, List.getElem?_map, List.getElem?_eq_getElem hi', List.getElem?_eq_getElem (by omega)] at h1
  exact Option.some.inj h1
/-- plans that are alike but for their addresses are equal -/
theorem sameP_abs {p o : Plan} (h : absP p = absP o) : sameP p o = true := by
  have h1 : p.qs.map absQ = o.qs.map absQ := congrArg Plan.qs h
  have h2 : p.ms = o.ms := by have e := congrArg Plan.ms h; exact e
  have h3 : p.al = o.al := by have e := congrArg Plan.al h; exact e
  unfold sameP
  rw [listEq_abs h1, h2, h3, listEq_refl measEq_refl, listEq_refl alarmEq_refl]
  rfl
end W7
