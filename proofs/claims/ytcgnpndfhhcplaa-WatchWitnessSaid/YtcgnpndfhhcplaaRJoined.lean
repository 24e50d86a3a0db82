/-
  The specification's joined: spans with one more. Conditions: bounds.
-/
import Derived.Test.YtcgnpndfhhcplaaRKnown
namespace Go.Proofs.Ytcgnpndfhhcplaa
open Go.RowKit W7
attribute [local go_sem] Oper.semAt_some
theorem jnAt_len (l : List Span) (x : Span) (k : Nat) (h : k ≤ l.length) : (jnAt l x k).1.length ≤ 2 * k := by
  induction k with
  | zero => simp [jnAt]
  | succ k ih => rw [jnAt_succ l x k (by omega)]; have := jnStep_len (jnAt l x k) l[k]; have := ih (by omega); omega
def SBnd (s : Span) : Prop := -2000000000000 ≤ s.lo ∧ s.lo ≤ 2000000000000 ∧ -2000000000000 ≤ s.hi ∧ s.hi ≤ 2000000000000
theorem jnAt_bnd (l : List Span) (x : Span) (hl : ∀ s ∈ l, SBnd s) (hx : SBnd x) (k : Nat) (h : k ≤ l.length) : SBnd (jnAt l x k).2.1 ∧ ∀ s ∈ (jnAt l x k).1, SBnd s := by
  induction k with
  | zero => exact ⟨hx, by simp [jnAt]⟩
  | succ k ih =>
    rw [jnAt_succ l x k (by omega)]
    obtain ⟨h1, h2⟩ := ih (by omega)
    have hu := hl l[k] (List.getElem_mem _)
    unfold jnStep
    split
    · exact ⟨h1, fun s hs => by
        rcases List.mem_append.1 hs with hs | hs
        · exact h2 s hs
        · simp at hs; subst hs; exact hu⟩
    · split
      · refine ⟨h1, fun s hs => ?_⟩
        rcases List.mem_append.1 hs with hs | hs
        · split at hs
          · exact h2 s hs
          · rcases List.mem_append.1 hs with hs | hs
            · exact h2 s hs
            · simp at hs; subst hs; exact h1
        · simp at hs; subst hs; exact hu
      · refine ⟨?_, h2⟩
        unfold SBnd at *
        simp only; omega
theorem jnEnd_bnd {st : List Span × Span × Bool} (h1 : SBnd st.2.1) (h2 : ∀ s ∈ st.1, SBnd s) : ∀ s ∈ jnEnd st, SBnd s := by
  unfold jnEnd
  split
  · exact h2
  · intro s hs
    rcases List.mem_append.1 hs with hs | hs
    · exact h2 s hs
    · simp at hs; subst hs; exact h1
def JoinR (l : List Span) (x : Span) (w : World) (e : Ending) (w' : World) : Prop :=
  ∃ v, e = .returned v ∧ w'.ownsRow w.heap.size 23 2 v (jnL l x).length (encSps (jnL l x)) ∧ Below w.heap.size w w'
set_option maxHeartbeats 1000000 in
set_option maxRecDepth 100000 in
theorem refJoined_any (l : List Span) (x : Span) (A : Option Addr) (c B : Nat) (w : World) (hA : Sl w B 2 encSp A l) (hB : B ≤ w.heap.size) (hl : ∀ s ∈ l, SBnd s) (hx : SBnd x) (hll : l.length ≤ 1000) :
    Calls Try.prog 69 #[.slice A l.length c, .agg #[.int .i64 x.lo, .int .i64 x.hi]] w (JoinR l x w) := by
  have HA := Lib.hid hA
  have HL := Lib.hid hl
  have Hx := Lib.hid hx
  have hmx := max_run Try.prog
  have hmn := min_run Try.prog
  have HBk := Lib.hid (BlkAt.new (W := w) (X := w) (cs := #[.int .i64 x.lo, .int .i64 x.hi]) (e := 23) (Nat.le_refl _))
  have HB0 := Lib.hid (show Below w.heap.size w (w.alloc (.cells #[.int .i64 x.lo, .int .i64 x.hi] 23)) from (Below.refl _ _).alloc (Nat.le_refl _) _)
  clear hA hl hx
  go_enter Try.func69, Try.ntmps69
  go_wp2
  go_loopw [5, 6, 7] (fun v5 v6 v7 wr => ∃ i : Nat, i ≤ l.length ∧ v7 = .int .i64 i ∧ v6 = .bool (jnAt l x i).2.2 ∧ Hid (wr.ownsRow (w.heap.size + 1) 23 2 v5 (jnAt l x i).1.length (encSps (jnAt l x i).1)) ∧ Hid (wr.cell? ⟨w.heap.size, 0, none⟩ = some (.int .i64 (jnAt l x i).2.1.lo)) ∧ Hid (wr.cell? ⟨w.heap.size, 1, none⟩ = some (.int .i64 (jnAt l x i).2.1.hi)) ∧ Hid (wr.frozen? ⟨w.heap.size, 0, none⟩ = false ∧ wr.frozen? ⟨w.heap.size, 1, none⟩ = false) ∧ Hid (Below w.heap.size w wr) ∧ w.heap.size < wr.heap.size) (fun _ _ v7 _ => l.length - (intOf v7).toNat)
  case atStart => exact ⟨0, by omega, rfl, rfl, Lib.hid (World.ownsRow_nil _ _ _ _), Lib.hid (HBk.out.cell 0 _ rfl), Lib.hid (HBk.out.cell 1 _ rfl), Lib.hid ⟨HBk.out.free 0, HBk.out.free 1⟩, HB0, by simp⟩
  case round =>
    obtain ⟨i, hi, rfl, rfl, Ho, Hx0, Hx1, Hxf, Hb, hwr⟩ := hrel
    have Hbn := Lib.hid (jnAt_bnd l x HL.out Hx.out i hi)
    have hlen := jnAt_len l x i hi
    by_cases hlt : i < l.length
    · have HS := Lib.hid (jnAt_succ l x i hlt)
      obtain ⟨ba, oa, rfl, hbaB, hac⟩ := HA.out (by omega)
      have hbaw : ba < w.heap.size := by omega
      have hbar : ba < wr.heap.size := by omega
      obtain ⟨u, hu⟩ : ∃ u, u = l[i] := ⟨_, rfl⟩
      have a0 : wr.cell? ⟨ba, oa + i * 2, none⟩ = some (.int .i64 u.lo) := by rw [hu]; exact (Hb.out.cell (p := ⟨ba, oa + i * 2 + 0, none⟩) hbaw).trans (hac i hlt 0 _ rfl)
      have a1 : wr.cell? ⟨ba, oa + i * 2 + 1, none⟩ = some (.int .i64 u.hi) := by rw [hu]; exact (Hb.out.cell (p := ⟨ba, oa + i * 2 + 1, none⟩) hbaw).trans (hac i hlt 1 _ rfl)
      have hub : SBnd u := by rw [hu]; exact HL.out _ (List.getElem_mem _)
      rw [← hu] at HS
      clear hu hac
      revert Ho Hx0 Hx1 Hbn hlen HS
      generalize jnAt l x i = st
      obtain ⟨out, X, put⟩ := st
      intro Ho Hx0 Hx1 Hbn hlen HS
      simp only at Ho Hx0 Hx1 Hbn hlen
      have hX := Hbn.out.1
      unfold SBnd at hX hub
      have x0 := Hx0.out
      have x1 := Hx1.out
      have x2 := Hxf.out.1
      have x3 := Hxf.out.2
      have w1 : wrap64 (u.hi + 1) = u.hi + 1 := IntWalk.wrap64_in _ (by omega)
      have w2 : wrap64 (X.hi + 1) = X.hi + 1 := IntWalk.wrap64_in _ (by omega)
      cases c1 : decide (u.hi + 1 < X.lo)
      rotate_left
      · have HE := Lib.hid (show jnAt l x (i + 1) = (out ++ [u], X, put) by rw [HS.out]; show (if u.hi + 1 < X.lo then (out ++ [u], X, put) else if X.hi + 1 < u.lo then ((if put then out else out ++ [X]) ++ [u], X, true) else (out, ⟨min X.lo u.lo, max X.hi u.hi⟩, put)) = _; rw [if_pos (by simpa using c1)])
        go_wp2
        go_quiet (fail)
        go_wp2_with (at_builtin; refine wpList_append1 rfl _ _ 30 rfl (w.heap.size + 1) 23 _ 2 16 elemSpan _ _ _ rfl Ho.out #[.int .i64 u.lo, .int .i64 u.hi] 1 _ rfl (by simp) rfl (by simp [Value.oneCell']) (by omega) (by first | omega | (simp; omega) | (simp [World.drewN]; omega)) ?_; intro v6 w6 hown6 hb6 hsz6 hg6 hblk6; have Ho6 := Lib.hid hown6; have Hb6 := Lib.hid hb6; clear hown6 hb6 hsz6 hg6 hblk6)
        go_roundw
        case rel =>
          refine ⟨i + 1, by omega, by go_num, by rw [HE.out], Lib.hid (by rw [HE.out, encSps_snoc, List.length_append]; exact Ho6.out), Lib.hid (by rw [HE.out]; exact (Hb6.out.cell (p := ⟨w.heap.size, 0, none⟩) (by simp)).trans Hx0.out), Lib.hid (by rw [HE.out]; exact (Hb6.out.cell (p := ⟨w.heap.size, 1, none⟩) (by simp)).trans Hx1.out), Lib.hid ⟨(Hb6.out.frozen (p := ⟨w.heap.size, 0, none⟩) (by simp)).trans Hxf.out.1, (Hb6.out.frozen (p := ⟨w.heap.size, 1, none⟩) (by simp)).trans Hxf.out.2⟩, Lib.hid ((below_drewN Hb.out _).trans (Hb6.out.mono (Nat.le_succ _))), Nat.lt_of_lt_of_le hwr (show wr.heap.size ≤ w6.heap.size from Hb6.out.size)⟩
        case measure => simp [intOf]; omega
      cases c2 : decide (X.hi + 1 < u.lo)
      rotate_left
      · cases put
        · have HE := Lib.hid (show jnAt l x (i + 1) = (out ++ [X] ++ [u], X, true) by rw [HS.out]; show (if u.hi + 1 < X.lo then (out ++ [u], X, false) else if X.hi + 1 < u.lo then ((if false then out else out ++ [X]) ++ [u], X, true) else (out, ⟨min X.lo u.lo, max X.hi u.hi⟩, false)) = _; rw [if_neg (by simpa using c1), if_pos (by simpa using c2)]; rfl)
          go_wp2
          go_quiet (fail)
          go_wp2
          go_quiet (fail)
          go_wp2_with (first | (at_builtin; refine wpList_append1 rfl _ _ 30 rfl (w.heap.size + 1) 23 _ 2 16 elemSpan _ _ _ rfl Ho.out #[.int .i64 X.lo, .int .i64 X.hi] 1 _ rfl (by simp) rfl (by simp [Value.oneCell']) (by omega) (by first | omega | (simp; omega) | (simp [World.drewN]; omega)) ?_; intro v6 w6 hown6 hb6 hsz6 hg6 hblk6; have Ho6 := Lib.hid hown6; have Hb6 := Lib.hid hb6; have hs6 : wr.heap.size ≤ w6.heap.size := (Nat.le_of_lt hsz6); have hs6' : w.heap.size + 1 ≤ w6.heap.size := (by omega); have a0' := (hb6.cell (p := ⟨ba, oa + i * 2, none⟩) (by simp; omega)).trans a0; have a1' := (hb6.cell (p := ⟨ba, oa + i * 2 + 1, none⟩) (by simp; omega)).trans a1; have x0' := (hb6.cell (p := ⟨w.heap.size, 0, none⟩) (by simp)).trans x0; have x1' := (hb6.cell (p := ⟨w.heap.size, 1, none⟩) (by simp)).trans x1; have x2' := (hb6.frozen (p := ⟨w.heap.size, 0, none⟩) (by simp)).trans x2; have x3' := (hb6.frozen (p := ⟨w.heap.size, 1, none⟩) (by simp)).trans x3; clear hown6 hb6 hsz6 hg6 hblk6) | (at_builtin; refine wpList_append1 rfl _ _ 30 rfl (w.heap.size + 1) 23 _ 2 16 elemSpan _ _ _ rfl Ho6.out #[.int .i64 u.lo, .int .i64 u.hi] 1 _ rfl (by simp) rfl (by simp [Value.oneCell']) (by omega) (by first | omega | (simp; omega) | (simp [World.drewN]; omega)) ?_; intro v7 w7 hown7 hb7 hsz7 hg7 hblk7; have Ho7 := Lib.hid hown7; have Hb7 := Lib.hid hb7; clear hown7 hb7 hsz7 hg7 hblk7))
          go_roundw
          case rel =>
            refine ⟨i + 1, by omega, by go_num, by rw [HE.out], Lib.hid (by rw [HE.out, encSps_snoc, encSps_snoc, List.length_append, List.length_append]; exact Ho7.out), Lib.hid (by rw [HE.out]; exact (Hb7.out.cell (p := ⟨w.heap.size, 0, none⟩) (by simp)).trans x0'), Lib.hid (by rw [HE.out]; exact (Hb7.out.cell (p := ⟨w.heap.size, 1, none⟩) (by simp)).trans x1'), Lib.hid ⟨(Hb7.out.frozen (p := ⟨w.heap.size, 0, none⟩) (by simp)).trans x2', (Hb7.out.frozen (p := ⟨w.heap.size, 1, none⟩) (by simp)).trans x3'⟩, Lib.hid (((below_drewN Hb.out _).trans (Hb6.out.mono (Nat.le_succ _))).trans (Hb7.out.mono (Nat.le_succ _))), Nat.lt_of_lt_of_le (show w.heap.size < w6.heap.size by omega) Hb7.out.size⟩
          case measure => simp [intOf]; omega
        · have HE := Lib.hid (show jnAt l x (i + 1) = (out ++ [u], X, true) by rw [HS.out]; show (if u.hi + 1 < X.lo then (out ++ [u], X, true) else if X.hi + 1 < u.lo then ((if true then out else out ++ [X]) ++ [u], X, true) else (out, ⟨min X.lo u.lo, max X.hi u.hi⟩, true)) = _; rw [if_neg (by simpa using c1), if_pos (by simpa using c2)]; rfl)
          go_wp2
          go_quiet (fail)
          go_wp2
          go_quiet (fail)
          go_wp2_with (at_builtin; refine wpList_append1 rfl _ _ 30 rfl (w.heap.size + 1) 23 _ 2 16 elemSpan _ _ _ rfl Ho.out #[.int .i64 u.lo, .int .i64 u.hi] 1 _ rfl (by simp) rfl (by simp [Value.oneCell']) (by omega) (by first | omega | (simp; omega) | (simp [World.drewN]; omega)) ?_; intro v6 w6 hown6 hb6 hsz6 hg6 hblk6; have Ho6 := Lib.hid hown6; have Hb6 := Lib.hid hb6; clear hown6 hb6 hsz6 hg6 hblk6)
          go_roundw
          case rel =>
            refine ⟨i + 1, by omega, by go_num, by rw [HE.out], Lib.hid (by rw [HE.out, encSps_snoc, List.length_append]; exact Ho6.out), Lib.hid (by rw [HE.out]; exact (Hb6.out.cell (p := ⟨w.heap.size, 0, none⟩) (by simp)).trans Hx0.out), Lib.hid (by rw [HE.out]; exact (Hb6.out.cell (p := ⟨w.heap.size, 1, none⟩) (by simp)).trans Hx1.out), Lib.hid ⟨(Hb6.out.frozen (p := ⟨w.heap.size, 0, none⟩) (by simp)).trans Hxf.out.1, (Hb6.out.frozen (p := ⟨w.heap.size, 1, none⟩) (by simp)).trans Hxf.out.2⟩, Lib.hid ((below_drewN Hb.out _).trans (Hb6.out.mono (Nat.le_succ _))), Nat.lt_of_lt_of_le hwr (show wr.heap.size ≤ w6.heap.size from Hb6.out.size)⟩
          case measure => simp [intOf]; omega
      · have HE := Lib.hid (show jnAt l x (i + 1) = (out, ⟨min X.lo u.lo, max X.hi u.hi⟩, put) by rw [HS.out]; show (if u.hi + 1 < X.lo then (out ++ [u], X, put) else if X.hi + 1 < u.lo then ((if put then out else out ++ [X]) ++ [u], X, true) else (out, ⟨min X.lo u.lo, max X.hi u.hi⟩, put)) = _; rw [if_neg (by simpa using c1), if_neg (by simpa using c2)])
        go_wp2
        go_quiet (fail)
        generalize nq = n1
        go_wp2
        go_quiet (fail)
        go_wp2
        obtain ⟨W3, hW3⟩ : ∃ W3, W3 = (wr.drewN n1).drewN nq := ⟨_, rfl⟩
        rw [← hW3]
        have HbW3 := Lib.hid (show Below w.heap.size w W3 by rw [hW3]; exact below_drewN (below_drewN Hb.out _) _)
        have hs3 : wr.heap.size ≤ W3.heap.size := by rw [hW3]; exact Nat.le_refl _
        have HoW := Lib.hid (show W3.ownsRow (w.heap.size + 1) 23 2 u5 out.length (encSps out) by rw [hW3]; exact Ho.out)
        have m0 := later_cell (w := W3) (show W3.cell? ⟨w.heap.size, 0, none⟩ = some (.int .i64 X.lo) by rw [hW3]; exact x0) (by omega)
        have m1 := later_cell (w := W3) (show W3.cell? ⟨w.heap.size, 1, none⟩ = some (.int .i64 X.hi) by rw [hW3]; exact x1) (by omega)
        have m2 := later_cell (w := W3) (show W3.cell? ⟨ba, oa + i * 2, none⟩ = some (.int .i64 u.lo) by rw [hW3]; exact a0) (by omega)
        have m3 := later_cell (w := W3) (show W3.cell? ⟨ba, oa + i * 2 + 1, none⟩ = some (.int .i64 u.hi) by rw [hW3]; exact a1) (by omega)
        have m4 := later_free (w := W3) (show W3.frozen? ⟨w.heap.size, 0, none⟩ = false by rw [hW3]; exact x2) (by omega)
        have m5 := later_free (w := W3) (show W3.frozen? ⟨w.heap.size, 1, none⟩ = false by rw [hW3]; exact x3) (by omega)
        clear hW3 a0 a1 x0 x1 x2 x3
        refine wp_region_later_tail 17 (by kernel_rfl) (by kernel_rfl) ?_
        simp only [List.take_succ_cons, List.take_zero, List.drop_succ_cons, List.drop_zero]
        repeat (any_goals (first | go_big_quiet_step ((fail)) | quiet_step ((fail))))
        refine wpQuiet_nil ?_
        rintro w' ⟨e, rfl⟩
        have hse : W3.heap.size ≤ e.w.heap.size := e.b.size
        have hwe : w.heap.size < e.w.heap.size := by omega
        have y0 := m0 e
        have y1 := m1 e
        have y4 := m4 e
        have y5 := m5 e
        have HoE := Lib.hid (ownsRow_setCell_below (ownsRow_setCell_below (own_below HoW.out e.b) (a := ⟨w.heap.size, 0, none⟩) (by simp) (.int .i64 (min X.lo u.lo))) (a := ⟨w.heap.size, 1, none⟩) (by simp) (.int .i64 (max X.hi u.hi)))
        have X0 := Lib.hid (show ((e.w.setCell ⟨w.heap.size, 0, none⟩ (.int .i64 (min X.lo u.lo))).setCell ⟨w.heap.size, 1, none⟩ (.int .i64 (max X.hi u.hi))).cell? ⟨w.heap.size, 0, none⟩ = some (.int .i64 (min X.lo u.lo)) by
          rw [World.cell?_setCell_other _ _ _ _ (by simp)]; exact World.cell?_setCell_same' _ _ _ (by rw [y0]; rfl))
        have X1 := Lib.hid (show ((e.w.setCell ⟨w.heap.size, 0, none⟩ (.int .i64 (min X.lo u.lo))).setCell ⟨w.heap.size, 1, none⟩ (.int .i64 (max X.hi u.hi))).cell? ⟨w.heap.size, 1, none⟩ = some (.int .i64 (max X.hi u.hi)) from
          World.cell?_setCell_same' _ _ _ (by rw [World.cell?_setCell_other _ _ _ _ (by simp), y1]; rfl))
        have X2 := Lib.hid (show ((e.w.setCell ⟨w.heap.size, 0, none⟩ (.int .i64 (min X.lo u.lo))).setCell ⟨w.heap.size, 1, none⟩ (.int .i64 (max X.hi u.hi))).frozen? ⟨w.heap.size, 0, none⟩ = false ∧ ((e.w.setCell ⟨w.heap.size, 0, none⟩ (.int .i64 (min X.lo u.lo))).setCell ⟨w.heap.size, 1, none⟩ (.int .i64 (max X.hi u.hi))).frozen? ⟨w.heap.size, 1, none⟩ = false from
          ⟨by rw [World.frozen?_setCell, World.frozen?_setCell]; exact y4, by rw [World.frozen?_setCell, World.frozen?_setCell]; exact y5⟩)
        have HbN := Lib.hid (((HbW3.out.trans (e.b.mono (by omega))).setCell (p := ⟨w.heap.size, 0, none⟩) (Nat.le_refl _) (.int .i64 (min X.lo u.lo))).setCell (p := ⟨w.heap.size, 1, none⟩) (Nat.le_refl _) (.int .i64 (max X.hi u.hi)))
        go_wp2
        go_roundw
        case rel => exact ⟨i + 1, by omega, by go_num, by rw [HE.out], Lib.hid (by rw [HE.out]; exact HoE.out), Lib.hid (by rw [HE.out]; exact X0.out), Lib.hid (by rw [HE.out]; exact X1.out), X2, HbN, by simpa [World.setCell] using hwe⟩
        case measure => simp [intOf]; omega
    · obtain rfl : i = l.length := by omega
      have HJ := Lib.hid (show jnL l x = jnEnd (jnAt l x l.length) from rfl)
      revert Ho Hx0 Hx1 Hbn hlen HJ
      generalize jnAt l x l.length = st
      obtain ⟨out, X, put⟩ := st
      intro Ho Hx0 Hx1 Hbn hlen HJ
      simp only at Ho Hx0 Hx1 Hbn hlen
      have x0 := Hx0.out
      have x1 := Hx1.out
      cases put
      · have HE := Lib.hid (show jnL l x = out ++ [X] by rw [HJ.out]; rfl)
        go_wp2_with (at_builtin; refine wpList_append1 rfl _ _ 30 rfl (w.heap.size + 1) 23 _ 2 16 elemSpan _ _ _ rfl Ho.out #[.int .i64 X.lo, .int .i64 X.hi] 1 _ rfl (by simp) rfl (by simp [Value.oneCell']) (by omega) (by first | omega | (simp; omega) | (simp [World.drewN]; omega)) ?_; intro v6 w6 hown6 hb6 hsz6 hg6 hblk6; have Ho6 := Lib.hid hown6; have Hb6 := Lib.hid hb6; clear hown6 hb6 hsz6 hg6 hblk6)
        go_ret
        exact ⟨_, rfl, by rw [HE.out, encSps_snoc, List.length_append]; exact own_mono Ho6.out (by omega), Hb.out.trans (Hb6.out.mono (Nat.le_succ _))⟩
      · have HE := Lib.hid (show jnL l x = out by rw [HJ.out]; rfl)
        go_wp2
        go_ret
        exact ⟨_, rfl, by rw [HE.out]; exact own_mono Ho.out (by omega), Hb.out⟩
end Go.Proofs.Ytcgnpndfhhcplaa
