/-
  Package watch's Suspects. Conditions: bounds; of valid readings at most 12.
-/
import Derived.Test.YtcgnpndfhhcplaaGreatDoorPoss
import Derived.Test.YtcgnpndfhhcplaaGreatDoorRange
namespace Go.Proofs.YtcgnpndfhhcplaaGreatDoor
open Go.RowKit W7
attribute [local go_sem] Oper.semAt_some
/-- does a set explain the readings? -/
def fitsB (q : Quantity) (l : List Reading) (F : List Int) : Bool := decide (Agree q.rise q.fall (allK q l F []))
def waysN (q : Quantity) (l : List Reading) (Fs : List (List Int)) : Nat := (Fs.filter (fitsB q l)).length
def cntN (q : Quantity) (l : List Reading) (Fs : List (List Int)) (g : Nat) : Nat := ((Fs.filter (fitsB q l)).map (fun F => F.count (g : Int))).sum
theorem waysN_snoc (q : Quantity) (l : List Reading) (Fs : List (List Int)) (F : List Int) : waysN q l (Fs ++ [F]) = waysN q l Fs + if fitsB q l F then 1 else 0 := by
  unfold waysN; rw [List.filter_append, List.length_append]
  cases h : fitsB q l F <;> simp [h]
theorem cntN_snoc (q : Quantity) (l : List Reading) (Fs : List (List Int)) (F : List Int) (g : Nat) : cntN q l (Fs ++ [F]) g = cntN q l Fs g + if fitsB q l F then F.count (g : Int) else 0 := by
  unfold cntN; rw [List.filter_append, List.map_append, List.sum_append]
  cases h : fitsB q l F <;> simp [h]
theorem waysN_len (q : Quantity) (l : List Reading) (Fs : List (List Int)) : waysN q l Fs ≤ Fs.length := List.length_filter_le _ _
/-- the numbers up to n that a test lets by -/
def selN (n : Nat) (p : Nat → Bool) : List Int := ((List.range n).filter p).map Int.ofNat
theorem selN_succ (n : Nat) (p : Nat → Bool) : selN (n + 1) p = selN n p ++ if p n then [(n : Int)] else [] := by
  unfold selN; rw [List.range_succ, List.filter_append, List.map_append]
  cases h : p n <;> simp [h]
theorem selN_len (n : Nat) (p : Nat → Bool) : (selN n p).length ≤ n := by
  unfold selN; rw [List.length_map]; exact Nat.le_trans (List.length_filter_le _ _) (by simp)
/-- the suspects, from sets of so many gauges on -/
def susGo (q : Quantity) (l : List Reading) : Nat → Nat → List Int × List Int
  | 0, _ => ([], [])
  | k + 1, many => if waysN q l (subsN many q.gs.length 0 []) = 0 then susGo q l k (many + 1) else
      (selN q.gs.length (fun g => cntN q l (subsN many q.gs.length 0 []) g == waysN q l (subsN many q.gs.length 0 [])), selN q.gs.length (fun g => decide (0 < cntN q l (subsN many q.gs.length 0 []) g)))
def susL (q : Quantity) (l : List Reading) : List Int × List Int := if checkedE q l = 0 then susGo q l (q.bad.toNat + 1) 0 else ([], [])
def cntRow (f : Nat → Nat) (n : Nat) : List Value := (List.range n).map fun g => .int .i64 (f g : Int)
theorem cntRow_len (f : Nat → Nat) (n : Nat) : (cntRow f n).length = n := by simp [cntRow]
theorem cntRow_get (f : Nat → Nat) (n : Nat) {i : Nat} (h : i < n) : (cntRow f n)[i]? = some (.int .i64 (f i : Int)) := by simp [cntRow, h]
theorem cntRow_set (f f' : Nat → Nat) (n : Nat) {i : Nat} (h1 : ∀ j, j ≠ i → f' j = f j) : (cntRow f n).set i (.int .i64 (f' i : Int)) = cntRow f' n := by
  apply List.ext_getElem?
  intro j
  rw [List.getElem?_set]
  by_cases hj : j < n
  · rw [cntRow_get f' n hj]
    by_cases h : i = j
    · subst h; simp [cntRow_len, hj]
    · rw [if_neg h, cntRow_get f n hj, h1 j (Ne.symm h)]
  · have e1 : (cntRow f' n)[j]? = none := by rw [List.getElem?_eq_none]; simp [cntRow_len]; omega
    have e2 : (cntRow f n)[j]? = none := by rw [List.getElem?_eq_none]; simp [cntRow_len]; omega
    rw [e1, e2, cntRow_len]; split
    · split
      · omega
      · rfl
    · rfl
theorem cell_set_ne {w : World} {p : Addr} {v : Value} {b o : Nat} (h : b ≠ p.block) : (w.setCell p v).cell? ⟨b, o, none⟩ = w.cell? ⟨b, o, none⟩ := by
  simp only [World.cell?]; rw [Below.heap_setCell _ _ _ _ h]
theorem count_take_succ (F : List Int) (j : Nat) (hj : j < F.length) (x : Int) : (F.take (j + 1)).count x = (F.take j).count x + if F[j] = x then 1 else 0 := by
  rw [List.take_succ_eq_append_getElem hj, List.count_append, List.count_singleton]
  simp
/-- between two rounds -/
def SusI (q : Quantity) (l : List Reading) (gb cb : Nat) (W3 : World) (ys : List (List Int × Value)) (X : World) : Prop :=
  (X.cell? ⟨cb, 0, none⟩ = some (.slice (some ⟨gb, 0, none⟩) q.gs.length q.gs.length) ∧ X.cell? ⟨cb + 1, 0, none⟩ = some (.int .i64 (waysN q l (ys.map Prod.fst) : Int)) ∧ X.frozen? ⟨cb + 1, 0, none⟩ = false ∧
    X.ownsRow gb 3 1 (.slice (some ⟨gb, 0, none⟩) q.gs.length q.gs.length) q.gs.length (cntRow (cntN q l (ys.map Prod.fst)) q.gs.length)) ∧ Below gb W3 X ∧ ∀ F ∈ ys.map Prod.fst, F.length ≤ 8
theorem susI_own {q : Quantity} {l : List Reading} {gb cb : Nat} {W3 : World} (h1 : gb < W3.heap.size) (h2 : cb + 1 < W3.heap.size) : OwnFrom W3.heap.size (SusI q l gb cb W3) := by
  rintro ys X X' row ⟨⟨c1, c2, c3, c4⟩, hb, h8⟩ hg hr
  have hsz := hb.size
  have key : ∀ i, i < W3.heap.size → X'.heap[i]? = X.heap[i]? := fun i hi => hg.block i (by omega) (fun e => by have := (hr i e.symm).1; omega)
  have cell : ∀ b o v, b < W3.heap.size → X.cell? ⟨b, o, none⟩ = some v → X'.cell? ⟨b, o, none⟩ = some v := fun b o v hb h => by simp only [World.cell?] at h ⊢; rw [key b hb]; exact h
  have froz : ∀ b o v, b < W3.heap.size → X.frozen? ⟨b, o, none⟩ = v → X'.frozen? ⟨b, o, none⟩ = v := fun b o v hb h => by simp only [World.frozen?] at h ⊢; rw [key b hb]; exact h
  refine ⟨⟨cell _ _ _ (by omega) c1, cell _ _ _ h2 c2, froz _ _ _ h2 c3, c4.kept hg (.inr fun e => ?_)⟩, ⟨hg.os.trans hb.os, hg.tape.trans hb.tape, hg.output.trans hb.output, Nat.le_trans hsz hg.size, fun i hi => (key i (by omega)).trans (hb.block i hi)⟩, h8⟩
  have := (hr gb e.symm).1; omega
theorem KeepI.setCell {B0 : Nat} {W X : World} {p : Addr} (h : KeepI B0 W X) (hp : p.block < B0) (v : Value) : KeepI B0 W (X.setCell p v) :=
  ⟨by simpa [World.setCell] using h.size, fun b cs e fz hb h1 he => by rw [Below.heap_setCell _ _ _ _ (by omega)]; exact h.same b cs e fz hb h1 he⟩
theorem cntN_le (q : Quantity) (l : List Reading) (g : Nat) : ∀ (Fs : List (List Int)), (∀ F ∈ Fs, F.length ≤ 8) → cntN q l Fs g ≤ 8 * Fs.length := by
  intro Fs
  induction Fs with
  | nil => intro _; simp [cntN]
  | cons F Fs ih =>
    intro h
    have h1 := ih fun G hG => h G (by simp [hG])
    have h2 := h F (by simp)
    have h3 : F.count (g : Int) ≤ F.length := List.count_le_length
    unfold cntN at h1 ⊢
    rw [List.filter_cons]
    split
    · simp only [List.map_cons, List.sum_cons, List.length_cons]; omega
    · simp only [List.length_cons]; omega
def SusR (q : Quantity) (l : List Reading) (w : World) (e : Ending) (w' : World) : Prop :=
  ∃ (v1 v2 : Value), e = .returned (.tuple #[v1, v2, .int .i64 (checkedE q l)]) ∧ w'.ownsRow w.heap.size 3 1 v1 (susL q l).1.length ((susL q l).1.map (.int .i64)) ∧ w'.ownsRow w.heap.size 3 1 v2 (susL q l).2.length ((susL q l).2.map (.int .i64)) ∧ Below w.heap.size w w'
set_option maxHeartbeats 400000 in
set_option maxRecDepth 100000 in
theorem Suspects_any (q : Quantity) (l : List Reading) (A : Option Addr) (c B : Nat) (w : World) (hq : QIn w B q) (hA : Sl w B 3 encR A l) (hB : B ≤ w.heap.size) (hlc : l.length ≤ c) (hc : c ≤ 9223372036854775807) (h12 : l.length ≤ 64 → l.length ≤ 12) :
    Calls Tryz.prog 20 #[.agg #[.string q.name, .int .i64 q.lo, .int .i64 q.hi, .int .i64 q.rise, .int .i64 q.fall, .int .i64 q.bad, .slice q.gA q.gs.length q.gc], .slice A l.length c] w (SusR q l w) := by
  refine (callsIn_wide (n := 9)).1 ?_
  refine callsIn_of_wp_marks Tryz.func20 rfl trivial ?_ rfl
  simp only [Tryz.ntmps20, List.size_toArray, List.length_cons, List.length_nil, Nat.reduceAdd, Nat.reduceSub, Array.replicate_succ, Array.replicate_zero, List.push_toArray, List.append_toArray, List.nil_append, List.cons_append]
  obtain ⟨cs, hcs⟩ : ∃ cs : Array Value, cs = #[.string q.name, .int .i64 q.lo, .int .i64 q.hi, .int .i64 q.rise, .int .i64 q.fall, .int .i64 q.bad, .slice q.gA q.gs.length q.gc] := ⟨_, rfl⟩
  obtain ⟨W0, hW0⟩ : ∃ W0, W0 = (w.alloc (.cells cs 47)).alloc (.cells #[.slice A l.length c] 56) := ⟨_, rfl⟩
  have hs0 : W0.heap.size = w.heap.size + 2 := by rw [hW0]; simp
  have HB0 := Lib.hid (show Below w.heap.size w W0 by rw [hW0]; exact ((Below.refl w.heap.size w).alloc (Nat.le_refl _) _).alloc (by simp) _)
  have He0 : Hid (∀ j v, cs[j]? = some v → W0.cell? ⟨w.heap.size, j, none⟩ = some v) := fun j v hv => by
    rw [hW0, World.cell?_alloc_lt _ _ _ (by simp)]; exact alloc_cell hv
  have He1 := Lib.hid <| show W0.cell? ⟨w.heap.size + 1, 0, none⟩ = some (.slice A l.length c) by
    rw [hW0]; simp
  have Hq := Lib.hid hq
  have HA := Lib.hid hA
  have HC := Lib.hid (checked_any q l A c B W0 (hq.below (HB0.out.mono hB)) (hA.below (HB0.out.mono hB)) (by omega) hlc hc)
  rw [hcs] at He0
  have hW0' := hW0
  rw [hcs] at hW0'
  have HW0 := Lib.hid hW0'
  clear hcs hW0 hW0' hA hq cs
  have Hgood := Lib.hid (fun (h : checkedE q l = 0) => good_of h)
  obtain ⟨ii, hinf, hinf1, hinf2, hinf3⟩ := info_parts (show (Tryz.prog.info? 3).map (fun i => (i.zero, i.size, i.bytes)) = some (some (.int .i64 0), 1, 8) by kernel_rfl)
  refine wpIn_wide.2 ?_
  cases hce : (checkedE q l != 0)
  rotate_left
  · have HE := Lib.hid (show susL q l = ([], []) from by simp at hce; simp [susL, hce])
    go_wp2_with (go_at_call 57; go_loud (rw [← HW0.out]); refine HC.out.mono ?_; rintro e w1 ⟨rfl, hb1⟩)
    refine ⟨.tuple #[.slice none 0 0, .slice none 0 0, .int .i64 (checkedE q l)], by simp [results, Tryz.results20, go_sem], ?_⟩
    refine ⟨_, _, rfl, ?_, ?_, HB0.out.trans (hb1.mono (by omega))⟩
    · rw [HE.out]; exact World.ownsRow_nil _ _ _ _
    · rw [HE.out]; exact World.ownsRow_nil _ _ _ _
  · have hce0 : checkedE q l = 0 := by simpa using hce
    rw [hce0] at HC
    have Hce := Lib.hid hce0
    obtain ⟨hgood, h64, _, hb0, hbg⟩ := Hgood.out hce0
    have hl12 := h12 h64
    have HG := Lib.hid hgood
    have hgl := hgood.gl
    clear hce hce0 hgood h12 hlc hc Hgood
    go_wp2_with (go_at_call 57; go_loud (rw [← HW0.out]); refine HC.out.mono ?_; rintro e w1 ⟨rfl, hb1⟩)
    refine wp_loop_rounds (q.bad.toNat + 1 + 1) ?_
    refine (?_ : ∀ (k m : Nat), m + k = q.bad.toNat + 1 → ∀ (Ds : List Nat) (u9 u10 u11 u12 u13 u14 u15 u22 u23 u24 u25 u26 u27 u28 u29 u30 u31 u32 u33 u34 u35 u36 u37 u38 u39 u40 u41 u42 u43 u44 u45 u46 u47 u48 u49 u50 u51 u52 u53 u54 u55 u56 u57 u58 u59 u60 u61 u62 u63 u64 u65 u66 u67 u68 u69 u70 u71 u72 u73 u74 u75 u76 u77 u78 u79 u80 u81 u82 u83 : Value) (W : World), Hid (Below W0.heap.size W0 W) → Hid (DsOk W0.heap.size Ds W) → Hid (susL q l = susGo q l k m) → Code.rounds Tryz.prog _ _ (k + 1) { tmps := #[.agg #[.string q.name, .int .i64 q.lo, .int .i64 q.hi, .int .i64 q.rise, .int .i64 q.fall, .int .i64 q.bad, .slice q.gA q.gs.length q.gc], .slice A l.length c, .pointer (some ⟨w.heap.size, 0, none⟩), .pointer (some ⟨w.heap.size + 1, 0, none⟩), .slice none 0 0, .slice none 0 0, .int .i64 0, .int .i64 0, .int .i64 m, u9, u10, u11, u12, u13, u14, u15, .agg #[.string q.name, .int .i64 q.lo, .int .i64 q.hi, .int .i64 q.rise, .int .i64 q.fall, .int .i64 q.bad, .slice q.gA q.gs.length q.gc], .slice A l.length c, .int .i64 0, .int .i64 0, .bool false, undef, u22, u23, u24, u25, u26, u27, u28, u29, u30, u31, u32, u33, u34, u35, u36, u37, u38, u39, u40, u41, u42, u43, u44, u45, u46, u47, u48, u49, u50, u51, u52, u53, u54, u55, u56, u57, u58, u59, u60, u61, u62, u63, u64, u65, u66, u67, u68, u69, u70, u71, u72, u73, u74, u75, u76, u77, u78, u79, u80, u81, u82, u83], defers := Ds.map mkD } W) (q.bad.toNat + 1) 0 (by omega) [] _ _ _ _ _ _ _ _ _ _ _ _ _ _ _ _ _ _ _ _ _ _ _ _ _ _ _ _ _ _ _ _ _ _ _ _ _ _ _ _ _ _ _ _ _ _ _ _ _ _ _ _ _ _ _ _ _ _ _ _ _ _ _ _ _ _ _ _ _ _ ?_ ?_ ?_
    rotate_left
    · exact Lib.hid hb1
    · exact Lib.hid ⟨List.nodup_nil, by simp⟩
    · exact Lib.hid (by simp [susL, Hce.out])
    have Hs0 := Lib.hid hs0
    clear hb1 HC w1 hs0
    intro k
    induction k with
    | zero =>
      intro m hm Ds u9 u10 u11 u12 u13 u14 u15 u22 u23 u24 u25 u26 u27 u28 u29 u30 u31 u32 u33 u34 u35 u36 u37 u38 u39 u40 u41 u42 u43 u44 u45 u46 u47 u48 u49 u50 u51 u52 u53 u54 u55 u56 u57 u58 u59 u60 u61 u62 u63 u64 u65 u66 u67 u68 u69 u70 u71 u72 u73 u74 u75 u76 u77 u78 u79 u80 u81 u82 u83 W HbW HDs HS
      have hWs : w.heap.size + 2 ≤ W.heap.size := by have := HbW.out.size; have := Hs0.out; omega
      have c5 := (HbW.out.cell (p := ⟨w.heap.size, 5, none⟩) (by have := Hs0.out; simp; omega)).trans (He0.out 5 _ rfl)
      have c6 := (HbW.out.cell (p := ⟨w.heap.size, 6, none⟩) (by have := Hs0.out; simp; omega)).trans (He0.out 6 _ rfl)
      have hlt : q.bad < (m : Int) := by omega
      rw [rounds_succ]
      go_wp2
      refine leavesM_all (v := .tuple #[.slice none 0 0, .slice none 0 0, .int .i64 0]) (fun W' => by simp [results, Tryz.results20, go_sem]) Ds W W0.heap.size HDs.out fun W' hSh => ?_
      have hSH : susL q l = ([], []) := HS.out
      have hbw' := HB0.out.trans (HbW.out.mono (by have := Hs0.out; omega))
      refine ⟨_, _, by rw [Hce.out], ?_, ?_, below_shut hSh HDs.out hbw' (by have := Hs0.out; omega)⟩
      · rw [hSH]; exact World.ownsRow_nil _ _ _ _
      · rw [hSH]; exact World.ownsRow_nil _ _ _ _
    | succ k ih =>
      intro m hm Ds u9 u10 u11 u12 u13 u14 u15 u22 u23 u24 u25 u26 u27 u28 u29 u30 u31 u32 u33 u34 u35 u36 u37 u38 u39 u40 u41 u42 u43 u44 u45 u46 u47 u48 u49 u50 u51 u52 u53 u54 u55 u56 u57 u58 u59 u60 u61 u62 u63 u64 u65 u66 u67 u68 u69 u70 u71 u72 u73 u74 u75 u76 u77 u78 u79 u80 u81 u82 u83 W HbW HDs HS
      have hWs : w.heap.size + 2 ≤ W.heap.size := by have := HbW.out.size; have := Hs0.out; omega
      have c5 := (HbW.out.cell (p := ⟨w.heap.size, 5, none⟩) (by have := Hs0.out; simp; omega)).trans (He0.out 5 _ rfl)
      have c6 := (HbW.out.cell (p := ⟨w.heap.size, 6, none⟩) (by have := Hs0.out; simp; omega)).trans (He0.out 6 _ rfl)
      have hlt : (m : Int) ≤ q.bad := by omega
      have hgl2 : q.gs.length ≤ 8 := hgl
      rw [rounds_succ]
      go_wp2_with (first | (at_make; refine wpList_make_full _ rfl _ _ 57 rfl W.heap.size 3 _ (.int .i64 0) 1 Tryz.underlying57 hinf hinf1 hinf2 .i64 .i64 _ _ q.gs.length rfl rfl rfl rfl (by rw [hinf3]; omega) (by unfold maxLen; omega) (Nat.le_refl _) ?_; intro w1 hown1 hg1; have hs1 := (hown1.lt W.heap.size rfl).2; have hwx : w.heap.size < w1.heap.size := (by omega); have Hbw1 := Lib.hid ((Below.refl W.heap.size W).grown hg1 (Nat.le_refl _) (fun k hk => by cases hk)); have c6' := (Hbw1.out.cell (p := ⟨w.heap.size, 6, none⟩) (by simp; omega)).trans c6; have Hown1 := Lib.hid hown1; clear hown1 hg1) | (go_at_call 59; refine (subsets_any q.gs.length m _).mono ?_; rintro e w2 ⟨rfl, rfl⟩))
      refine (wpIn_wide (n := 9)).1 ?_
      obtain ⟨W3, hW3⟩ : ∃ W3, W3 = (((w1.alloc (.cells #[.slice (some ⟨W.heap.size, 0, none⟩) q.gs.length q.gs.length] 57)).alloc (.cells #[.int .i64 0] 3)).alloc (.cells #[.int .i64 q.gs.length] 3)).alloc (.cells #[.int .i64 m] 3) := ⟨_, rfl⟩
      rw [← hW3]
      have hs3 : W3.heap.size = w1.heap.size + 1 + 1 + 1 + 1 := by rw [hW3]; simp
      have hmb : W3.heap[w1.heap.size + 1 + 1 + 1]? = some (.cells #[.int .i64 m] 3 (0, 0)) := by
        rw [hW3]
        have := World.alloc_heap_new (((w1.alloc (.cells #[.slice (some ⟨W.heap.size, 0, none⟩) q.gs.length q.gs.length] 57)).alloc (.cells #[.int .i64 0] 3)).alloc (.cells #[.int .i64 q.gs.length] 3)) (.cells #[.int .i64 m] 3)
        simpa using this
      have hnb : W3.heap[w1.heap.size + 1 + 1]? = some (.cells #[.int .i64 q.gs.length] 3 (0, 0)) := by
        rw [hW3]
        have := World.alloc_heap_new ((w1.alloc (.cells #[.slice (some ⟨W.heap.size, 0, none⟩) q.gs.length q.gs.length] 57)).alloc (.cells #[.int .i64 0] 3)) (.cells #[.int .i64 q.gs.length] 3)
        exact (Below.heap_alloc _ _ _ (by simp)).trans (by simpa using this)
      have hbW3 : Below W.heap.size W W3 := by rw [hW3]; exact (((Hbw1.out.alloc (by omega) _).alloc (by simp; omega) _).alloc (by simp; omega) _).alloc (by simp; omega) _
      have i1 : W3.cell? ⟨w1.heap.size, 0, none⟩ = some (.slice (some ⟨W.heap.size, 0, none⟩) q.gs.length q.gs.length) := by
        rw [hW3, World.cell?_alloc_lt _ _ _ (by simp; omega), World.cell?_alloc_lt _ _ _ (by simp; omega), World.cell?_alloc_lt _ _ _ (by simp)]; exact alloc_cell rfl
      have i2 : W3.cell? ⟨w1.heap.size + 1, 0, none⟩ = some (.int .i64 0) := by
        rw [hW3, World.cell?_alloc_lt _ _ _ (by simp), World.cell?_alloc_lt _ _ _ (by simp)]; simp
      have i3 : W3.frozen? ⟨w1.heap.size + 1, 0, none⟩ = false := by
        have hb : Below (w1.heap.size + 1 + 1) ((w1.alloc (.cells #[.slice (some ⟨W.heap.size, 0, none⟩) q.gs.length q.gs.length] 57)).alloc (.cells #[.int .i64 0] 3)) W3 := by rw [hW3]; exact ((Below.refl _ _).alloc (by simp) _).alloc (by simp) _
        refine (hb.frozen (p := ⟨w1.heap.size + 1, 0, none⟩) (by simp)).trans ?_
        simp
      have i4 : W3.ownsRow W.heap.size 3 1 (.slice (some ⟨W.heap.size, 0, none⟩) q.gs.length q.gs.length) q.gs.length (cntRow (cntN q l []) q.gs.length) := by
        have e : cntRow (cntN q l []) q.gs.length = (madeCells (#[Value.int .i64 0] : Array Value) (q.gs.length * 1)).toList := by
          rw [toList_madeCells_one, Nat.mul_one]
          have : cntN q l [] = fun _ => 0 := by funext g; simp [cntN]
          rw [this]
          apply List.ext_getElem?
          intro j
          by_cases hj : j < q.gs.length
          · rw [cntRow_get _ _ hj]; simp [hj]
          · rw [List.getElem?_eq_none (by simp [cntRow_len]; omega), List.getElem?_eq_none (by simp; omega)]
        rw [hW3, e]
        exact (((Hown1.out.alloc _).alloc _).alloc _).alloc _
      have HbW3 := Lib.hid hbW3
      have HI0 := Lib.hid (show SusI q l W.heap.size w1.heap.size W3 [] W3 from ⟨⟨i1, by rw [i2]; rfl, i3, i4⟩, Below.refl _ _, by simp⟩)
      have hs3' : w1.heap.size + 4 ≤ W3.heap.size := by omega
      have Hw3 := Lib.hid (show Below w.heap.size w W3 from HB0.out.trans ((HbW.out.mono (by have := Hs0.out; omega)).trans (hbW3.mono (by omega))))
      have HbW03 := Lib.hid (show Below W0.heap.size W0 W3 from HbW.out.trans (hbW3.mono (by have := Hs0.out; omega)))
      have HQ3 := Lib.hid (fun j v hv => (HbW03.out.cell (p := ⟨w.heap.size, j, none⟩) (by have := Hs0.out; simp; omega)).trans (He0.out j v hv))
      have HL3 := Lib.hid ((HbW03.out.cell (p := ⟨w.heap.size + 1, 0, none⟩) (by have := Hs0.out; simp; omega)).trans He1.out)
      have HmN := Lib.hid hm
      have hmg : (m : Int) ≤ (q.gs.length : Int) := by omega
      refine wpIn_rangeFunc_R (gf := 90) rfl (enters_of Tryz.func90 (by kernel_rfl) rfl) (subsets_seq q.gs.length m (w1.heap.size + 1 + 1) (w1.heap.size + 1 + 1 + 1) (w1.heap.size + 1 + 1) W3 (by omega) (by omega) ⟨by omega, hmb⟩ ⟨by omega, hnb⟩) KeepI.trans (fun W l o o' _ h ho => KeepI.put W l o o' h ho) (fun x W l o o' _ h ho hr => RY.put W l o o' h ho hr) (Below.refl _ _) (fun _ => rfl)
        (SusI q l W.heap.size w1.heap.size W3) (fun _ _ _ => False) (susI_own (by omega) (by omega)) (fun _ _ _ _ _ h _ _ => h.elim) HI0.out
        (fun x => { tmps := #[.agg #[.string q.name, .int .i64 q.lo, .int .i64 q.hi, .int .i64 q.rise, .int .i64 q.fall, .int .i64 q.bad, .slice q.gA q.gs.length q.gc], .slice A l.length c, .pointer (some ⟨w.heap.size, 0, none⟩), .pointer (some ⟨w.heap.size + 1, 0, none⟩), .slice none 0 0, .slice none 0 0, .int .i64 0, .int .i64 0, .int .i64 m, .pointer (some ⟨w1.heap.size, 0, none⟩), .pointer (some ⟨w1.heap.size + 1, 0, none⟩), x.2, u12, u13, u14, u15, .agg #[.string q.name, .int .i64 q.lo, .int .i64 q.hi, .int .i64 q.rise, .int .i64 q.fall, .int .i64 q.bad, .slice q.gA q.gs.length q.gc], .slice A l.length c, .int .i64 0, .int .i64 0, .bool false, undef, .int .i64 m, .pointer (some ⟨w.heap.size, 5, none⟩), .int .i64 q.bad, .bool true, u26, u27, .pointer (some ⟨w.heap.size, 6, none⟩), .slice q.gA q.gs.length q.gc, .int .i64 q.gs.length, .slice (some ⟨W.heap.size, 0, none⟩) q.gs.length q.gs.length, .pointer (some ⟨w.heap.size, 6, none⟩), .slice q.gA q.gs.length q.gc, .int .i64 q.gs.length, .int .i64 m, .func (.func 90) #[] #[.pointer (some ⟨w1.heap.size + 1 + 1 + 1, 0, none⟩), .pointer (some ⟨w1.heap.size + 1 + 1, 0, none⟩)], x.2, u38, u39, u40, u41, u42, u43, u44, u45, u46, u47, u48, u49, u50, u51, u52, u53, u54, u55, u56, u57, u58, u59, u60, u61, u62, u63, u64, u65, u66, u67, u68, u69, u70, u71, u72, u73, u74, u75, u76, u77, u78, u79, u80, u81, u82, u83], defers := [] }) ?assign ?body ?done ?stop
      case assign =>
        intro lp n' x X K hK
        gi_wp2
        exact hK
      case stop => intro D c' pre X _ _ h; exact h.elim
      case done =>
        clear hmb hnb i1 i2 i3 i4 hbW3 hW3 hs3 HI0
        rintro D ys X hD hS ⟨⟨d1, d2, d3, d4⟩, hb, h8⟩ hK
        rw [hS] at d2 d4 h8
        have HbX := Lib.hid (show Below W.heap.size W X from HbW3.out.trans hb)
        have HbX0 := Lib.hid (show Below W0.heap.size W0 X from HbW03.out.trans (hb.mono (by have := HbW.out.size; omega)))
        have HDs2 := Lib.hid (DsOk.cons HDs.out HbX.out (Nat.le_refl _) (by omega) (HbW.out.size) hK)
        have hway : waysN q l (subsN m q.gs.length 0 []) ≤ 256 := by
          have h1 := waysN_len q l (subsN m q.gs.length 0 [])
          have h2 := subsN_len m q.gs.length 0 []
          have h3 : 2 ^ q.gs.length ≤ 2 ^ 8 := Nat.pow_le_pow_right (by omega) hgl
          omega
        have Hsg := Lib.hid (show susL q l = if waysN q l (subsN m q.gs.length 0 []) = 0 then susGo q l k (m + 1) else
          (selN q.gs.length (fun g => cntN q l (subsN m q.gs.length 0 []) g == waysN q l (subsN m q.gs.length 0 [])), selN q.gs.length (fun g => decide (0 < cntN q l (subsN m q.gs.length 0 []) g))) from HS.out)
        have Hd4 := Lib.hid d4
        have hbs := hb.size
        clear hb h8 hK hS d3 d4
        revert d2 Hd4 hway Hsg
        generalize waysN q l (subsN m q.gs.length 0 []) = wn
        generalize cntN q l (subsN m q.gs.length 0 []) = cf
        intro d2 hway Hsg Hd4
        cases hw : ((wn : Int) == 0)
        rotate_left
        · have Hs2 := Lib.hid (show susL q l = susGo q l k (m + 1) by rw [Hsg.out, if_pos]; simpa using hw)
          go_wp2
          have IH := ih (m + 1) (by omega) (D :: Ds)
          rw [show ((m + 1 : Nat) : Int) = (m : Int) + 1 from by omega] at IH
          exact IH _ _ _ _ _ _ _ _ _ _ _ _ _ _ _ _ _ _ _ _ _ _ _ _ _ _ _ _ _ _ _ _ _ _ _ _ _ _ _ _ _ _ _ _ _ _ _ _ _ _ _ _ _ _ _ _ _ _ _ _ _ _ _ _ _ _ _ _ _ X HbX0 HDs2 Hs2
        · have Hs2 := Lib.hid (show susL q l = (selN q.gs.length (fun g => cf g == wn), selN q.gs.length (fun g => decide (0 < cf g))) by rw [Hsg.out, if_neg]; simpa using hw)
          clear Hsg
          go_wp2
          go_loopw [4, 5, 63] (fun v4 v5 i wr => ∃ k' : Nat, k' ≤ q.gs.length ∧ i = .int .i64 k' ∧ Hid (wr.ownsRow X.heap.size 3 1 v4 (selN k' (fun g => cf g == wn)).length ((selN k' (fun g => cf g == wn)).map (.int .i64))) ∧ Hid (wr.ownsRow X.heap.size 3 1 v5 (selN k' (fun g => decide (0 < cf g))).length ((selN k' (fun g => decide (0 < cf g))).map (.int .i64))) ∧ Hid (Sep v4 v5) ∧ Hid (Below X.heap.size X wr)) (fun _ _ i _ => q.gs.length - (intOf i).toNat)
          case atStart => exact ⟨0, by omega, rfl, Lib.hid (World.ownsRow_nil _ _ _ _), Lib.hid (World.ownsRow_nil _ _ _ _), Lib.hid (fun k h => by simp [Value.ownBlock] at h), Lib.hid (Below.refl _ _)⟩
          case round =>
            obtain ⟨k', hk', rfl, Ho4, Ho5, HSep, Hbr⟩ := hrel
            have hrs := Hbr.out.size
            by_cases hlt' : k' < q.gs.length
            · have f1 := (Hbr.out.cell (p := ⟨w1.heap.size, 0, none⟩) (by simp; omega)).trans d1
              have f2 := (Hbr.out.cell (p := ⟨w1.heap.size + 1, 0, none⟩) (by simp; omega)).trans d2
              have f3 : wr.cell? ⟨W.heap.size, k', none⟩ = some (.int .i64 (cf k' : Int)) := ((own_below Hd4.out Hbr.out).cellAt k' (by simp; omega)).trans (cntRow_get _ _ hlt')
              have Hp1 := Lib.hid (selN_succ k' (fun g => cf g == wn))
              have Hp2 := Lib.hid (selN_succ k' (fun g => decide (0 < cf g)))
              obtain ⟨ck, hck⟩ : ∃ ck : Int, ck = (cf k' : Int) := ⟨_, rfl⟩
              rw [← hck] at f3
              have Hck := Lib.hid hck
              clear hck
              cases hb1 : (ck == (wn : Int)) <;> cases hb2 : decide ((0 : Int) < ck)
              · have Hq1 := Lib.hid (show selN (k' + 1) (fun g => cf g == wn) = selN k' (fun g => cf g == wn) by rw [Hp1.out, if_neg (by have := Hck.out; simp at hb1 ⊢; omega)]; simp)
                have Hq2 := Lib.hid (show selN (k' + 1) (fun g => decide (0 < cf g)) = selN k' (fun g => decide (0 < cf g)) by rw [Hp2.out, if_neg (by have := Hck.out; simp at hb2 ⊢; omega)]; simp)
                go_wp2
                go_roundw
                case rel => exact ⟨k' + 1, by omega, by go_num, Lib.hid (by rw [Hq1.out]; exact Ho4.out), Lib.hid (by rw [Hq2.out]; exact Ho5.out), HSep, Hbr⟩
                case measure => simp [intOf]; omega
              · have Hq1 := Lib.hid (show selN (k' + 1) (fun g => cf g == wn) = selN k' (fun g => cf g == wn) by rw [Hp1.out, if_neg (by have := Hck.out; simp at hb1 ⊢; omega)]; simp)
                have Hq2 := Lib.hid (show selN (k' + 1) (fun g => decide (0 < cf g)) = selN k' (fun g => decide (0 < cf g)) ++ [(k' : Int)] by rw [Hp2.out, if_pos (by have := Hck.out; simp at hb2 ⊢; omega)])
                go_wp2_with (at_builtin; refine wpList_append1 rfl _ _ 57 rfl X.heap.size 3 _ 1 8 elemInt _ _ _ rfl Ho5.out #[.int .i64 (k' : Int)] 1 _ rfl (by simp) rfl (by simp [Value.oneCell']) (by have := selN_len k' (fun g => cf g == wn); have := selN_len k' (fun g => decide (0 < cf g)); omega) (by omega) ?_; intro v7 w7 hown7 hb7 hsz7 hg7 hblk7; have Ho7 := Lib.hid hown7; have Hb7 := Lib.hid (Hbr.out.trans (hb7.mono (Nat.le_refl _))); have Hoo6 := Lib.hid (own_other Ho4.out hg7 HSep.out.symm); have Hsep7 := Lib.hid (HSep.out.symm.grow Ho4.out hblk7).symm; clear hown7 hb7 hsz7 hg7 hblk7)
                go_roundw
                case rel => exact ⟨k' + 1, by omega, by go_num, Lib.hid (by rw [Hq1.out]; exact Hoo6.out), Lib.hid (by rw [Hq2.out, List.length_append, List.map_append]; exact Ho7.out), Hsep7, Hb7⟩
                case measure => simp [intOf]; omega
              · have Hq1 := Lib.hid (show selN (k' + 1) (fun g => cf g == wn) = selN k' (fun g => cf g == wn) ++ [(k' : Int)] by rw [Hp1.out, if_pos (by have := Hck.out; simp at hb1 ⊢; omega)])
                have Hq2 := Lib.hid (show selN (k' + 1) (fun g => decide (0 < cf g)) = selN k' (fun g => decide (0 < cf g)) by rw [Hp2.out, if_neg (by have := Hck.out; simp at hb2 ⊢; omega)]; simp)
                go_wp2_with (at_builtin; refine wpList_append1 rfl _ _ 57 rfl X.heap.size 3 _ 1 8 elemInt _ _ _ rfl Ho4.out #[.int .i64 (k' : Int)] 1 _ rfl (by simp) rfl (by simp [Value.oneCell']) (by have := selN_len k' (fun g => cf g == wn); have := selN_len k' (fun g => decide (0 < cf g)); omega) (by omega) ?_; intro v6 w6 hown6 hb6 hsz6 hg6 hblk6; have Ho6 := Lib.hid hown6; have Hb6 := Lib.hid (Hbr.out.trans (hb6.mono (Nat.le_refl _))); have hsz6' : X.heap.size ≤ w6.heap.size := (by omega); have Hoo := Lib.hid (own_other Ho5.out hg6 HSep.out); have Hsep6 := Lib.hid (HSep.out.grow Ho5.out hblk6); have g1 := (hb6.cell (p := ⟨w1.heap.size + 1, 0, none⟩) (by simp; omega)).trans f2; clear hown6 hb6 hsz6 hg6 hblk6)
                go_roundw
                case rel => exact ⟨k' + 1, by omega, by go_num, Lib.hid (by rw [Hq1.out, List.length_append, List.map_append]; exact Ho6.out), Lib.hid (by rw [Hq2.out]; exact Hoo.out), Hsep6, Hb6⟩
                case measure => simp [intOf]; omega
              · have Hq1 := Lib.hid (show selN (k' + 1) (fun g => cf g == wn) = selN k' (fun g => cf g == wn) ++ [(k' : Int)] by rw [Hp1.out, if_pos (by have := Hck.out; simp at hb1 ⊢; omega)])
                have Hq2 := Lib.hid (show selN (k' + 1) (fun g => decide (0 < cf g)) = selN k' (fun g => decide (0 < cf g)) ++ [(k' : Int)] by rw [Hp2.out, if_pos (by have := Hck.out; simp at hb2 ⊢; omega)])
                go_wp2_with (first | (at_builtin; refine wpList_append1 rfl _ _ 57 rfl X.heap.size 3 _ 1 8 elemInt _ _ _ rfl Ho4.out #[.int .i64 (k' : Int)] 1 _ rfl (by simp) rfl (by simp [Value.oneCell']) (by have := selN_len k' (fun g => cf g == wn); have := selN_len k' (fun g => decide (0 < cf g)); omega) (by omega) ?_; intro v6 w6 hown6 hb6 hsz6 hg6 hblk6; have Ho6 := Lib.hid hown6; have Hb6 := Lib.hid (Hbr.out.trans (hb6.mono (Nat.le_refl _))); have hsz6' : X.heap.size ≤ w6.heap.size := (by omega); have Hoo := Lib.hid (own_other Ho5.out hg6 HSep.out); have Hsep6 := Lib.hid (HSep.out.grow Ho5.out hblk6); have g1 := (hb6.cell (p := ⟨w1.heap.size + 1, 0, none⟩) (by simp; omega)).trans f2; clear hown6 hb6 hsz6 hg6 hblk6) | (at_builtin; refine wpList_append1 rfl _ _ 57 rfl X.heap.size 3 _ 1 8 elemInt _ _ _ rfl Hoo.out #[.int .i64 (k' : Int)] 1 _ rfl (by simp) rfl (by simp [Value.oneCell']) (by have := selN_len k' (fun g => cf g == wn); have := selN_len k' (fun g => decide (0 < cf g)); omega) (by omega) ?_; intro v7 w7 hown7 hb7 hsz7 hg7 hblk7; have Ho7 := Lib.hid hown7; have Hb7 := Lib.hid (Hb6.out.trans (hb7.mono (Nat.le_refl _))); have Hoo6 := Lib.hid (own_other Ho6.out hg7 Hsep6.out.symm); have Hsep7 := Lib.hid (Hsep6.out.symm.grow Ho6.out hblk7).symm; clear hown7 hb7 hsz7 hg7 hblk7))
                go_roundw
                case rel => exact ⟨k' + 1, by omega, by go_num, Lib.hid (by rw [Hq1.out, List.length_append, List.map_append]; exact Hoo6.out), Lib.hid (by rw [Hq2.out, List.length_append, List.map_append]; exact Ho7.out), Hsep7, Hb7⟩
                case measure => simp [intOf]; omega
            · obtain rfl : k' = q.gs.length := by omega
              go_wp2
              have hDs3 : DsOk W0.heap.size (D :: Ds) wr := HDs2.out.below Hbr.out
              have hbw' := HB0.out.trans ((HbX0.out.mono (by have := Hs0.out; omega)).trans (Hbr.out.mono (show w.heap.size ≤ X.heap.size by have := Hs0.out; omega)))
              refine leavesM_all (v := .tuple #[u4, u5, .int .i64 0]) (fun W' => by simp [results, Tryz.results20, go_sem]) (D :: Ds) wr W0.heap.size hDs3 fun W' hSh => ?_
              refine ⟨_, _, by rw [Hce.out], ?_, ?_, below_shut hSh hDs3 hbw' (by have := Hs0.out; omega)⟩
              · rw [Hs2.out]; exact own_shut hSh hDs3 (own_mono Ho4.out (by have := Hs0.out; omega))
              · rw [Hs2.out]; exact own_shut hSh hDs3 (own_mono Ho5.out (by have := Hs0.out; omega))
      case body =>
        clear hmb hnb i1 i2 i3 i4 hbW3 hW3 hs3 HI0
        rintro lp n' pre x X ⟨⟨d1, d2, d3, d4⟩, hb, h8⟩ hlen ⟨hx1, hx2, A', c', hx3, hx4, hx5⟩
        obtain ⟨F, xv⟩ := x
        simp only at hx1 hx2 hx3 hx4 hx5
        subst hx3
        have hbs := hb.size
        have Hb := Lib.hid hb
        have HwX := Lib.hid (show Below w.heap.size w X from Hw3.out.trans (hb.mono (by omega)))
        have cell : ∀ j v, (#[Value.string q.name, .int .i64 q.lo, .int .i64 q.hi, .int .i64 q.rise, .int .i64 q.fall, .int .i64 q.bad, .slice q.gA q.gs.length q.gc] : Array Value)[j]? = some v → ∀ e : Later X, e.w.cell? ⟨w.heap.size, j, none⟩ = some v := fun j v hv =>
          later_cell ((hb.cell (p := ⟨w.heap.size, j, none⟩) (by simp; omega)).trans (HQ3.out j v hv)) (by omega)
        have q0 := cell 0 _ rfl
        have q1 := cell 1 _ rfl
        have q2 := cell 2 _ rfl
        have q3 := cell 3 _ rfl
        have q4 := cell 4 _ rfl
        have q5 := cell 5 _ rfl
        have q6 := cell 6 _ rfl
        have q7 := later_cell ((hb.cell (p := ⟨w.heap.size + 1, 0, none⟩) (by simp; omega)).trans HL3.out) (by omega)
        clear cell
        have Hd1 := Lib.hid d1
        have Hd2 := Lib.hid d2
        have Hd3 := Lib.hid d3
        have Hd4 := Lib.hid d4
        have H8 := Lib.hid h8
        have Hx1 := Lib.hid hx1
        have Hx2 := Lib.hid hx2
        have Hx4 := Lib.hid hx4
        clear hx1 hx2 hx4 d1 d2 d3 d4 h8 hb
        have HN := Lib.hid (fun (Y : World) (hY : Below X.heap.size X Y) => show Calls Tryz.prog 61 #[.agg #[.string q.name, .int .i64 q.lo, .int .i64 q.hi, .int .i64 q.rise, .int .i64 q.fall, .int .i64 q.bad, .slice q.gA q.gs.length q.gc], .slice A l.length c, .slice A' F.length c', .slice none 0 0] Y (Nodes q l F [] Y) by
          have hwY := HwX.out.trans (hY.mono (by omega))
          exact nodes_any q l F [] A A' none c c' 0 X.heap.size _ ((Hq.out.below (hwY.mono hB)).mono (by omega)) ((HA.out.below_le hwY hB).mono (by omega)) (Sl.below Hx4.out.sl hY) (.inl ⟨rfl, rfl, rfl⟩) hY.size HG.out (by simp) (by simp; omega) (by have := Hx1.out; omega))
        gi_wp2
        obtain ⟨R11, hR11⟩ : ∃ R : (Nat → Bool) → Act → World → Prop, R = fun L a' w' => ∃ (e : Later X) (v38 v39 v40 v41 v42 : Value), w' = e.w ∧ a' = { tmps := #[.agg #[.string q.name, .int .i64 q.lo, .int .i64 q.hi, .int .i64 q.rise, .int .i64 q.fall, .int .i64 q.bad, .slice q.gA q.gs.length q.gc], .slice A l.length c, .pointer (some ⟨w.heap.size, 0, none⟩), .pointer (some ⟨w.heap.size + 1, 0, none⟩), .slice none 0 0, .slice none 0 0, .int .i64 0, .int .i64 0, .int .i64 m, .pointer (some ⟨w1.heap.size, 0, none⟩), .pointer (some ⟨w1.heap.size + 1, 0, none⟩), .slice A' F.length c', u12, u13, u14, u15, .agg #[.string q.name, .int .i64 q.lo, .int .i64 q.hi, .int .i64 q.rise, .int .i64 q.fall, .int .i64 q.bad, .slice q.gA q.gs.length q.gc], .slice A l.length c, .int .i64 0, .int .i64 0, .bool false, undef, .int .i64 m, .pointer (some ⟨w.heap.size, 5, none⟩), .int .i64 q.bad, .bool true, u26, u27, .pointer (some ⟨w.heap.size, 6, none⟩), .slice q.gA q.gs.length q.gc, .int .i64 q.gs.length, .slice (some ⟨W.heap.size, 0, none⟩) q.gs.length q.gs.length, .pointer (some ⟨w.heap.size, 6, none⟩), .slice q.gA q.gs.length q.gc, .int .i64 q.gs.length, .int .i64 m, .func (.func 90) #[] #[.pointer (some ⟨w1.heap.size + 1 + 1 + 1, 0, none⟩), .pointer (some ⟨w1.heap.size + 1 + 1, 0, none⟩)], .slice A' F.length c', v38, v39, v40, v41, v42, u43, u44, u45, u46, u47, u48, u49, u50, u51, u52, u53, u54, u55, u56, u57, u58, u59, u60, u61, u62, u63, u64, u65, u66, u67, u68, u69, u70, u71, u72, u73, u74, u75, u76, u77, u78, u79, u80, u81, u82, u83], defers := [] } ∧
            (L 0 = true → v38 = .agg #[.string q.name, .int .i64 q.lo, .int .i64 q.hi, .int .i64 q.rise, .int .i64 q.fall, .int .i64 q.bad, .slice q.gA q.gs.length q.gc]) ∧ (L 1 = true → v39 = .agg #[.string q.name, .int .i64 q.lo, .int .i64 q.hi, .int .i64 q.rise, .int .i64 q.fall, .int .i64 q.bad, .slice q.gA q.gs.length q.gc]) ∧ (L 2 = true → v40 = .slice A l.length c) ∧ (L 3 = true → v41 = .slice A' F.length c') ∧
            (L 4 = true → Hid (∃ (g cap : Nat) (srt : List K), srt.Perm (allK q l F []) ∧ SortedK srt ∧ v42 = .slice (some ⟨g, 0, none⟩) (merged srt).length cap ∧
              e.w.ownsRow X.heap.size 132 3 (.slice (some ⟨g, 0, none⟩) (merged srt).length cap) (merged srt).length (encKs (merged srt)))) := ⟨_, rfl⟩
        have HR := Lib.hid hR11
        clear hR11
        refine round_region_inv 5 R11 (by kernel_rfl) (by kernel_rfl) (fun ⟨_, _, h⟩ => h) (by kernel_rfl) (by kernel_rfl) (by kernel_rfl) (by decide) (by kernel_rfl) ?_ ?_ ?_
        · rw [HR.out]
          exact ⟨⟨_, (Below.refl X.heap.size X).drew⟩, _, _, _, _, _, rfl, rfl, by simp, by simp, by simp, by simp, by simp⟩
        · rintro L a' w' i o hi ho hLi haf hInv
          rw [HR.out] at hInv
          obtain ⟨e, v38, v39, v40, v41, v42, rfl, rfl, h0, h1, h2, h3, h4⟩ := hInv
          rcases i with _ | _ | _ | _ | _ | i
          case succ.succ.succ.succ.succ => omega
          all_goals (simp only [List.getElem?_cons_zero, List.getElem?_cons_succ, Option.some.injEq] at ho; subst ho)
          · go_wp2
            rw [HR.out]
            exact ⟨e, _, _, _, _, _, rfl, rfl, fun _ => rfl, fun z => h1 (by simpa using z), fun z => h2 (by simpa using z), fun z => h3 (by simpa using z), fun z => h4 (by simpa using z)⟩
          · go_wp2
            rw [HR.out]
            exact ⟨e, _, _, _, _, _, rfl, rfl, fun z => h0 (by simpa using z), fun _ => rfl, fun z => h2 (by simpa using z), fun z => h3 (by simpa using z), fun z => h4 (by simpa using z)⟩
          · go_wp2
            rw [HR.out]
            exact ⟨e, _, _, _, _, _, rfl, rfl, fun z => h0 (by simpa using z), fun z => h1 (by simpa using z), fun _ => rfl, fun z => h3 (by simpa using z), fun z => h4 (by simpa using z)⟩
          · go_wp2
            rw [HR.out]
            exact ⟨e, _, _, _, _, _, rfl, rfl, fun z => h0 (by simpa using z), fun z => h1 (by simpa using z), fun z => h2 (by simpa using z), fun _ => rfl, fun z => h4 (by simpa using z)⟩
          · obtain rfl := h1 (haf ⟨1, .data⟩ (by simp) rfl)
            obtain rfl := h2 (haf ⟨2, .data⟩ (by simp) rfl)
            obtain rfl := h3 (haf ⟨3, .data⟩ (by simp) rfl)
            have HC := Lib.hid (HN.out e.w e.b)
            go_wp2_with (go_at_call 61; refine HC.out.mono ?_; rintro r w4 ⟨g, cap, srt, hp, hsrt, rfl, ho2, hb4⟩)
            rw [HR.out]
            exact ⟨⟨w4, e.b.trans (hb4.mono e.b.size)⟩, _, _, _, _, _, rfl, rfl, fun z => h0 (by simpa using z), fun _ => rfl, fun _ => rfl, fun _ => rfl, fun _ => Lib.hid ⟨g, cap, srt, hp, hsrt, rfl, own_mono ho2 e.b.size⟩⟩
        · rintro L a' w' hL hInv
          rw [HR.out] at hInv
          obtain ⟨e, v38, v39, v40, v41, v42, rfl, rfl, h0, h1, h2, h3, h4⟩ := hInv
          obtain ⟨g, cap, srt, hp, hsrt, rfl, ho2⟩ := (h4 (hL 4 (by omega))).out
          obtain rfl := h0 (hL 0 (by omega))
          have hmi0 := merged_inv srt hsrt
          have hml0 : (merged srt).length ≤ srt.length := by have := mergedAt_len srt srt.length (Nat.le_refl _); rwa [mergedAt_all] at this
          revert ho2 hmi0 hml0
          generalize merged srt = ms
          intro ho2 hmi hml
          have hsl : srt.length = 1 + l.length := by rw [hp.length_eq]; simp [allK]; omega
          have hm0 : 0 < ms.length := hmi.pos (by omega)
          have hms : SortedK ms := hmi.sorted.imp fun h => Int.le_of_lt h
          have hmb2 : ∀ y ∈ ms, BndK 1000000000000 y := hmi.cov.bnd fun y hy => allK_bnd HG.out F (by simp) y (hp.mem_iff.1 hy)
          have HCov := Lib.hid (show Covers ms (allK q l F []) from hmi.cov.perm hp)
          have HNar := Lib.hid (show Calls Tryz.prog 60 #[.agg #[.string q.name, .int .i64 q.lo, .int .i64 q.hi, .int .i64 q.rise, .int .i64 q.fall, .int .i64 q.bad, .slice q.gA q.gs.length q.gc], .slice (some ⟨g, 0, none⟩) ms.length cap] e.w (Narrowed ms q.rise q.fall X.heap.size 132 g cap e.w) from
            narrowed_any q ms X.heap.size g cap e.w ho2 hms hmb2 HG.out.rise.1 HG.out.rise.2 HG.out.fall.1 HG.out.fall.2 (by omega) hm0)
          have Hms := Lib.hid hms
          have hglt : X.heap.size ≤ g := (ho2.lt g rfl).1
          clear h0 h1 h2 h3 h4 hL q0 q1 q2 q3 q4 q5 q6 q7 hmi hp hsrt hmb2 hms ho2
          go_wp2_with (go_at_call 60; refine HNar.out.mono ?_; rintro r w3 ⟨l', ho3, hg3, (⟨rfl, hno⟩ | ⟨rfl, hall, rfl⟩)⟩)
          · have HbE := Lib.hid (show Below X.heap.size X w3 from below_of_grown e.b hg3 hglt (Nat.le_refl _))
            have hfit : fitsB q l F = false := by
              simp only [fitsB, decide_eq_false_iff_not]
              exact fun hag => hno ((fwd_agree HG.out.rise.1 HG.out.fall.1 ms Hms.out).2 (HCov.out.agree.2 hag))
            have hbx := HbE.out.size
            gi_wp2
            refine ⟨keeps_of_below HbE.out, KeepI.of_below HbE.out, ⟨(HbE.out.cell (p := ⟨w1.heap.size, 0, none⟩) (by simp; omega)).trans Hd1.out, ?_, (HbE.out.frozen (p := ⟨w1.heap.size + 1, 0, none⟩) (by simp; omega)).trans Hd3.out, ?_⟩, Hb.out.trans (HbE.out.mono (by omega)), ?_⟩
            · rw [List.map_append]
              refine ((HbE.out.cell (p := ⟨w1.heap.size + 1, 0, none⟩) (by simp; omega)).trans Hd2.out).trans ?_
              rw [List.map_singleton, waysN_snoc, hfit]; rfl
            · rw [List.map_append]
              have e1 : cntN q l (pre.map Prod.fst ++ [(F, Value.slice A' F.length c')].map Prod.fst) = cntN q l (pre.map Prod.fst) := by
                funext g'; rw [List.map_singleton, cntN_snoc, hfit]; simp
              rw [e1]; exact own_below Hd4.out HbE.out
            · intro G hG
              rw [List.map_append, List.mem_append] at hG
              rcases hG with hG | hG
              · exact H8.out G hG
              · simp at hG; subst hG; have := Hx1.out; omega
          · have HbE := Lib.hid (show Below X.heap.size X w3 from below_of_grown e.b hg3 hglt (Nat.le_refl _))
            have Hfit : Hid (fitsB q l F = true) := Lib.hid (by
              simp only [fitsB, decide_eq_true_eq]
              exact HCov.out.agree.1 ((fwd_agree HG.out.rise.1 HG.out.fall.1 ms Hms.out).1 hall))
            have hbx := HbE.out.size
            have hway : waysN q l (pre.map Prod.fst) ≤ 256 := by
              have h1 := waysN_len q l (pre.map Prod.fst)
              have h2 := subsN_len m q.gs.length 0 []
              have h3 : 2 ^ q.gs.length ≤ 2 ^ 8 := Nat.pow_le_pow_right (by omega) hgl
              rw [List.length_map] at h1; omega
            have Hcnt := Lib.hid (show ∀ g, cntN q l (pre.map Prod.fst) g ≤ 2048 from fun g => by
              have h1 := cntN_le q l g (pre.map Prod.fst) H8.out
              have h2 := subsN_len m q.gs.length 0 []
              have h3 : 2 ^ q.gs.length ≤ 2 ^ 8 := Nat.pow_le_pow_right (by omega) hgl
              rw [List.length_map] at h1; omega)
            have e1 := (HbE.out.cell (p := ⟨w1.heap.size, 0, none⟩) (by simp; omega)).trans Hd1.out
            have e2 := (HbE.out.cell (p := ⟨w1.heap.size + 1, 0, none⟩) (by simp; omega)).trans Hd2.out
            have e3 := (HbE.out.frozen (p := ⟨w1.heap.size + 1, 0, none⟩) (by simp; omega)).trans Hd3.out
            have He4 := Lib.hid (own_below Hd4.out HbE.out)
            have HK1 := Lib.hid (keeps_of_below HbE.out)
            have HK2 := Lib.hid (KeepI.of_below (B0 := w1.heap.size + 1 + 1) HbE.out)
            have HbE3 := Lib.hid (Hb.out.trans (HbE.out.mono (show W.heap.size ≤ X.heap.size by omega)))
            clear hall ho3 hg3
            revert hway Hcnt e2 He4
            generalize hwn : waysN q l (pre.map Prod.fst) = wn
            generalize hcf : cntN q l (pre.map Prod.fst) = cf
            intro hway Hcnt e2 He4
            have Hwn := Lib.hid hwn
            have Hcf := Lib.hid hcf
            clear hwn hcf
            gi_wp2
            gi_loopw [48] (fun i wr => ∃ j : Nat, j ≤ F.length ∧ i = .int .i64 j ∧ Hid (wr.cell? ⟨w1.heap.size, 0, none⟩ = some (.slice (some ⟨W.heap.size, 0, none⟩) q.gs.length q.gs.length)) ∧ Hid (wr.cell? ⟨w1.heap.size + 1, 0, none⟩ = some (.int .i64 ((wn : Int) + 1))) ∧ Hid (wr.frozen? ⟨w1.heap.size + 1, 0, none⟩ = false) ∧
              Hid (wr.ownsRow W.heap.size 3 1 (.slice (some ⟨W.heap.size, 0, none⟩) q.gs.length q.gs.length) q.gs.length (cntRow (fun g => cf g + (F.take j).count (g : Int)) q.gs.length)) ∧ Hid (KeepsOthers X wr) ∧ Hid (KeepI (w1.heap.size + 1 + 1) X wr) ∧ Hid (Below W.heap.size W3 wr)) (fun i _ => F.length - (intOf i).toNat)
            case atStart =>
              refine ⟨0, by omega, rfl, Lib.hid ((cell_set_ne (by simp)).trans e1), Lib.hid (World.cell?_setCell_same' _ _ _ (by rw [e2]; rfl)), Lib.hid (by rw [World.frozen?_setCell]; exact e3), Lib.hid ?_, Lib.hid (HK1.out.trans (KeepsOthers.setCell _ _ _)), Lib.hid (KeepI.setCell HK2.out (by simp) _), Lib.hid (HbE3.out.setCell (p := ⟨w1.heap.size + 1, 0, none⟩) (by simp; omega) _)⟩
              have := own_set He4.out (N := w1.heap.size) (p := ⟨w1.heap.size + 1, 0, none⟩) (fun k hk => by simp [Value.ownBlock] at hk; omega) (by simp) (.int .i64 ((wn : Int) + 1))
              simpa using this
            case round =>
              obtain ⟨j, hj, rfl, Hr1, Hr2, Hr3, Hr4, Hr5, Hr6, Hr7⟩ := hrel
              have hwrs := Hr7.out.size
              by_cases hlt' : j < F.length
              · obtain ⟨b, cs, fz, rfl, hbB, hbl, hbc⟩ := Hx4.out.keep Hr6.out (by omega)
                obtain ⟨gn, hgn⟩ : ∃ gn : Nat, F[j] = (gn : Int) := ⟨F[j].toNat, by have := (Hx2.out F[j] (List.getElem_mem hlt')).1; omega⟩
                have hgnl : gn < q.gs.length := by have := (Hx2.out F[j] (List.getElem_mem hlt')).2; omega
                have f0 : wr.cell? ⟨b, j, none⟩ = some (.int .i64 (gn : Int)) := by
                  have h0 := hbc j hlt'
                  rw [hgn] at h0
                  simp only [World.cell?, hbl]
                  simpa using h0
                have hcs := Lib.hid (fun x => count_take_succ F j hlt' x)
                have Hgn := Lib.hid hgn
                have f1 := Hr1.out
                have f2 : wr.cell? ⟨W.heap.size, gn, none⟩ = some (.int .i64 ((cf gn + (F.take j).count (gn : Int) : Nat) : Int)) := (Hr4.out.cellAt gn (by simp; omega)).trans (cntRow_get _ _ hgnl)
                have f3 := Hr4.out.frozenAt gn
                have hcv : cf gn + (F.take j).count (gn : Int) ≤ 3000 := by
                  have h1 := Hcnt.out gn
                  have h2 : (F.take j).count (gn : Int) ≤ (F.take j).length := List.count_le_length
                  rw [List.length_take] at h2
                  have := Hx1.out; omega
                have Hst := Lib.hid (Hr4.out.stored gn (.int .i64 ((cf gn + (F.take j).count (gn : Int) : Nat) + 1))).1
                have hFl : F.length ≤ 8 := by have := Hx1.out; omega
                revert f2 hcv Hst
                generalize hcvv : cf gn + (F.take j).count (gn : Int) = cv
                intro f2 hcv Hst
                have Hcvv := Lib.hid hcvv
                clear hgn hbc hbl hcvv
                gi_wp2
                go_roundw
                case rel =>
                  refine ⟨j + 1, by omega, by go_num, Lib.hid ((cell_set_ne (by simp; omega)).trans Hr1.out), Lib.hid ((cell_set_ne (by simp; omega)).trans Hr2.out), Lib.hid (by rw [World.frozen?_setCell]; exact Hr3.out), Lib.hid ?_, Lib.hid (Hr5.out.trans (KeepsOthers.setCell _ _ _)), Lib.hid (KeepI.setCell Hr6.out (by simp; omega) _), Lib.hid (Hr7.out.setCell (p := ⟨W.heap.size, gn, none⟩) (Nat.le_refl _) _)⟩
                  have h := Hst.out
                  have hc1 := cntRow_set (fun g => cf g + (F.take j).count (g : Int)) (fun g => cf g + (F.take (j + 1)).count (g : Int)) q.gs.length (i := gn) (fun g' hg' => by
                    rw [hcs.out, if_neg]; · rfl
                    rw [Hgn.out]; omega)
                  have hc2 : cf gn + (F.take (j + 1)).count (gn : Int) = cv + 1 := by rw [hcs.out, if_pos Hgn.out, ← Hcvv.out]; omega
                  simp only [hc2] at hc1
                  rw [← hc1]
                  exact h
                case measure => simp [intOf]; omega
              · obtain rfl : j = F.length := by omega
                gi_wp2
                refine ⟨Hr5.out, Hr6.out, ⟨Hr1.out, ?_, Hr3.out, ?_⟩, Hr7.out, ?_⟩
                · rw [List.map_append, List.map_singleton, waysN_snoc, Hfit.out, Hwn.out]
                  exact Hr2.out
                · have e1 : cntN q l ((pre ++ [(F, Value.slice A' F.length c')]).map Prod.fst) = fun g => cf g + (F.take F.length).count (g : Int) := by
                    funext g'; rw [List.map_append, List.map_singleton, cntN_snoc, Hfit.out, ← Hcf.out, List.take_length]; rfl
                  rw [e1]; exact Hr4.out
                · intro G hG
                  rw [List.map_append, List.mem_append] at hG
                  rcases hG with hG | hG
                  · exact H8.out G hG
                  · simp at hG; subst hG; have := Hx1.out; omega
end Go.Proofs.YtcgnpndfhhcplaaGreatDoor
