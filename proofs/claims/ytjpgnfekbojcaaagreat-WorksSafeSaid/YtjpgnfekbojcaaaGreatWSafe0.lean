/-
  Plain laws of stays: the next stay of a worker breaks no rule, and one a minute earlier would; a shorter stay's way out. No program.
-/
import Derived.Test.YtjpgnfekbojcaaaGreatWRAir4
namespace Go.Proofs.YtjpgnfekbojcaaaGreat
open Go.RowKit W7 W8
theorem nextGo_some {t : Table} {l : List Dive} {who : ByteArray} {p m out : Int} : ∀ (f : Nat) (a0 a : Int), nextGo t l who p m out f a0 = some a -> a0 <= a /\ a + m + out <= 100000 /\ faultN t (aheadOf l l.length who) (nextDv who p m out a) = 0 /\ ∀ b, a0 <= b -> b < a -> faultN t (aheadOf l l.length who) (nextDv who p m out b) ≠ 0
 | 0, a0, a, h => by cases h
 | f + 1, a0, a, h => by
  unfold nextGo at h
  by_cases h1 : a0 + m + out <= 100000
  ·rw [if_pos h1] at h
   by_cases h2 : faultN t (aheadOf l l.length who) (nextDv who p m out a0) = 0
   ·rw [if_pos h2] at h
    have e := Option.some.inj h
    subst e
    exact ⟨Int.le_refl _, h1, h2, fun b hb1 hb2 => by omega⟩
   ·rw [if_neg h2] at h
    obtain ⟨k1, k2, k3, k4⟩ := nextGo_some f (a0 + 1) a h
    refine ⟨by omega, k2, k3, fun b hb1 hb2 => ?_⟩
    by_cases e : b = a0
    ·rw [e]; exact h2
    ·exact k4 b (by omega) hb2
  ·rw [if_neg h1] at h
   cases h
theorem nextR_bad {t : Table} {l : List Dive} {who : ByteArray} {p m ready : Int} (h : (nextR t l who p m ready).1 ≠ 0) : (nextR t l who p m ready).2 = noDive := by
 generalize hR : nextR t l who p m ready = R at h ⊢
 unfold nextR at hR
 by_cases h1 : faultsErr t l ≠ 0
 ·rw [if_pos h1] at hR; rw [<- hR]
 rw [if_neg h1] at hR
 cases h2 : (faultsV t l).all noFault
 ·rw [h2, if_neg (by decide)] at hR; rw [<- hR]
 rw [h2, if_pos rfl] at hR
 cases h3 : nameB who
 ·rw [h3, if_neg (by decide)] at hR; rw [<- hR]
 rw [h3, if_pos rfl] at hR
 cases h4 : (isTm p && isTm m && isTm ready && !(m == 0))
 ·rw [h4, if_neg (by decide)] at hR; rw [<- hR]
 rw [h4, if_pos rfl] at hR
 cases h5 : cntRow t p m with
 | none => rw [h5] at hR; rw [<- hR]
 | some r =>
  rw [h5] at hR
  dsimp only at hR
  cases h6 : nextGo t l who p m r.out 100001 (nextFrom l ready) with
  | none => rw [h6] at hR; rw [<- hR]
  | some a => rw [h6] at hR; rw [<- hR] at h; exact absurd rfl h
theorem nextR_ok {t : Table} {l : List Dive} {who : ByteArray} {p m ready : Int} (h : (nextR t l who p m ready).1 = 0) :
  faultsErr t l = 0 /\ (faultsV t l).all noFault = true /\ nameB who = true /\ isTm p = true /\ isTm m = true /\ isTm ready = true /\ ∃ r a, cntRow t p m = some r /\ nextGo t l who p m r.out 100001 (nextFrom l ready) = some a /\ (nextR t l who p m ready).2 = nextDv who p m r.out a := by
 generalize hR : nextR t l who p m ready = R at h ⊢
 unfold nextR at hR
 by_cases h1 : faultsErr t l ≠ 0
 ·rw [if_pos h1] at hR; rw [<- hR] at h; exact absurd h h1
 have h10 : faultsErr t l = 0 := Classical.not_not.1 h1
 rw [if_neg h1] at hR
 cases h2 : (faultsV t l).all noFault
 ·rw [h2, if_neg (by decide)] at hR; rw [<- hR] at h; exact absurd h (by decide)
 rw [h2, if_pos rfl] at hR
 cases h3 : nameB who
 ·rw [h3, if_neg (by decide)] at hR; rw [<- hR] at h; exact absurd h (by decide)
 rw [h3, if_pos rfl] at hR
 cases h4 : (isTm p && isTm m && isTm ready && !(m == 0))
 ·rw [h4, if_neg (by decide)] at hR; rw [<- hR] at h; exact absurd h (by decide)
 rw [h4, if_pos rfl] at hR
 simp only [Bool.and_eq_true] at h4
 obtain ⟨⟨⟨k1, k2⟩, k3⟩, _⟩ := h4
 cases h5 : cntRow t p m with
 | none => rw [h5] at hR; rw [<- hR] at h; exact absurd (show (7 : Int) = 0 from h) (by decide)
 | some r =>
  rw [h5] at hR
  dsimp only at hR
  cases h6 : nextGo t l who p m r.out 100001 (nextFrom l ready) with
  | none => rw [h6] at hR; rw [<- hR] at h; exact absurd (show (9 : Int) = 0 from h) (by decide)
  | some a => rw [h6] at hR; exact ⟨h10, rfl, rfl, k1, k2, k3, r, a, rfl, h6, by rw [<- hR]⟩
theorem ahead_left (l : List Dive) (x : Dive) (i : Nat) (who : ByteArray) (h : i <= l.length) : aheadOf (l ++ [x]) i who = aheadOf l i who := by
 unfold aheadOf
 rw [List.take_append_of_le_length h]
theorem getD_left {l : List Dive} {x : Dive} {i : Nat} (h : i < l.length) : (l ++ [x]).getD i default = l.getD i default := by
 rw [List.getD_eq_getElem?_getD, List.getD_eq_getElem?_getD, List.getElem?_append_left h]
theorem getD_last (l : List Dive) (x : Dive) : (l ++ [x]).getD l.length default = x := by simp
theorem faultAt_left (t : Table) {l : List Dive} {x : Dive} {i : Nat} (h : i < l.length) : faultAt t (l ++ [x]) i = faultAt t l i := by
 unfold faultAt
 rw [getD_left h, ahead_left l x i _ (by omega)]
theorem firstErr_congr {f g : Nat -> Int} : ∀ n, (∀ i, i < n -> f i = g i) -> firstErr f n = firstErr g n
 | 0, _ => rfl
 | n + 1, h => by
  unfold firstErr
  rw [firstErr_congr n (fun i hi => h i (by omega)), h n (by omega)]
theorem diveErr_left {l : List Dive} {x : Dive} {i : Nat} (h : i < l.length) : diveErr (l ++ [x]) i = diveErr l i := by
 unfold diveErr
 rw [getD_left h, getD_left (show i - 1 < l.length by omega)]
theorem faultsErr_snoc {t : Table} {l : List Dive} {x : Dive} (h : faultsErr t l = 0) (hl : l.length < 128) (hn : nameB x.who = true) (ht : timesB x = true) (ho : 0 < l.length -> (l.getD (l.length - 1) default).tin <= x.tin) : faultsErr t (l ++ [x]) = 0 := by
 obtain ⟨h1, _, h3⟩ := faults_zero h
 unfold faultsErr
 rw [if_neg (by rw [h1]; decide), if_neg (by rw [List.length_append]; simp; omega)]
 unfold divesErr at h3 ⊢
 rw [List.length_append]
 show firstErr (diveErr (l ++ [x])) (l.length + 1) = 0
 rw [firstErr_succ (by rw [firstErr_congr l.length (fun i hi => diveErr_left hi)]; exact h3)]
 unfold diveErr
 rw [getD_last, hn, ht, if_pos rfl, if_pos rfl]
 by_cases h0 : 0 < l.length
 ·rw [getD_left (show l.length - 1 < l.length by omega), if_neg (fun h9 => by have := ho h0; omega)]
 ·rw [if_neg (fun h9 => h0 h9.1)]
theorem faultsV_snoc {t : Table} {l : List Dive} {x : Dive} (h : faultsErr t l = 0) (h' : faultsErr t (l ++ [x]) = 0) : faultsV t (l ++ [x]) = faultsV t l ++ [faultN t (aheadOf l l.length x.who) x] := by
 unfold faultsV
 rw [if_pos h, if_pos h', List.length_append]
 show (List.range (l.length + 1)).map _ = _
 rw [List.range_succ, List.map_append]
 congr 1
 ·exact List.map_congr_left (fun i hi => faultAt_left t (List.mem_range.1 hi))
 ·show [faultAt t (l ++ [x]) l.length] = _
  rw [fault_last]
structure NextSafe (t : Table) (l : List Dive) (who : ByteArray) (p m ready : Int) (x : Dive) : Prop where
 nm : x.who = who
 pr : x.pr = p
 mi : x.leave - x.tin = m
 rd : ready <= x.tin
 r0 : 0 <= ready
 tm : 0 <= x.tin /\ x.tin <= 100000 /\ 0 <= x.leave /\ x.leave <= 100000 /\ 0 <= x.out /\ x.out <= 100000
 er : faultsErr t (l ++ [x]) = 0
 ok : (faultsV t (l ++ [x])).all noFault = true
 ln : (faultsV t (l ++ [x])).length = l.length + 1
 bad : ready < x.tin -> (0 < l.length -> (l.getD (l.length - 1) default).tin < x.tin) -> faultsErr t (l ++ [⟨who, p, x.tin - 1, x.leave - 1, x.out - 1⟩]) = 0 /\ (faultsV t (l ++ [⟨who, p, x.tin - 1, x.leave - 1, x.out - 1⟩])).length = l.length + 1 /\ noFault ((faultsV t (l ++ [⟨who, p, x.tin - 1, x.leave - 1, x.out - 1⟩])).getD l.length 0) = false
theorem next_safe {t : Table} {l : List Dive} {who : ByteArray} {p m ready : Int} (hl : l.length < 128) (h : (nextR t l who p m ready).1 = 0) : NextSafe t l who p m ready (nextR t l who p m ready).2 := by
 obtain ⟨h0, ha, hn, hp, hm, hr, r, a, hc, hg, hx⟩ := nextR_ok h
 obtain ⟨g1, g2, g3, g4⟩ := nextGo_some _ _ _ hg
 obtain ⟨o1, o2⟩ := out_pos (faults_zero h0).1 hc
 have hp1 := isTm_true.1 hp
 have hm1 := isTm_true.1 hm
 have hr1 := isTm_true.1 hr
 have hfr : ready <= nextFrom l ready := by
  unfold nextFrom
  split
  ·omega
  ·exact Int.le_refl _
 have hfl : 0 < l.length -> (l.getD (l.length - 1) default).tin <= nextFrom l ready := fun h9 => by
  unfold nextFrom
  rw [if_pos h9]
  omega
 have hln : (faultsV t l).length = l.length := by
  unfold faultsV
  rw [if_pos h0, List.length_map, List.length_range]
 rw [hx]
 have tB : ∀ b : Int, 0 <= b -> b <= a -> timesB (nextDv who p m r.out b) = true := fun b hb1 hb2 => by
  unfold timesB
  rw [show isTm (nextDv who p m r.out b).pr = true from hp, show isTm (nextDv who p m r.out b).tin = true from isTm_true.2 ⟨hb1, by show b <= 100000; omega⟩, show isTm (nextDv who p m r.out b).leave = true from isTm_true.2 ⟨by show 0 <= b + m; omega, by show b + m <= 100000; omega⟩, show isTm (nextDv who p m r.out b).out = true from isTm_true.2 ⟨by show 0 <= b + m + r.out; omega, by show b + m + r.out <= 100000; omega⟩]
  rfl
 have hE := faultsErr_snoc (x := nextDv who p m r.out a) h0 hl hn (tB a (by omega) (Int.le_refl _)) (fun h9 => Int.le_trans (hfl h9) g1)
 have hV := faultsV_snoc h0 hE
 refine ⟨rfl, rfl, ?_, by show ready <= a; omega, hr1.1, ?_, hE, ?_, ?_, ?_⟩
 ·show a + m - a = m; omega
 ·refine ⟨?_, ?_, ?_, ?_, ?_, ?_⟩
  ·show 0 <= a; omega
  ·show a <= 100000; omega
  ·show 0 <= a + m; omega
  ·show a + m <= 100000; omega
  ·show 0 <= a + m + r.out; omega
  ·show a + m + r.out <= 100000; omega
 ·rw [hV, List.all_append, ha]
  show (true && ([faultN t (aheadOf l l.length who) (nextDv who p m r.out a)]).all noFault) = true
  rw [g3]
  rfl
 ·rw [hV, List.length_append, hln]; rfl
 ·intro b1 b2
  have b1' : ready < a := b1
  have b2' : 0 < l.length -> (l.getD (l.length - 1) default).tin < a := b2
  have hfa : nextFrom l ready <= a - 1 := by
   unfold nextFrom
   split
   ·have := b2' (by assumption); omega
   ·omega
  have e : (⟨who, p, (nextDv who p m r.out a).tin - 1, (nextDv who p m r.out a).leave - 1, (nextDv who p m r.out a).out - 1⟩ : Dive) = nextDv who p m r.out (a - 1) := by
   unfold nextDv
   simp only [Dive.mk.injEq, true_and]
   omega
  rw [e]
  have hE1 := faultsErr_snoc (x := nextDv who p m r.out (a - 1)) h0 hl hn (tB (a - 1) (by omega) (by omega)) (fun h9 => by have := b2' h9; show _ <= a - 1; omega)
  have hV1 := faultsV_snoc h0 hE1
  refine ⟨hE1, by rw [hV1, List.length_append, hln]; rfl, ?_⟩
  rw [hV1, <- hln, List.getD_eq_getElem?_getD, List.getElem?_append_right (Nat.le_refl _)]
  have h7 := g4 (a - 1) hfa (by omega)
  simp only [Nat.sub_self, List.getElem?_cons_zero, Option.getD_some]
  rw [hln]
  exact beq_false_of_ne h7
theorem out_mono {t : Table} (hs : ∀ i, 0 < i -> i < t.rows.length -> (t.rows.getD (i - 1) default).out <= (t.rows.getD i default).out) : ∀ (d i : Nat), i + d < t.rows.length -> (t.rows.getD i default).out <= (t.rows.getD (i + d) default).out
 | 0, i, _ => Int.le_refl _
 | d + 1, i, h => by
  have h1 := out_mono hs d i (by omega)
  have h2 := hs (i + (d + 1)) (by omega) h
  rw [show i + (d + 1) - 1 = i + d by omega] at h2
  omega
theorem way_less {t : Table} {p m : Int} {r r' : AirRow} (hs : ∀ i, 0 < i -> i < t.rows.length -> (t.rows.getD (i - 1) default).out <= (t.rows.getD i default).out) (h : cntRow t p m = some r) (h' : cntRow t p (m - 1) = some r') : r'.out <= r.out := by
 unfold cntRow at h h'
 rw [List.find?_eq_some_iff_getElem] at h h'
 obtain ⟨h1, i, hi, h2, h3⟩ := h
 obtain ⟨k1, j, hj, k2, k3⟩ := h'
 have hji : j <= i := by
  rcases Nat.lt_or_ge i j with h9 | h9
  ·have h8 := k3 i h9
   rw [h2] at h8
   unfold fitsRow at h1 h8
   simp only [Bool.and_eq_true, decide_eq_true_eq, Bool.not_eq_true', Bool.and_eq_false_iff, decide_eq_false_iff_not] at h1 h8
   omega
  ·exact h9
 have h5 := out_mono hs (i - j) j (by omega)
 rw [show j + (i - j) = i by omega, getD_lt hj, getD_lt hi, h2, k2] at h5
 exact h5
theorem way_less2 {t : Table} {p m : Int} (hs : ∀ i, 0 < i -> i < t.rows.length -> (t.rows.getD (i - 1) default).out <= (t.rows.getD i default).out) (h : wayErr t p m = 0) (h' : wayErr t p (m - 1) = 0) : wayV t p (m - 1) <= wayV t p m := by
 unfold wayV
 rw [if_pos h, if_pos h']
 have hh : ∀ q, wayErr t p q = 0 -> ∃ r, cntRow t p q = some r := fun q hq => by
  unfold wayErr at hq
  by_cases h1 : tblErr t ≠ 0
  ·rw [if_pos h1] at hq; exact absurd hq h1
  rw [if_neg h1] at hq
  cases h2 : (isTm p && isTm q)
  ·rw [h2, if_neg (by decide)] at hq; exact absurd hq (by decide)
  rw [h2, if_pos rfl] at hq
  cases h3 : cntRow t p q with
  | none => rw [h3] at hq; exact absurd hq (by decide)
  | some r => exact ⟨r, rfl⟩
 obtain ⟨r, hr⟩ := hh m h
 obtain ⟨r', hr'⟩ := hh (m - 1) h'
 unfold outOf
 rw [hr, hr']
 exact way_less hs hr hr'
theorem row_cur {X : World} {base T g n cap : Nat} {l : List Dive} {d : Dive} {cs : List Value} (_hn : n = l.length) (h : X.ownsRow base T 5 (.slice (some ⟨g, 0, none⟩) (n + 1) cap) (n + 1) (l.flatMap encDive ++ cs)) (hd : cs = encDive d := by rfl) :
  ∃ cur : Array Value, X.heap[g]? = some (.cells cur T (0, 0)) /\ (n + 1) * 5 <= cur.size /\ cur.toList.take ((n + 1) * 5) = (l ++ [d]).flatMap encDive := by
 subst hd
 rcases h.2 with ⟨e0, _⟩ | ⟨g', cap', cur, e0, _, hb, hc, _, hs, ht⟩
 ·cases e0
 ·cases e0
  exact ⟨cur, hb, by rw [hs]; exact Nat.mul_le_mul_right 5 hc, by rw [ht, List.flatMap_append, List.flatMap_cons, List.flatMap_nil, List.append_nil]⟩
theorem row_get {n i j : Nat} {l : List Dive} {d : Dive} {cur : Array Value} (hn : n = l.length) (ht : cur.toList.take ((n + 1) * 5) = (l ++ [d]).flatMap encDive) (hi : i < (l ++ [d]).length) (hj : j < 5) : cur[i * 5 + j]? = (encDive (l ++ [d])[i])[j]? := by
 rw [<- flat_get lenDi (l ++ [d]) i j hi hj, <- ht, List.getElem?_take_of_lt (by simp at hi; omega), Array.getElem?_toList]
theorem row_at {n j : Nat} {l : List Dive} {d : Dive} {cur : Array Value} {v : Value} (hn : n = l.length) (ht : cur.toList.take ((n + 1) * 5) = (l ++ [d]).flatMap encDive) (hj : j < 5) (hv : (encDive d)[j]? = some v := by rfl) : cur[n * 5 + j]? = some v := by
 rw [row_get hn ht (i := n) (by simp; omega) hj, <- hv]
 subst hn
 simp
def put5 (X : World) (g o : Nat) (y : Dive) : World := ((((X.setCell ⟨g, o, none⟩ (.string y.who)).setCell ⟨g, o + 1, none⟩ (.int .i64 y.pr)).setCell ⟨g, o + 2, none⟩ (.int .i64 y.tin)).setCell ⟨g, o + 3, none⟩ (.int .i64 y.leave)).setCell ⟨g, o + 4, none⟩ (.int .i64 y.out)
theorem put5_below {X : World} {B g o : Nat} {y : Dive} (h : B <= g) : Below B X (put5 X g o y) :=
 (((((Below.refl B X).setCell (p := ⟨g, o, none⟩) h _).setCell (p := ⟨g, o + 1, none⟩) h _).setCell (p := ⟨g, o + 2, none⟩) h _).setCell (p := ⟨g, o + 3, none⟩) h _).setCell (p := ⟨g, o + 4, none⟩) h _
theorem row_put {X : World} {T g n : Nat} {l : List Dive} {d : Dive} {cur : Array Value} (hn : n = l.length) (hb : X.heap[g]? = some (.cells cur T (0, 0))) (hs : (n + 1) * 5 <= cur.size) (ht : cur.toList.take ((n + 1) * 5) = (l ++ [d]).flatMap encDive) (y : Dive) : Sl (put5 X g (n * 5) y) (put5 X g (n * 5) y).heap.size 5 encDive (some ⟨g, 0, none⟩) (l ++ [y]) := fun _ => by
 have hb' := blk_set (blk_set (blk_set (blk_set (blk_set hb (j := n * 5) (.string y.who)) (j := n * 5 + 1) (.int .i64 y.pr)) (j := n * 5 + 2) (.int .i64 y.tin)) (j := n * 5 + 3) (.int .i64 y.leave)) (j := n * 5 + 4) (.int .i64 y.out)
 have hb2 : (put5 X g (n * 5) y).heap[g]? = _ := hb'
 refine ⟨g, 0, rfl, blk_lt hb2, fun i hi j v hv => ?_⟩
 have hj : j < 5 := (List.getElem?_eq_some_iff.1 hv).1
 rw [Nat.zero_add]
 refine bc hb2 ?_
 have hi' : i < n + 1 := by simp at hi; omega
 by_cases hin : i = n
 ·subst hin
  have e : (l ++ [y])[i] = y := by subst hn; simp
  rw [e] at hv
  simp only [Array.getElem?_setIfInBounds, Array.size_setIfInBounds]
  rcases j with _ | _ | _ | _ | _ | j
  ·rw [if_neg (by omega), if_neg (by omega), if_neg (by omega), if_neg (by omega), if_pos (by omega), if_pos (by omega)]; exact hv
  ·rw [if_neg (by omega), if_neg (by omega), if_neg (by omega), if_pos (by omega), if_pos (by omega)]; exact hv
  ·rw [if_neg (by omega), if_neg (by omega), if_pos (by omega), if_pos (by omega)]; exact hv
  ·rw [if_neg (by omega), if_pos (by omega), if_pos (by omega)]; exact hv
  ·rw [if_pos (by omega), if_pos (by omega)]; exact hv
  ·omega
 ·have e : (l ++ [y])[i] = (l ++ [d])[i]'(by simp; omega) := by
   rw [List.getElem_append_left (by omega), List.getElem_append_left (by omega)]
  rw [e, <- row_get hn ht (by simp; omega) hj] at hv
  simp only [Array.getElem?_setIfInBounds, Array.size_setIfInBounds]
  rw [if_neg (by omega), if_neg (by omega), if_neg (by omega), if_neg (by omega), if_neg (by omega)]
  exact hv
theorem row_last {X : World} {base T n c2 : Nat} {A2 : Option Addr} {l : List Dive} (d : Dive) (hn : n = l.length) (h : X.ownsRow base T 5 (.slice A2 (n + 1) c2) (n + 1) (l.flatMap encDive ++ [.string d.who, .int .i64 d.pr, .int .i64 d.tin, .int .i64 d.leave, .int .i64 d.out])) :
  ∃ g, A2 = some ⟨g, 0, none⟩ /\ base <= g /\ g < X.heap.size ∧
   X.cell? ⟨g, n * 5, none⟩ = some (.string d.who) /\ X.cell? ⟨g, n * 5 + 1, none⟩ = some (.int .i64 d.pr) /\ X.cell? ⟨g, n * 5 + 2, none⟩ = some (.int .i64 d.tin) /\ X.cell? ⟨g, n * 5 + 3, none⟩ = some (.int .i64 d.leave) /\ X.cell? ⟨g, n * 5 + 4, none⟩ = some (.int .i64 d.out) ∧
   X.frozen? ⟨g, n * 5, none⟩ = false /\ X.frozen? ⟨g, n * 5 + 1, none⟩ = false /\ X.frozen? ⟨g, n * 5 + 2, none⟩ = false /\ X.frozen? ⟨g, n * 5 + 3, none⟩ = false /\ X.frozen? ⟨g, n * 5 + 4, none⟩ = false ∧
   Hid (∀ y : Dive, Sl (put5 X g (n * 5) y) (put5 X g (n * 5) y).heap.size 5 encDive (some ⟨g, 0, none⟩) (l ++ [y])) := by
 obtain ⟨g, cap, hcv, hgb, hgx, _⟩ := owns_cellsN h (by omega)
 simp only [Value.slice.injEq, true_and] at hcv
 obtain ⟨rfl, rfl⟩ := hcv
 obtain ⟨cur, hb, hs, ht⟩ := row_cur (d := d) hn h rfl
 exact ⟨g, rfl, hgb, hgx, bc (j := n * 5) hb (row_at (j := 0) hn ht (by decide) rfl), bc (j := n * 5 + 1) hb (row_at (j := 1) hn ht (by decide) rfl), bc (j := n * 5 + 2) hb (row_at (j := 2) hn ht (by decide) rfl), bc (j := n * 5 + 3) hb (row_at (j := 3) hn ht (by decide) rfl), bc (j := n * 5 + 4) hb (row_at (j := 4) hn ht (by decide) rfl), bf hb, bf hb, bf hb, bf hb, bf hb, hI (row_put hn hb hs ht)⟩
end Go.Proofs.YtjpgnfekbojcaaaGreat
