/-
  Package watch's nodes: the times of readings, and some more, with what the gauges that have not failed say. Conditions: checked arguments, at most 19 nodes.
-/
import Derived.Test.YtcgnpndfhhcplaaGreatDoorSorts
import Derived.Test.YtcgnpndfhhcplaaGreatDoorMath
import Derived.Test.YtcgnpndfhhcplaaGreatDoorLeaf
import Derived.Test.YtcgnpndfhhcplaaGreatDoorNar2
namespace Go.Proofs.YtcgnpndfhhcplaaGreatDoor
open Go.RowKit W7
/-- what a reading says -/
def rk (q : Quantity) (F : List Int) (r : Reading) : K :=
  if F.any (fun y => r.g == y) then ⟨r.t, -4000000000, 4000000000⟩ else ⟨r.t, r.v - devi (q.gs.getD r.g.toNat default) r.t, r.v + devi (q.gs.getD r.g.toNat default) r.t⟩
def allK (q : Quantity) (l : List Reading) (F : List Int) (more : List K) : List K := ⟨0, q.lo, q.hi⟩ :: (more ++ l.map (rk q F))
def allAt (q : Quantity) (l : List Reading) (F : List Int) (more : List K) (k : Nat) : List K := ⟨0, q.lo, q.hi⟩ :: (more ++ (l.take k).map (rk q F))
theorem allAt_succ (q : Quantity) (l : List Reading) (F : List Int) (more : List K) (k : Nat) (h : k < l.length) : allAt q l F more (k + 1) = allAt q l F more k ++ [rk q F l[k]] := by
  unfold allAt; rw [List.take_succ_eq_append_getElem h, List.map_append]; simp only [List.map_cons, List.map_nil, List.cons_append, List.append_assoc]
theorem allAt_all (q : Quantity) (l : List Reading) (F : List Int) (more : List K) : allAt q l F more l.length = allK q l F more := by unfold allAt allK; rw [List.take_length]
theorem encKs_append (a b : List K) : encKs (a ++ b) = encKs a ++ encKs b := by simp [encKs]
theorem encKs_cons (a : K) (b : List K) : encKs (a :: b) = [.int .i64 a.t, .int .i64 a.lo, .int .i64 a.hi] ++ encKs b := by simp [encKs, encK]
/-- gauges and readings that have been checked -/
structure Good (q : Quantity) (l : List Reading) : Prop where
  lo : -1000000000 ≤ q.lo ∧ q.lo ≤ 1000000000
  hi : -1000000000 ≤ q.hi ∧ q.hi ≤ 1000000000
  rise : 0 ≤ q.rise ∧ q.rise ≤ 10000
  fall : 0 ≤ q.fall ∧ q.fall ≤ 10000
  gl : q.gs.length ≤ 8
  g : ∀ g ∈ q.gs, 0 ≤ g.acc ∧ g.acc ≤ 1000000000 ∧ 0 ≤ g.drift ∧ g.drift ≤ 1000000000 ∧ 0 ≤ g.since ∧ g.since ≤ 100000
  r : ∀ r ∈ l, 0 ≤ r.g ∧ r.g < (q.gs.length : Int) ∧ 0 ≤ r.t ∧ r.t ≤ 100000 ∧ -1000000000 ≤ r.v ∧ r.v ≤ 1000000000
theorem devi_bnd {g : Gauge} {t : Int} (h : 0 ≤ g.acc ∧ g.acc ≤ 1000000000 ∧ 0 ≤ g.drift ∧ g.drift ≤ 1000000000 ∧ 0 ≤ g.since ∧ g.since ≤ 100000) (ht : 0 ≤ t ∧ t ≤ 100000) : 0 ≤ devi g t ∧ devi g t ≤ 102000000000 := by
  unfold devi
  split
  · omega
  · have b0 : 0 ≤ (t - g.since + 999) / 1000 := by omega
    have b1 : (t - g.since + 999) / 1000 ≤ 101 := by omega
    have b2 : 0 ≤ (t - g.since + 999) / 1000 * g.drift := Int.mul_nonneg b0 h.2.2.1
    have h1 : (t - g.since + 999) / 1000 * g.drift ≤ 101 * g.drift := Int.mul_le_mul_of_nonneg_right b1 h.2.2.1
    omega
theorem rk_bnd {q : Quantity} {l : List Reading} (hg : Good q l) (F : List Int) {r : Reading} (hr : r ∈ l) : BndK 1000000000000 (rk q F r) := by
  have h := hg.r r hr
  unfold rk
  split
  · unfold BndK; simp only; omega
  · have hk : r.g.toNat < q.gs.length := by omega
    rw [List.getD_eq_getElem?_getD, List.getElem?_eq_getElem hk, Option.getD_some]
    have := devi_bnd (hg.g q.gs[r.g.toNat] (List.getElem_mem hk)) (t := r.t) ⟨h.2.2.1, h.2.2.2.1⟩
    unfold BndK; simp only; omega
theorem own_set {w : World} {base e size n : Nat} {v : Value} {xs : List Value} (h : w.ownsRow base e size v n xs) {p : Addr} {N : Nat} (hp : ∀ k, v.ownBlock = some k → k < N) (hN : N ≤ p.block) (u : Value) : (w.setCell p u).ownsRow base e size v n xs :=
  h.kept (row := some p.block) ⟨rfl, rfl, rfl, by simp [World.setCell], fun i _ hne => Below.heap_setCell w p u i (fun e => hne (by rw [e]))⟩ (.inr fun e => by have := hp _ e; omega)
theorem own_lt {w : World} {base e size n : Nat} {v : Value} {xs : List Value} (h : w.ownsRow base e size v n xs) : ∀ k, v.ownBlock = some k → k < w.heap.size := by
  intro k hk
  rcases h.2 with ⟨rfl, _⟩ | ⟨g, cap, cur, rfl, _, hc, _⟩
  · simp [Value.ownBlock] at hk
  · simp [Value.ownBlock] at hk
    subst hk
    rcases Nat.lt_or_ge g w.heap.size with h1 | h1
    · exact h1
    · rw [Array.getElem?_eq_none h1] at hc; cases hc
theorem allK_bnd {q : Quantity} {l : List Reading} (hg : Good q l) (F : List Int) {more : List K} (hm : ∀ x ∈ more, BndK 1000000000000 x) : ∀ x ∈ allK q l F more, BndK 1000000000000 x := by
  intro x hx
  simp only [allK, List.mem_cons, List.mem_append, List.mem_map] at hx
  rcases hx with rfl | hx | ⟨r, hr, rfl⟩
  · have := hg.lo; have := hg.hi; unfold BndK; simp only; omega
  · exact hm x hx
  · exact rk_bnd hg F hr
theorem allK_t {q : Quantity} {l : List Reading} (hg : Good q l) (F : List Int) {more : List K} (hm : ∀ x ∈ more, 0 ≤ x.t ∧ x.t ≤ 100000) : ∀ x ∈ allK q l F more, 0 ≤ x.t ∧ x.t ≤ 100000 := by
  intro x hx
  simp only [allK, List.mem_cons, List.mem_append, List.mem_map] at hx
  rcases hx with rfl | hx | ⟨r, hr, rfl⟩
  · simp
  · exact hm x hx
  · have := rk_bnd hg F hr; unfold BndK at this; omega
def bnVal (x : BNode) : K := x.1
theorem toBN {xs : List K} (h : ∀ x ∈ xs, 0 ≤ x.t ∧ x.t ≤ 100000) : ∃ L : List BNode, L.map bnVal = xs := by
  induction xs with
  | nil => exact ⟨[], rfl⟩
  | cons x xs ih =>
    obtain ⟨L, hL⟩ := ih fun y hy => h y (by simp [hy])
    have hx := h x (by simp)
    exact ⟨⟨x, by omega, by omega⟩ :: L, by show x :: L.map bnVal = x :: xs; rw [hL]⟩
theorem flat_bn (L : List BNode) : L.flatMap encBN = encKs (L.map bnVal) := by
  induction L with
  | nil => rfl
  | cons x L ih => show encK x.1 ++ L.flatMap encBN = encK x.1 ++ encKs (L.map bnVal); rw [ih]
theorem own_mono {w : World} {base base' e size n : Nat} {v : Value} {xs : List Value} (h : w.ownsRow base e size v n xs) (hb : base' ≤ base) : w.ownsRow base' e size v n xs :=
  ⟨h.1, h.2.imp id fun ⟨g, cap, cur, h1, h2, h3⟩ => ⟨g, cap, cur, h1, Nat.le_trans hb h2, h3⟩⟩
theorem own_form {w : World} {base e size n : Nat} {v : Value} {xs : List Value} (h : w.ownsRow base e size v n xs) (hn : 0 < n) : ∃ g cap, v = .slice (some ⟨g, 0, none⟩) n cap ∧ base ≤ g := by
  rcases h.2 with ⟨_, h0⟩ | ⟨g, cap, cur, rfl, hb, _⟩
  · omega
  · exact ⟨g, cap, rfl, hb⟩
theorem below_of_grown {B g : Nat} {a w w' : World} (h : Below B a w) (hg : w.grownBy w' (some g)) (hb : B ≤ g) (h0 : B ≤ a.heap.size) : Below B a w' :=
  ⟨hg.os.trans h.os, hg.tape.trans h.tape, hg.output.trans h.output, Nat.le_trans h.size hg.size, fun i hi => (hg.block i (by have := h.size; omega) (fun e => by cases e; omega)).trans (h.block i hi)⟩
def Nodes (q : Quantity) (l : List Reading) (F : List Int) (more : List K) (w : World) (en : Ending) (w' : World) : Prop :=
  ∃ (g cap : Nat) (srt : List K), srt.Perm (allK q l F more) ∧ SortedK srt ∧ en = .returned (.slice (some ⟨g, 0, none⟩) (merged srt).length cap) ∧
    w'.ownsRow w.heap.size 132 3 (.slice (some ⟨g, 0, none⟩) (merged srt).length cap) (merged srt).length (encKs (merged srt)) ∧ Below w.heap.size w w'
theorem elemNode : Elem Tryz.prog 110 132 (.agg #[.int .i64 0, .int .i64 0, .int .i64 0]) 3 24 := Elem.mk' Tryz.underlying110 (by kernel_rfl) rfl (by decide) (by decide)
set_option maxHeartbeats 4000000 in
set_option maxRecDepth 100000 in
theorem nodesT_any (q : Quantity) (l : List Reading) (F : List Int) (more : List K) (A AF AM : Option Addr) (c cF cM B : Nat) (w : World) (hq : QIn w B q) (hA : Sl w B 3 encR A l) (hF : Sl w B 1 encInt1 AF F) (hM : Src w 3 AM more.length (encKs more)) (hB : B ≤ w.heap.size)
    (hgood : Good q l) (hmore : ∀ x ∈ more, 0 ≤ x.t ∧ x.t ≤ 100000) (hl : 1 + more.length + l.length ≤ 20) (hFl : F.length ≤ 8) :
    Calls Tryz.prog 61 #[.agg #[.string q.name, .int .i64 q.lo, .int .i64 q.hi, .int .i64 q.rise, .int .i64 q.fall, .int .i64 q.bad, .slice q.gA q.gs.length q.gc], .slice A l.length c, .slice AF F.length cF, .slice AM more.length cM] w (Nodes q l F more w) := by
  obtain ⟨cs, hcs⟩ : ∃ cs : Array Value, cs = #[.string q.name, .int .i64 q.lo, .int .i64 q.hi, .int .i64 q.rise, .int .i64 q.fall, .int .i64 q.bad, .slice q.gA q.gs.length q.gc] := ⟨_, rfl⟩
  have hlo := hgood.lo
  have hhi := hgood.hi
  have Hgood := Lib.hid hgood
  have Hq := Lib.hid hq
  have hgl := hgood.gl
  have hgl2 := hq.cap
  have HA := Lib.hid hA; have HF := Lib.hid hF; have Hmore := Lib.hid hmore
  obtain ⟨W0, hW0⟩ : ∃ W0, W0 = w.alloc (.cells cs 47) := ⟨_, rfl⟩
  have HB0 := Lib.hid (show Below w.heap.size w W0 by rw [hW0]; exact (Below.refl _ _).alloc (Nat.le_refl _) _)
  have hs0 : w.heap.size < W0.heap.size := by rw [hW0]; simp
  have Hs0 := Lib.hid (show W0.heap.size = w.heap.size + 1 by rw [hW0]; simp)
  have Hq0 := Lib.hid (show ∀ j v, cs[j]? = some v → W0.cell? ⟨w.heap.size, j, none⟩ = some v from fun j v hv => by rw [hW0]; exact alloc_cell hv)
  have Hown00 := Lib.hid (World.ownsRow_lit (base := w.heap.size + 1) (e := 132) (size := 3) W0 #[.int .i64 0, .int .i64 q.lo, .int .i64 q.hi] 1 (by rw [Hs0.out]; omega) (by unfold maxLen; omega) (by simp))
  have Hown0 : Hid ((W0.alloc (.cells #[.int .i64 0, .int .i64 q.lo, .int .i64 q.hi] 132)).ownsRow (w.heap.size + 1) 132 3 (.slice (some ⟨w.heap.size + 1, 0, none⟩) 1 1) 1 [.int .i64 0, .int .i64 q.lo, .int .i64 q.hi]) := by
    have h := Hown00.out
    rw [Hs0.out] at h
    exact h
  clear Hown00
  have HM := Lib.hid (show Src (W0.alloc (.cells #[.int .i64 0, .int .i64 q.lo, .int .i64 q.hi] 132)) 3 AM more.length (encKs more) by
    rcases hM with ⟨h1, h2, h3⟩ | ⟨ad, h1, h2, h3⟩
    · exact .inl ⟨h1, h2, h3⟩
    · refine .inr ⟨ad, h1, h2, fun j u hu => ?_⟩
      have h4 := h3 j u hu
      have hlt : (ad.add j).block < w.heap.size := World.block_lt_of_cell? w _ h4
      rw [World.cell?_alloc_lt _ _ _ (by omega), hW0, World.cell?_alloc_lt _ _ _ hlt]
      exact h4)
  have Hone : Hid (∀ u ∈ encKs more, u.oneCell' = true) := by
    intro u hu
    simp only [encKs, List.mem_flatMap, encK] at hu
    obtain ⟨x, _, hx⟩ := hu
    simp at hx
    rcases hx with rfl | rfl | rfl <;> rfl
  clear hq hA hF hM hmore hgood
  go_enter Tryz.func61, Tryz.ntmps61
  go_wp2_with (at_builtin; go_loud (rw [← hcs, ← hW0]; refine wpList_appendL rfl _ _ 110 rfl (w.heap.size + 1) 132 _ 3 24 elemNode _ _ _ rfl Hown0.out _ _ _ _ rfl HM.out Hone.out (by omega) (by simp; omega) ?_; intro v1 w1 hown1 hb1 hsz1 hg1 hblk1; have Hown1 := Lib.hid hown1; have Hb1 := Lib.hid hb1; have Hsz1 := Lib.hid hsz1; clear hown1 hb1 hsz1 hg1 hblk1))
  have HbA := Lib.hid (show Below (w.heap.size + 1) W0 w1 from ((Below.refl _ _).alloc (by omega) _).trans Hb1.out)
  have hs1 : w.heap.size < w1.heap.size := by have := HbA.out.size; omega
  have Hl0 := Lib.hid (show (allAt q l F more 0).length = 1 + more.length by simp [allAt]; omega)
  have HownA := Lib.hid (show w1.ownsRow (w.heap.size + 1) 132 3 v1 (allAt q l F more 0).length (encKs (allAt q l F more 0)) by
    rw [Hl0.out]
    have e : encKs (allAt q l F more 0) = [.int .i64 0, .int .i64 q.lo, .int .i64 q.hi] ++ encKs more := by simp [allAt, encKs_cons]
    rw [e]; exact Hown1.out)
  clear hW0
  go_loopw [9, 26] (fun v i wr => ∃ k : Nat, k ≤ l.length ∧ i = .int .i64 k ∧ Hid (wr.ownsRow (w.heap.size + 1) 132 3 v (allAt q l F more k).length (encKs (allAt q l F more k))) ∧ Hid (Below (w.heap.size + 1) W0 wr)) (fun _ i _ => l.length - (intOf i).toNat)
  case atStart => exact ⟨0, by omega, rfl, HownA, HbA⟩
  case round =>
    obtain ⟨k, hk, rfl, Ho, Hb⟩ := hrel
    have hsz : w.heap.size < wr.heap.size := by have := Hb.out.size; omega
    have Hlen := Lib.hid (show (allAt q l F more k).length = 1 + more.length + k by simp [allAt]; omega)
    have Hw := Lib.hid (show Below w.heap.size w wr from HB0.out.trans (Hb.out.mono (by omega)))
    by_cases hlt : k < l.length
    · have HAk := Lib.hid (HA.out.below_le Hw.out hB)
      obtain ⟨b, off, rfl, hbB, hcells⟩ := HAk.out (by omega)
      have h0 := hcells k hlt
      clear hcells
      have hbw : b < wr.heap.size := by omega
      have c0 : wr.cell? ⟨b, off + k * 3, none⟩ = some (.int .i64 l[k].g) := h0 0 _ rfl
      have c1 : wr.cell? ⟨b, off + k * 3 + 1, none⟩ = some (.int .i64 l[k].t) := h0 1 _ rfl
      have c2 : wr.cell? ⟨b, off + k * 3 + 2, none⟩ = some (.int .i64 l[k].v) := h0 2 _ rfl
      clear h0
      have Hr := Lib.hid (Hgood.out.r l[k] (List.getElem_mem hlt))
      obtain ⟨j, hj⟩ : ∃ j : Nat, l[k].g = (j : Int) := ⟨l[k].g.toNat, by have := Hr.out; omega⟩
      rw [hj] at c0
      have Hj := Lib.hid hj
      have hjl : j < q.gs.length := by have := Hr.out; omega
      clear hj
      have HS := Lib.hid (allAt_succ q l F more k hlt)
      have q6 : wr.cell? ⟨w.heap.size, 6, none⟩ = some (.slice q.gA q.gs.length q.gc) := (Hb.out.cell (p := ⟨w.heap.size, 6, none⟩) (by simp)).trans (Hq0.out 6 _ (by rw [hcs]; rfl))
      cases hc : F.any (fun y => (j : Int) == y)
      · have HK := Lib.hid (show rk q F l[k] = ⟨l[k].t, l[k].v - devi q.gs[j] l[k].t, l[k].v + devi q.gs[j] l[k].t⟩ by simp only [rk, Hj.out, hc, if_false, Bool.false_eq_true, Int.toNat_natCast, List.getD_eq_getElem?_getD, List.getElem?_eq_getElem hjl, Option.getD_some])
        go_wp2_with (first
          | (go_at_call 86; refine (anything_any _).mono ?_; rintro e w2 ⟨rfl, hb2⟩; have Hb2 := Lib.hid hb2; clear hb2; have hs2 : wr.heap.size < w2.heap.size := (by have := Hb2.out.size; simp at this; omega); have r0 := (Hb2.out.cell (p := ⟨wr.heap.size, 0, none⟩) (by simp)).trans (alloc_cell rfl); have r1 := (Hb2.out.cell (p := ⟨wr.heap.size, 1, none⟩) (by simp)).trans (alloc_cell rfl); have r2 := (Hb2.out.cell (p := ⟨wr.heap.size, 2, none⟩) (by simp)).trans (alloc_cell rfl); have Hw2 := Lib.hid (((Below.refl wr.heap.size wr).alloc (Nat.le_refl _) (.cells #[.int .i64 (j : Int), .int .i64 l[k].t, .int .i64 l[k].v] 55)).trans (Hb2.out.mono (by simp))); have HF2 := Lib.hid (((HF.out.below_le Hw.out hB).below_le Hw2.out (by omega)).below_le ((Below.refl w2.heap.size w2).alloc (Nat.le_refl _) (.cells #[.int .i64 (-4000000000), .int .i64 4000000000] 44)) (by omega)))
          | (go_at_call 95; refine (containsInt_any F _ F.length rfl AF cF B _ HF2.out (by simp; omega) (by omega)).mono ?_; rintro e w3 ⟨rfl, rfl⟩))
        have Hg := Lib.hid (Hgood.out.g q.gs[j] (List.getElem_mem hjl))
        obtain ⟨bg, og, hgA, hbgB, hgc⟩ := Hq.out.sl (by omega)
        have hbgw : bg < w.heap.size := by omega
        have g0 := (Hw2.out.cell (p := ⟨bg, og + j * 4, none⟩) (by simp; omega)).trans ((Hw.out.cell (p := ⟨bg, og + j * 4, none⟩) hbgw).trans (hgc j hjl 0 _ rfl))
        have g1 := (Hw2.out.cell (p := ⟨bg, og + j * 4 + 1, none⟩) (by simp; omega)).trans ((Hw.out.cell (p := ⟨bg, og + j * 4 + 1, none⟩) hbgw).trans (hgc j hjl 1 _ rfl))
        have g2 := (Hw2.out.cell (p := ⟨bg, og + j * 4 + 2, none⟩) (by simp; omega)).trans ((Hw.out.cell (p := ⟨bg, og + j * 4 + 2, none⟩) hbgw).trans (hgc j hjl 2 _ rfl))
        have g3 := (Hw2.out.cell (p := ⟨bg, og + j * 4 + 3, none⟩) (by simp; omega)).trans ((Hw.out.cell (p := ⟨bg, og + j * 4 + 3, none⟩) hbgw).trans (hgc j hjl 3 _ rfl))
        have qq := (Hw2.out.cell (p := ⟨w.heap.size, 6, none⟩) hsz).trans q6
        rw [hgA] at qq
        clear hgc hgA
        obtain ⟨W2, hW2⟩ : ∃ W2, W2 = w2.alloc (.cells #[.int .i64 (-4000000000), .int .i64 4000000000] 44) := ⟨_, rfl⟩
        have up : ∀ b o v, b < w2.heap.size → w2.cell? ⟨b, o, none⟩ = some v → W2.cell? ⟨b, o, none⟩ = some v := fun b o v hb h => by rw [hW2, World.cell?_alloc_lt _ _ _ hb]; exact h
        have hsW : w2.heap.size < W2.heap.size := by rw [hW2]; simp
        have m0 := later_cell (up _ _ _ (by omega) g0) (by omega)
        have m1 := later_cell (up _ _ _ (by omega) g1) (by omega)
        have m2 := later_cell (up _ _ _ (by omega) g2) (by omega)
        have m3 := later_cell (up _ _ _ (by omega) g3) (by omega)
        have m4 := later_cell (up _ _ _ (by omega) qq) (by omega)
        have m5 := later_cell (up _ _ _ hs2 r0) (by omega)
        have m6 := later_cell (up _ _ _ hs2 r1) (by omega)
        have m7 := later_cell (up _ _ _ hs2 r2) (by omega)
        have m8 := later_cell (w := W2) (b := w2.heap.size) (o := 0) (v := .int .i64 (-4000000000)) (by rw [hW2]; exact alloc_cell rfl) hsW
        have m9 := later_cell (w := W2) (b := w2.heap.size) (o := 1) (v := .int .i64 4000000000) (by rw [hW2]; exact alloc_cell rfl) hsW
        have ma := later_free (w := W2) (b := w2.heap.size) (o := 0) (v := false) (by rw [hW2]; exact alloc_free) hsW
        have mb := later_free (w := W2) (b := w2.heap.size) (o := 1) (v := false) (by rw [hW2]; exact alloc_free) hsW
        have HoW := Lib.hid (show W2.ownsRow (w.heap.size + 1) 132 3 u9 (allAt q l F more k).length (encKs (allAt q l F more k)) by rw [hW2]; exact (own_below (Ho.out.alloc _) Hb2.out).alloc _)
        have HbW := Lib.hid (show Below (w.heap.size + 1) W0 W2 by rw [hW2]; exact Hb.out.trans ((((Below.refl _ _).alloc (by omega) _).trans (Hb2.out.mono (by first | (simp; done) | (simp; omega)))).alloc (by omega) _))
        rw [← hW2]
        have hjI : (j : Int) < (q.gs.length : Int) := by omega
        have HW2 := Lib.hid hW2
        clear up hW2 qq g0 g1 g2 g3 r0 r1 r2 q6 c0 c1 c2
        have hdv := devi_bnd Hg.out (t := l[k].t) (by have := Hr.out; omega)
        have hv1 : wrap64 (l[k].v - devi q.gs[j] l[k].t) = l[k].v - devi q.gs[j] l[k].t := IntWalk.wrap64_in _ (by have := Hr.out; omega)
        have hv2 : wrap64 (l[k].v + devi q.gs[j] l[k].t) = l[k].v + devi q.gs[j] l[k].t := IntWalk.wrap64_in _ (by have := Hr.out; omega)
        have Hv1 := Lib.hid hv1
        have Hv2 := Lib.hid hv2
        clear hv1 hv2 hdv
        refine wp_region_later (by kernel_rfl) (by kernel_rfl) ?_
        repeat (any_goals (first | go_big_quiet_step ((go_at_call 48; exact later_call _ (deviation_any q.gs[j] l[k].t _ (by have := Hg.out; omega) (by have := Hg.out; omega) (by have := Hg.out; omega) (by have := Hg.out; omega) (by have := Hg.out; omega) (by have := Hg.out; omega) (by have := Hr.out; omega) (by have := Hr.out; omega)))) | quiet_step ((go_at_call 48; exact later_call _ (deviation_any q.gs[j] l[k].t _ (by have := Hg.out; omega) (by have := Hg.out; omega) (by have := Hg.out; omega) (by have := Hg.out; omega) (by have := Hg.out; omega) (by have := Hg.out; omega) (by have := Hr.out; omega) (by have := Hr.out; omega))))))
        refine wpQuiet_nil ?_
        rintro w' ⟨e, rfl⟩
        have hlt1 : ∀ k', u9.ownBlock = some k' → k' < w2.heap.size := own_lt (own_below (Ho.out.alloc _) Hb2.out)
        have HoE := Lib.hid (own_set (own_set (own_below HoW.out e.b) (p := ⟨w2.heap.size, 0, none⟩) (N := w2.heap.size) hlt1 (Nat.le_refl _) (.int .i64 (l[k].v - devi q.gs[j] l[k].t))) (p := ⟨w2.heap.size, 1, none⟩) (N := w2.heap.size) hlt1 (Nat.le_refl _) (.int .i64 (l[k].v + devi q.gs[j] l[k].t)))
        have HbE := Lib.hid (((HbW.out.trans (e.b.mono (by have := HbW.out.size; omega))).setCell (p := ⟨w2.heap.size, 0, none⟩) (show w.heap.size + 1 ≤ w2.heap.size by omega) (.int .i64 (l[k].v - devi q.gs[j] l[k].t))).setCell (p := ⟨w2.heap.size, 1, none⟩) (show w.heap.size + 1 ≤ w2.heap.size by omega) (.int .i64 (l[k].v + devi q.gs[j] l[k].t)))
        have hse : w.heap.size < e.w.heap.size := by have := e.b.size; omega
        go_wp2_with (at_builtin; go_loud (rw [Hv1.out, Hv2.out]; refine wpList_append1 rfl _ _ 110 rfl (w.heap.size + 1) 132 _ 3 24 elemNode _ _ _ rfl HoE.out #[.int .i64 l[k].t, .int .i64 (l[k].v - devi q.gs[j] l[k].t), .int .i64 (l[k].v + devi q.gs[j] l[k].t)] 1 _ rfl (by simp) rfl (by simp [Value.oneCell']) (by have := Hlen.out; omega) (by simp [World.setCell]; omega) ?_; intro v4 w4 hown4 hb4 hsz4 hg4 hblk4; have Hown4 := Lib.hid hown4; have Hb4 := Lib.hid hb4; have Hsz4 := Lib.hid hsz4; clear hown4 hb4 hsz4 hg4 hblk4))
        go_roundw
        case rel => exact ⟨k + 1, by omega, by go_num, Lib.hid (by rw [HS.out, HK.out, encKs_append, List.length_append]; exact Hown4.out), Lib.hid (HbE.out.trans Hb4.out)⟩
        case measure => simp [intOf]; omega
      · have HK := Lib.hid (show rk q F l[k] = ⟨l[k].t, -4000000000, 4000000000⟩ by simp only [rk, Hj.out, hc, if_true])
        go_wp2_with (first
          | (go_at_call 86; refine (anything_any _).mono ?_; rintro e w2 ⟨rfl, hb2⟩; have Hb2 := Lib.hid hb2; clear hb2; have hs2 : wr.heap.size < w2.heap.size := (by have := Hb2.out.size; simp at this; omega); have r0 := (Hb2.out.cell (p := ⟨wr.heap.size, 0, none⟩) (by simp)).trans (alloc_cell rfl); have r1 := (Hb2.out.cell (p := ⟨wr.heap.size, 1, none⟩) (by simp)).trans (alloc_cell rfl); have r2 := (Hb2.out.cell (p := ⟨wr.heap.size, 2, none⟩) (by simp)).trans (alloc_cell rfl); have Hw2 := Lib.hid (((Below.refl wr.heap.size wr).alloc (Nat.le_refl _) (.cells #[.int .i64 (j : Int), .int .i64 l[k].t, .int .i64 l[k].v] 55)).trans (Hb2.out.mono (by simp))); have HF2 := Lib.hid (((HF.out.below_le Hw.out hB).below_le Hw2.out (by omega)).below_le ((Below.refl w2.heap.size w2).alloc (Nat.le_refl _) (.cells #[.int .i64 (-4000000000), .int .i64 4000000000] 44)) (by omega)))
          | (go_at_call 95; refine (containsInt_any F _ F.length rfl AF cF B _ HF2.out (by simp; omega) (by omega)).mono ?_; rintro e w3 ⟨rfl, rfl⟩)
          | (at_builtin; refine wpList_append1 rfl _ _ 110 rfl (w.heap.size + 1) 132 _ 3 24 elemNode _ _ _ rfl ((own_below (Ho.out.alloc _) Hb2.out).alloc _) #[.int .i64 l[k].t, .int .i64 (-4000000000), .int .i64 4000000000] 1 _ rfl (by simp) rfl (by simp [Value.oneCell']) (by have := Hlen.out; omega) (by simp; omega) ?_; intro v4 w4 hown4 hb4 hsz4 hg4 hblk4; have Hown4 := Lib.hid hown4; have Hb4 := Lib.hid hb4; have Hsz4 := Lib.hid hsz4; clear hown4 hb4 hsz4 hg4 hblk4))
        go_roundw
        case rel => exact ⟨k + 1, by omega, by go_num, Lib.hid (by rw [HS.out, HK.out, encKs_append, List.length_append]; exact Hown4.out), Lib.hid (Hb.out.trans (((((Below.refl _ _).alloc (by omega) _).trans (Hb2.out.mono (by first | (simp; done) | (simp; omega)))).alloc (by omega) _).trans Hb4.out))⟩
        case measure => simp [intOf]; omega
    · obtain rfl : k = l.length := by omega
      rw [allAt_all] at Ho Hlen
      have hbnd := allK_t Hgood.out F Hmore.out
      have Hbnd := Lib.hid hbnd
      obtain ⟨L, hL⟩ := toBN hbnd
      obtain ⟨g, cap, rfl, hgb⟩ := own_form Ho.out (by have := Hlen.out; omega)
      have HoL := Lib.hid (show wr.ownsRow (w.heap.size + 1) 132 3 (.slice (some ⟨g, 0, none⟩) L.length cap) L.length (L.flatMap encBN) by
        rw [show L.length = (allK q l F more).length by rw [← hL, List.length_map], flat_bn, hL]; exact Ho.out)
      have HLl := Lib.hid (show L.length = 1 + more.length + l.length by rw [← Hlen.out, ← hL, List.length_map])
      have hLen : (allK q l F more).length = L.length := by rw [← hL, List.length_map]
      rw [hLen] at *
      go_wp2_with (go_at_call 96; refine (sortNodes_any L (w.heap.size + 1) g cap wr HoL.out (by have := HLl.out; omega)).mono ?_; rintro e w2 ⟨rfl, hs⟩; have Hs := Lib.hid hs; clear hs)
      obtain ⟨L', hp, hpw, hos, hgs⟩ := Hs.out
      obtain ⟨srt, hsrt⟩ : ∃ srt : List K, srt = L'.map bnVal := ⟨_, rfl⟩
      have Hperm := Lib.hid (show srt.Perm (allK q l F more) by rw [hsrt, ← hL]; exact hp.map _)
      have Hsorted := Lib.hid (show SortedK srt by rw [hsrt]; exact List.pairwise_map.2 hpw)
      have hsl : srt.length = L.length := by rw [hsrt, List.length_map, hp.length_eq]
      have HoS := Lib.hid (show w2.ownsRow (w.heap.size + 1) 132 3 (.slice (some ⟨g, 0, none⟩) L.length cap) L.length (encKs srt) by
        rw [hsrt, ← flat_bn]; exact hos)
      have Hw2 := Lib.hid (below_of_grown Hw.out hgs (by omega : w.heap.size ≤ g) (Nat.le_refl _))
      have hs2 : w.heap.size < w2.heap.size := by have := hgs.size; omega
      have HLl2 := Lib.hid (show srt.length ≤ 20 by have := HLl.out; omega)
      clear Hs hp hpw hos hgs hsrt HoL Ho hL hLen Hlen Hb Hw hsz hbnd Hbnd
      have HgL := Lib.hid (HoS.out.lt g rfl).2
      go_loopw [14, 66] (fun v i wr => ∃ k : Nat, k ≤ srt.length ∧ i = .int .i64 k ∧ Hid (wr.ownsRow w2.heap.size 132 3 v (mergedAt srt k).length (encKs (mergedAt srt k))) ∧ Hid (Below w2.heap.size w2 wr)) (fun _ i _ => srt.length - (intOf i).toNat)
      case atStart => exact ⟨0, by omega, rfl, Lib.hid (World.ownsRow_nil _ _ _ _), Lib.hid (Below.refl _ _)⟩
      case round =>
        obtain ⟨k, hk, rfl, Ho, Hb⟩ := hrel
        have hsz2 : w2.heap.size ≤ wr.heap.size := Hb.out.size
        have hgw : g < wr.heap.size := by have := HgL.out; omega
        by_cases hlt : k < srt.length
        · have hltI : (k : Int) < (L.length : Int) := by omega
          have HoR := Lib.hid (own_below HoS.out Hb.out)
          obtain ⟨c0, c1, c2⟩ := own_cells HoR.out (i := k) hlt
          have Hm := Lib.hid (mergedAt_len srt k hk)
          have HMS := Lib.hid (mergedAt_succ srt k hlt)
          have hk19 : k < 20 := by have := HLl2.out; omega
          by_cases h0 : (mergedAt srt k).length = 0
          · rw [h0] at Ho
            have Hnew := Lib.hid (HMS.out.trans (mstep_new (fun h => absurd h (by omega))))
            have h1 : ∃ A c, u14 = .slice A 0 c := by
              rcases Ho.out.2 with ⟨rfl, _⟩ | ⟨g', cap', cur, rfl, _⟩
              · exact ⟨_, _, rfl⟩
              · exact ⟨_, _, rfl⟩
            obtain ⟨A14, c14, rfl⟩ := h1
            have HoA := Lib.hid (Ho.out.alloc (.cells #[.int .i64 srt[k].t, .int .i64 srt[k].lo, .int .i64 srt[k].hi] 132))
            have H0L := Lib.hid h0
            clear h0
            go_wp2
            go_quiet (fail)
            go_wp2_with (at_builtin; refine wpList_append1 rfl _ _ 110 rfl w2.heap.size 132 _ 3 24 elemNode _ _ _ rfl (HoA.out) #[.int .i64 srt[k].t, .int .i64 srt[k].lo, .int .i64 srt[k].hi] 1 _ rfl (by simp) rfl (by simp [Value.oneCell']) (by have := Hm.out; omega) (by simp; omega) ?_; intro v4 w4 hown4 hb4 hsz4 hg4 hblk4; have Hown4 := Lib.hid hown4; have Hb4 := Lib.hid hb4; have Hsz4 := Lib.hid hsz4; clear hown4 hb4 hsz4 hg4 hblk4)

            go_roundw
            case rel => exact ⟨k + 1, by omega, by go_num, Lib.hid (by rw [Hnew.out, encKs_append, List.length_append, H0L.out]; exact Hown4.out), Lib.hid (Hb.out.trans (((below_drewN ((Below.refl _ _).alloc (by omega) _) _).trans (Hb4.out.mono (by first | (simp; done) | (simp; omega))))))⟩
            case measure => simp [intOf]; omega
          · obtain ⟨m, hm⟩ : ∃ m, (mergedAt srt k).length = m + 1 := ⟨(mergedAt srt k).length - 1, by omega⟩
            rw [hm] at Ho
            obtain ⟨g', cap', rfl, hg'⟩ := own_form Ho.out (by omega)
            obtain ⟨d0, d1, d2⟩ := own_cells Ho.out (i := m) (by omega)
            obtain ⟨X, hX⟩ : ∃ X, X = (mergedAt srt k)[m] := ⟨_, rfl⟩
            rw [← hX] at d0 d1 d2
            have HX := Lib.hid hX
            clear hX
            have hml : m ≤ 19 := by have := Hm.out; have := HLl2.out; omega
            have i1 : (m : Int) < (m : Int) + 1 := by omega
            have w1' : IntKind.i64.wrap ((m : Int) + 1 - 1) = (m : Int) := by rw [IntWalk.i64_in _ (by omega)]; omega
            have w7' : ((m : Int) + 1 - 1).toNat = m := by omega
            have hpos : decide ((0 : Int) < (m : Int) + 1) = true := by simp
            have hgw' : g' < wr.heap.size := (Ho.out.lt g' rfl).2
            have HmX := Lib.hid hm
            cases ht : (X.t == srt[k].t)
            · have Hnew := Lib.hid (HMS.out.trans (mstep_new (fun h e => by
                have e1 : (mergedAt srt k)[(mergedAt srt k).length - 1] = X := by rw [HX.out]; congr 1; omega
                rw [e1] at e; rw [e] at ht; simp at ht)))
              have HoA := Lib.hid (Ho.out.alloc (.cells #[.int .i64 srt[k].t, .int .i64 srt[k].lo, .int .i64 srt[k].hi] 132))
              have H0L := Lib.hid hm
              go_wp2
              go_quiet (fail)
              go_wp2_with (at_builtin; refine wpList_append1 rfl _ _ 110 rfl w2.heap.size 132 _ 3 24 elemNode _ _ _ rfl (HoA.out) #[.int .i64 srt[k].t, .int .i64 srt[k].lo, .int .i64 srt[k].hi] 1 _ rfl (by simp) rfl (by simp [Value.oneCell']) (by have := Hm.out; omega) (by simp; omega) ?_; intro v4 w4 hown4 hb4 hsz4 hg4 hblk4; have Hown4 := Lib.hid hown4; have Hb4 := Lib.hid hb4; have Hsz4 := Lib.hid hsz4; clear hown4 hb4 hsz4 hg4 hblk4)

              go_roundw
              case rel => exact ⟨k + 1, by omega, by go_num, Lib.hid (by rw [Hnew.out, encKs_append, List.length_append, H0L.out]; exact Hown4.out), Lib.hid (Hb.out.trans (((below_drewN ((Below.refl _ _).alloc (by omega) _) _).trans (Hb4.out.mono (by first | (simp; done) | (simp; omega))))))⟩
              case measure => simp [intOf]; omega
            · have Hnew := Lib.hid (show mergedAt srt (k + 1) = (mergedAt srt k).set m ⟨X.t, max X.lo srt[k].lo, min X.hi srt[k].hi⟩ by
                have e0 : (mergedAt srt k).length - 1 = m := by omega
                have e1 : (mergedAt srt k)[(mergedAt srt k).length - 1]'(by omega) = X := by rw [HX.out]; congr 1
                have e2 := HMS.out.trans (mstep_same (by omega) (by rw [e1]; simpa using ht))
                rw [e2, e1, e0]; rfl)
              go_wp2
              go_quiet (fail)
              go_wp2
              obtain ⟨W3, hW3⟩ : ∃ W3, W3 = (wr.alloc (.cells #[.int .i64 srt[k].t, .int .i64 srt[k].lo, .int .i64 srt[k].hi] 132)).drewN nq := ⟨_, rfl⟩
              rw [← hW3]
              have hs3 : wr.heap.size < W3.heap.size := by rw [hW3]; simp [World.drewN]
              have HoW := Lib.hid (show W3.ownsRow w2.heap.size 132 3 (.slice (some ⟨g', 0, none⟩) (m + 1) cap') (m + 1) (encKs (mergedAt srt k)) by rw [hW3]; exact Ho.out.alloc _)
              have HbW := Lib.hid (show Below w2.heap.size w2 W3 by rw [hW3]; exact below_drewN (Hb.out.alloc (by omega) _) _)
              obtain ⟨k0, k1, k2⟩ := own_cells HoW.out (i := m) (by omega)
              rw [← HX.out] at k0 k1 k2
              have m0 := later_cell k0 (by omega)
              have m1 := later_cell k1 (by omega)
              have m2 := later_cell k2 (by omega)
              have m3 := later_cell (w := W3) (b := wr.heap.size) (o := 0) (v := .int .i64 srt[k].t) (by rw [hW3]; exact alloc_cell rfl) hs3
              have m4 := later_cell (w := W3) (b := wr.heap.size) (o := 1) (v := .int .i64 srt[k].lo) (by rw [hW3]; exact alloc_cell rfl) hs3
              have m5 := later_cell (w := W3) (b := wr.heap.size) (o := 2) (v := .int .i64 srt[k].hi) (by rw [hW3]; exact alloc_cell rfl) hs3
              have m6 := later_free (HoW.out.frozenAt (m * 3 + 1)) (by omega)
              have m7 := later_free (HoW.out.frozenAt (m * 3 + 2)) (by omega)
              clear k0 k1 k2 hW3 d0 d1 d2 c0 c1 c2
              refine wp_region_later_tail 14 (by kernel_rfl) (by kernel_rfl) ?_
              simp only [List.take_succ_cons, List.take_zero, List.drop_succ_cons, List.drop_zero]
              repeat (any_goals (first | go_big_quiet_step ((go_at_call 93; exact later_call _ (meet_any _ _ _ _ _))) | quiet_step ((go_at_call 93; exact later_call _ (meet_any _ _ _ _ _)))))
              refine wpQuiet_nil ?_
              rintro w' ⟨e, rfl⟩
              have HoE := Lib.hid (own_below HoW.out e.b)
              have HoP := Lib.hid (own_put HoE.out (i := m) (by omega) (max X.lo srt[k].lo) (min X.hi srt[k].hi))
              have HbE := Lib.hid (((HbW.out.trans (e.b.mono (by omega))).setCell (p := ⟨g', m * 3 + 1, none⟩) hg' (.int .i64 (max X.lo srt[k].lo))).setCell (p := ⟨g', m * 3 + 2, none⟩) hg' (.int .i64 (min X.hi srt[k].hi)))
              go_wp2
              go_roundw
              case rel =>
                refine ⟨k + 1, by omega, by go_num, Lib.hid ?_, HbE⟩
                have e1 : (mergedAt srt (k + 1)).length = m + 1 := by rw [Hnew.out, List.length_set]; exact HmX.out
                rw [e1, Hnew.out]
                have := HoP.out.1
                rw [← HX.out] at this
                exact this
              case measure => simp [intOf]; omega
        · obtain rfl : k = srt.length := by omega
          have hml : 0 < (merged srt).length := (merged_inv srt Hsorted.out).pos (by have := HLl.out; omega)
          rw [mergedAt_all] at Ho
          obtain ⟨g', cap', rfl, hg'⟩ := own_form Ho.out hml
          go_wp2
          go_ret
          exact ⟨g', cap', srt, Hperm.out, Hsorted.out, rfl, own_mono Ho.out (by omega), Hw2.out.trans (Hb.out.mono (by omega))⟩
theorem nodes_any (q : Quantity) (l : List Reading) (F : List Int) (more : List K) (A AF AM : Option Addr) (c cF cM B : Nat) (w : World) (hq : QIn w B q) (hA : Sl w B 3 encR A l) (hF : Sl w B 1 encInt1 AF F) (hM : Src w 3 AM more.length (encKs more)) (hB : B ≤ w.heap.size)
    (hgood : Good q l) (hmore : ∀ x ∈ more, BndK 1000000000000 x) (hl : 1 + more.length + l.length ≤ 20) (hFl : F.length ≤ 8) :
    Calls Tryz.prog 61 #[.agg #[.string q.name, .int .i64 q.lo, .int .i64 q.hi, .int .i64 q.rise, .int .i64 q.fall, .int .i64 q.bad, .slice q.gA q.gs.length q.gc], .slice A l.length c, .slice AF F.length cF, .slice AM more.length cM] w (Nodes q l F more w) :=
  nodesT_any q l F more A AF AM c cF cM B w hq hA hF hM hB hgood (fun x hx => by have := hmore x hx; unfold BndK at this; omega) hl hFl
end Go.Proofs.YtcgnpndfhhcplaaGreatDoor
