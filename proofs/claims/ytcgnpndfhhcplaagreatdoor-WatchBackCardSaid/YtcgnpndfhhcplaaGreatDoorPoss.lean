/-
  Package watch's possible: the spans of all subsets, joined. Conditions: checked arguments, at most 18 readings.
  Plain: what may be at a time, worked out. No program.
  Package watch's Possible. Conditions: bounds; of valid readings at most 18.
-/
import Derived.Test.YtcgnpndfhhcplaaGreatDoorFrom
import Derived.Test.YtcgnpndfhhcplaaGreatDoorSorts
import Derived.Test.YtcgnpndfhhcplaaGreatDoorJoin
import Derived.LoopNIn
import Derived.LoopIn
import Derived.Test.YtcgnpndfhhcplaaGreatDoorChkQ
import Derived.Test.YtcgnpndfhhcplaaGreatDoorGood
namespace Go.Proofs.YtcgnpndfhhcplaaGreatDoor
open Go.RowKit W7
attribute [local go_sem] Oper.semAt_some
/-- what the nodes of a set say at a time -/
def SOk (q : Quantity) (l : List Reading) (t : Int) (F : List Int) (s : Span) : Prop :=
  Agree q.rise q.fall (allK q l F [⟨t, -4000000000, 4000000000⟩]) ∧ IsLo q.rise q.fall (allK q l F [⟨t, -4000000000, 4000000000⟩]) t s.lo ∧ IsHi q.rise q.fall (allK q l F [⟨t, -4000000000, 4000000000⟩]) t s.hi
theorem dn_bnd {r f s t : Int} (hr : 0 ≤ r ∧ r ≤ 10000) (hf : 0 ≤ f ∧ f ≤ 10000) (hs : 0 ≤ s ∧ s ≤ 100000) (ht : 0 ≤ t ∧ t ≤ 100000) : 0 ≤ dn r f s t ∧ dn r f s t ≤ 1000000000 := by
  unfold dn
  split
  · have h1 : 0 ≤ f * (t - s) := Int.mul_nonneg hf.1 (by omega)
    have h2 : f * (t - s) ≤ 10000 * (t - s) := Int.mul_le_mul_of_nonneg_right hf.2 (by omega)
    omega
  · have h1 : 0 ≤ r * (s - t) := Int.mul_nonneg hr.1 (by omega)
    have h2 : r * (s - t) ≤ 10000 * (s - t) := Int.mul_le_mul_of_nonneg_right hr.2 (by omega)
    omega
theorem SOk.bnd {q : Quantity} {l : List Reading} {t : Int} {F : List Int} {s : Span} (hg : Good q l) (ht : 0 ≤ t ∧ t ≤ 100000) (h : SOk q l t F s) : -2000000000000 ≤ s.lo ∧ s.lo ≤ 2000000000000 ∧ -2000000000000 ≤ s.hi ∧ s.hi ≤ 2000000000000 := by
  obtain ⟨_, ⟨⟨a, ha, e1⟩, _⟩, ⟨b, hb, e2⟩, _⟩ := h
  have hm : ∀ y ∈ ([⟨t, -4000000000, 4000000000⟩] : List K), BndK 1000000000000 y := fun y hy => by simp at hy; subst hy; unfold BndK; simp only; omega
  have h1 := allK_bnd hg F hm a ha
  have h2 := allK_bnd hg F hm b hb
  unfold BndK at h1 h2
  have d1 := dn_bnd (s := a.t) (t := t) hg.rise hg.fall ⟨h1.2.2.2.2.1, h1.2.2.2.2.2⟩ ht
  have d2 := dn_bnd (s := t) (t := b.t) hg.rise hg.fall ht ⟨h2.2.2.2.2.1, h2.2.2.2.2.2⟩
  omega
def OutS (q : Quantity) (l : List Reading) (t : Int) (Fs : List (List Int)) (sp : List Span) : Prop :=
  sp.length ≤ Fs.length ∧ (∀ s ∈ sp, ∃ F ∈ Fs, SOk q l t F s) ∧ ∀ F ∈ Fs, Agree q.rise q.fall (allK q l F [⟨t, -4000000000, 4000000000⟩]) → ∃ s ∈ sp, SOk q l t F s
def encSps (l : List Span) : List Value := l.flatMap encSp
theorem KeepI.put {B0 : Nat} (W : World) (l : Nat) (o o' : Obj) (h : W.heap[l]? = some o) (ho : o.isCells = false) : KeepI B0 W (W.putObj l o') :=
  ⟨by simp, fun b cs e fz _ h1 _ => by
    have : b ≠ l := fun e1 => by rw [e1, h] at h1; cases h1; simp [Obj.isCells] at ho
    rw [World.putObj_heap_other this]; exact h1⟩
theorem RY.put {B0 many n : Nat} {x : List Int × Value} (W : World) (l : Nat) (o o' : Obj) (h : W.heap[l]? = some o) (ho : o.isCells = false) (hr : RY B0 many n x W) : RY B0 many n x (W.putObj l o') := by
  obtain ⟨h1, h2, A, c, h3, h4, h5⟩ := hr
  exact ⟨h1, h2, A, c, h3, h4.keep (KeepI.put W l o o' h ho), h5⟩
theorem own_put_obj {W : World} {base e size k : Nat} {v : Value} {xs : List Value} (h : W.ownsRow base e size v k xs) {l : Nat} {o : Obj} (o' : Obj) (hl : W.heap[l]? = some o) (ho : o.isCells = false) : (W.putObj l o').ownsRow base e size v k xs := by
  refine h.kept (row := some l) ⟨rfl, rfl, rfl, by simp, fun i _ hne => World.putObj_heap_other (fun e => hne (by rw [e]))⟩ (.inr fun e => ?_)
  rcases h.2 with ⟨rfl, _⟩ | ⟨g, cap, cur, rfl, _, hc, _⟩
  · simp [Value.ownBlock] at e
  · simp [Value.ownBlock] at e
    subst e; rw [hl] at hc; cases hc; simp [Obj.isCells] at ho
/-- between two rounds -/
def PossI (q : Quantity) (l : List Reading) (t : Int) (B : Nat) (W0 : World) (ys : List (List Int × Value)) (W : World) : Prop :=
  ∃ sp : List Span, OutS q l t (ys.map Prod.fst) sp ∧ (∃ v, W.cell? ⟨B, 0, none⟩ = some v ∧ W.frozen? ⟨B, 0, none⟩ = false ∧ W.ownsRow W0.heap.size 44 2 v sp.length (encSps sp)) ∧ Below B W0 W
theorem own_cells_block {w : World} {base e size n : Nat} {v : Value} {xs : List Value} (h : w.ownsRow base e size v n xs) : ∀ k, v.ownBlock = some k → ∃ cs, w.heap[k]? = some (.cells cs e (0, 0)) := by
  intro k hk
  rcases h.2 with ⟨rfl, _⟩ | ⟨g, cap, cur, rfl, _, hc, _⟩
  · simp [Value.ownBlock] at hk
  · simp [Value.ownBlock] at hk
    subst hk
    exact ⟨cur, hc⟩
theorem possI_own {q : Quantity} {l : List Reading} {t : Int} {B : Nat} {W0 : World} (hB : B < W0.heap.size) : OwnFrom W0.heap.size (PossI q l t B W0) := by
  rintro ys W W' row ⟨sp, ho, ⟨v, h1, h2, h3⟩, hb⟩ hg hr
  have hsz := hb.size
  have hne : some B ≠ row := fun e => by have := (hr B e.symm).1; omega
  have hblk := hg.block B (by omega) hne
  refine ⟨sp, ho, ⟨v, by simp only [World.cell?] at h1 ⊢; rw [hblk]; exact h1, by simp only [World.frozen?] at h2 ⊢; rw [hblk]; exact h2, h3.kept hg ?_⟩, ⟨hg.os.trans hb.os, hg.tape.trans hb.tape, hg.output.trans hb.output, Nat.le_trans hsz hg.size, fun i hi => (hg.block i (by omega) (fun e => by have := (hr i e.symm).1; omega)).trans (hb.block i hi)⟩⟩
  cases hv : v.ownBlock with
  | none => exact .inl rfl
  | some k =>
    refine .inr fun e => ?_
    obtain ⟨cs, hc⟩ := own_cells_block h3 k hv
    obtain ⟨_, o, ho1, ho2⟩ := hr k e.symm
    rw [hc] at ho1; cases ho1; simp [Obj.isCells] at ho2
/-- what a round has kept that appended to the row and stored it -/
theorem round_kept {B0 b : Nat} {W Wk W5 : World} {base n : Nat} {v u : Value} {xs : List Value} (hb : Below W.heap.size W Wk) (ho : W.ownsRow base 44 2 v n xs) (hg : Wk.grownBy W5 v.ownBlock) (hbB : b < B0) :
    KeepsOthers W (W5.setCell ⟨b, 0, none⟩ u) ∧ KeepI B0 W (W5.setCell ⟨b, 0, none⟩ u) := by
  have hsz : W.heap.size ≤ W5.heap.size := Nat.le_trans hb.size hg.size
  have key : ∀ k o, W.heap[k]? = some o → v.ownBlock ≠ some k → W5.heap[k]? = some o := fun k o h1 h2 => by
    have hk := (Array.getElem?_eq_some_iff.1 h1).1
    exact (hg.block k (by have := hb.size; omega) (Ne.symm h2)).trans ((hb.block k hk).trans h1)
  constructor
  · refine KeepsOthers.trans (B := W5) ⟨hsz, fun k o h1 h2 => key k o h1 fun e => ?_⟩ (KeepsOthers.setCell _ _ _)
    obtain ⟨cs, hc⟩ := own_cells_block ho k e
    rw [hc] at h1; cases h1; simp [Obj.isCells] at h2
  · refine ⟨by simpa [World.setCell] using hsz, fun k cs e fz hk h1 he => ?_⟩
    have h2 := key k _ h1 fun e2 => by
      obtain ⟨cs', hc⟩ := own_cells_block ho k e2
      rw [hc] at h1; cases h1; exact he rfl
    rw [Below.heap_setCell _ _ _ _ (by simp; omega)]
    exact h2
theorem encSps_snoc (a : List Span) (s : Span) : encSps (a ++ [s]) = encSps a ++ [.int .i64 s.lo, .int .i64 s.hi] := by simp [encSps, encSp]
theorem elemSpan : Elem Tryz.prog 51 44 (.agg #[.int .i64 0, .int .i64 0]) 2 16 := Elem.mk' Tryz.underlying51 (by kernel_rfl) rfl (by decide) (by decide)
/-- what holds in the region that appends, whatever has come up -/
def R6 (q : Quantity) (l : List Reading) (t : Int) (A : Option Addr) (c many : Nat) (w W : World) (F : List Int) (A' : Option Addr) (c' g gb n cap : Nat) (lo hi : Int) (v v24 v25 v26 : Value) (L : Nat → Bool) (a' : Act) (w' : World) : Prop :=
  ∃ (e : Later W) (v32 v33 v34 v35 v36 : Value), w' = e.w ∧ a' = { tmps := #[.agg #[.string q.name, .int .i64 q.lo, .int .i64 q.hi, .int .i64 q.rise, .int .i64 q.fall, .int .i64 many, .slice q.gA q.gs.length q.gc], .slice A l.length c, .int .i64 t, .pointer (some ⟨w.heap.size, 0, none⟩), .pointer (some ⟨w.heap.size + 1, 0, none⟩), .pointer (some ⟨w.heap.size + 1 + 1, 0, none⟩), .slice none 0 0, .pointer (some ⟨w.heap.size + 1 + 1 + 1, 0, none⟩), .slice A' F.length c', .slice (some ⟨g, 0, none⟩) n cap, undef, undef, undef, undef, .pointer (some ⟨w.heap.size, 6, none⟩), .slice q.gA q.gs.length q.gc, .int .i64 q.gs.length, .pointer (some ⟨w.heap.size, 5, none⟩), .int .i64 many, .func (.func 90) #[] #[.pointer (some ⟨w.heap.size + 1 + 1 + 1 + 1 + 1, 0, none⟩), .pointer (some ⟨w.heap.size + 1 + 1 + 1 + 1, 0, none⟩)], .slice A' F.length c', .agg #[.string q.name, .int .i64 q.lo, .int .i64 q.hi, .int .i64 q.rise, .int .i64 q.fall, .int .i64 many, .slice q.gA q.gs.length q.gc], .slice A l.length c, .slice A' F.length c', v24, v25, v26, .slice (some ⟨gb, 0, none⟩) 1 1, .slice (some ⟨g, 0, none⟩) n cap, .agg #[.string q.name, .int .i64 q.lo, .int .i64 q.hi, .int .i64 q.rise, .int .i64 q.fall, .int .i64 many, .slice q.gA q.gs.length q.gc], .slice (some ⟨g, 0, none⟩) n cap, .bool true, v32, v33, v34, v35, v36, undef, undef, undef, undef, undef, undef, undef, undef, undef, undef, undef, undef, undef, undef, undef, undef, undef, undef, undef, undef, undef, undef, undef, undef, undef, undef, undef, undef, undef, undef, undef, undef, undef, undef, undef, undef, undef, undef, undef, undef, undef, undef, undef, undef, undef], defers := [] } ∧
    (L 0 = true → v32 = v) ∧ (L 1 = true → v33 = .slice (some ⟨g, 0, none⟩) n cap) ∧ (L 2 = true → v34 = .int .i64 t) ∧ (L 3 = true → v35 = .agg #[.int .i64 lo, .int .i64 hi]) ∧ (L 4 = true → Hid (∃ gc, v36 = .slice (some ⟨gc, 0, none⟩) 1 1 ∧ gc < e.w.heap.size ∧ e.w.cell? ⟨gc, 0, none⟩ = some (.int .i64 lo) ∧ e.w.cell? ⟨gc, 1, none⟩ = some (.int .i64 hi)))
theorem sl_of_own {W : World} {base e n g cap B : Nat} {xs : List K} (h : W.ownsRow base e 3 (.slice (some ⟨g, 0, none⟩) n cap) n (encKs xs)) (hg : g < B) : Sl W B 3 encK (some ⟨g, 0, none⟩) xs := fun h0 => ⟨g, 0, rfl, hg, fun j hj i v hv => by
  obtain ⟨c0, c1, c2⟩ := own_cells h hj
  rcases i with _ | _ | _ | i
  · simp [encK] at hv; subst hv; simpa using c0
  · simp [encK] at hv; subst hv; simpa using c1
  · simp [encK] at hv; subst hv; simpa using c2
  · simp [encK] at hv⟩
theorem subsN_len (many : Nat) : ∀ (k a : Nat) (h : List Int), (subsN many k a h).length ≤ 2 ^ k
  | 0, _, h => by unfold subsN; split <;> simp
  | k + 1, a, h => by
    unfold subsN
    split
    · simp; exact Nat.one_le_two_pow
    · have h1 := subsN_len many k (a + 1) (h ++ [(a : Int)])
      have h2 := subsN_len many k (a + 1) h
      rw [List.length_append, Nat.pow_succ]; omega
theorem own_slice {w : World} {base e size n : Nat} {v : Value} {xs : List Value} (h : w.ownsRow base e size v n xs) : ∃ A c, v = .slice A n c ∧ (0 < n → ∃ g, A = some ⟨g, 0, none⟩) := by
  rcases h.2 with ⟨rfl, rfl⟩ | ⟨g, cap, cur, rfl, _⟩
  · exact ⟨_, _, rfl, fun h => absurd h (by omega)⟩
  · exact ⟨_, _, rfl, fun _ => ⟨g, rfl⟩⟩
theorem box_grown {W w2 : World} {b base e size n : Nat} {v u : Value} {xs : List Value} (hg : W.grownBy w2 v.ownBlock) (ho : W.ownsRow base e size v n xs) (hb : b < base) (h : W.cell? ⟨b, 0, none⟩ = some u) : w2.cell? ⟨b, 0, none⟩ = some u := by
  have hlt : b < W.heap.size := World.block_lt_of_cell? W _ h
  have := hg.block b hlt (fun e1 => by have := (ho.lt b e1.symm).1; omega)
  simp only [World.cell?] at h ⊢
  rw [this]; exact h
theorem encSps_len (l : List Span) : (encSps l).length = l.length * 2 := flatMap_len (enc := encSp) (k := 2) (fun _ => rfl) l
theorem encSps_0 {l : List Span} {i : Nat} (hi : i < l.length) : (encSps l)[i * 2]? = some (.int .i64 l[i].lo) := flatMap_get (enc := encSp) (k := 2) (fun _ => rfl) l i 0 hi (by omega)
theorem encSps_1 {l : List Span} {i : Nat} (hi : i < l.length) : (encSps l)[i * 2 + 1]? = some (.int .i64 l[i].hi) := flatMap_get (enc := encSp) (k := 2) (fun _ => rfl) l i 1 hi (by omega)
theorem own_cellsS {w : World} {base g cap n e : Nat} {l : List Span} (h : w.ownsRow base e 2 (.slice (some ⟨g, 0, none⟩) n cap) n (encSps l)) {i : Nat} (hi : i < l.length) :
    w.cell? ⟨g, i * 2, none⟩ = some (.int .i64 l[i].lo) ∧ w.cell? ⟨g, i * 2 + 1, none⟩ = some (.int .i64 l[i].hi) := by
  have hn : n * 2 = l.length * 2 := by have := h.1; rw [encSps_len] at this; omega
  exact ⟨(h.cellAt _ (by omega)).trans (encSps_0 hi), (h.cellAt _ (by omega)).trans (encSps_1 hi)⟩
theorem encSps_set : ∀ (l : List Span) (i : Nat) (hi : i < l.length) (b : Int), (encSps l).set (i * 2 + 1) (.int .i64 b) = encSps (l.set i ⟨l[i].lo, b⟩)
  | [], _, h, _ => absurd h (by simp)
  | x :: l, 0, _, b => rfl
  | x :: l, i + 1, h, b => by
    have ih := encSps_set l i (by simpa using h) b
    show ([Value.int .i64 x.lo, .int .i64 x.hi] ++ encSps l).set ((i + 1) * 2 + 1) _ = [Value.int .i64 x.lo, .int .i64 x.hi] ++ encSps (l.set i _)
    rw [show (i + 1) * 2 + 1 = (i * 2 + 1) + 1 + 1 by omega]
    simp only [List.cons_append, List.nil_append, List.set_cons_succ]
    rw [ih]; rfl
theorem own_putS {w : World} {base g cap n e : Nat} {l : List Span} (h : w.ownsRow base e 2 (.slice (some ⟨g, 0, none⟩) n cap) n (encSps l)) {i : Nat} (hi : i < l.length) (b : Int) :
    (w.setCell ⟨g, i * 2 + 1, none⟩ (.int .i64 b)).ownsRow base e 2 (.slice (some ⟨g, 0, none⟩) n cap) n (encSps (l.set i ⟨l[i].lo, b⟩)) := by
  obtain ⟨h1, _⟩ := h.stored (i * 2 + 1) (.int .i64 b)
  rw [encSps_set l i hi] at h1
  exact h1
theorem keeps_of_below {A C : World} (h : Below A.heap.size A C) : KeepsOthers A C := ⟨h.size, fun k _ h1 _ => (h.block k (Array.getElem?_eq_some_iff.1 h1).1).trans h1⟩
theorem OutS.none {q : Quantity} {l : List Reading} {t : Int} {Fs : List (List Int)} {sp : List Span} (h : OutS q l t Fs sp) {F : List Int} (hF : ¬ Agree q.rise q.fall (allK q l F [⟨t, -4000000000, 4000000000⟩])) : OutS q l t (Fs ++ [F]) sp := by
  refine ⟨by have := h.1; simp; omega, fun s hs => ?_, fun G hG ha => ?_⟩
  · obtain ⟨G, hG, ho⟩ := h.2.1 s hs
    exact ⟨G, by simp [hG], ho⟩
  · rcases List.mem_append.1 hG with hG | hG
    · exact h.2.2 G hG ha
    · simp at hG; subst hG; exact absurd ha hF
theorem OutS.snoc {q : Quantity} {l : List Reading} {t : Int} {Fs : List (List Int)} {sp : List Span} (h : OutS q l t Fs sp) {F : List Int} {s : Span} (hs : SOk q l t F s) : OutS q l t (Fs ++ [F]) (sp ++ [s]) := by
  refine ⟨by have := h.1; simp; omega, fun s' hs' => ?_, fun G hG ha => ?_⟩
  · rcases List.mem_append.1 hs' with h1 | h1
    · obtain ⟨G, hG, ho⟩ := h.2.1 s' h1
      exact ⟨G, by simp [hG], ho⟩
    · simp at h1; subst h1; exact ⟨F, by simp, hs⟩
  · rcases List.mem_append.1 hG with hG | hG
    · obtain ⟨s', h1, h2⟩ := h.2.2 G hG ha
      exact ⟨s', by simp [h1], h2⟩
    · simp at hG; subst hG; exact ⟨s, by simp, hs⟩
/-- what holds in the region that calls nodes, whatever has come up -/
def R4 (q : Quantity) (l : List Reading) (t : Int) (A : Option Addr) (c many : Nat) (w W : World) (F : List Int) (A' : Option Addr) (c' : Nat) (L : Nat → Bool) (a' : Act) (w' : World) : Prop :=
  ∃ (e : Later W) (v21 v22 v23 v24 v25 v26 v27 : Value), w' = e.w ∧ a' = { tmps := #[.agg #[.string q.name, .int .i64 q.lo, .int .i64 q.hi, .int .i64 q.rise, .int .i64 q.fall, .int .i64 many, .slice q.gA q.gs.length q.gc], .slice A l.length c, .int .i64 t, .pointer (some ⟨w.heap.size, 0, none⟩), .pointer (some ⟨w.heap.size + 1, 0, none⟩), .pointer (some ⟨w.heap.size + 1 + 1, 0, none⟩), .slice none 0 0, .pointer (some ⟨w.heap.size + 1 + 1 + 1, 0, none⟩), .slice A' F.length c', undef, undef, undef, undef, undef, .pointer (some ⟨w.heap.size, 6, none⟩), .slice q.gA q.gs.length q.gc, .int .i64 q.gs.length, .pointer (some ⟨w.heap.size, 5, none⟩), .int .i64 many, .func (.func 90) #[] #[.pointer (some ⟨w.heap.size + 1 + 1 + 1 + 1 + 1, 0, none⟩), .pointer (some ⟨w.heap.size + 1 + 1 + 1 + 1, 0, none⟩)], .slice A' F.length c', v21, v22, v23, v24, v25, v26, v27, undef, undef, undef, undef, undef, undef, undef, undef, undef, undef, undef, undef, undef, undef, undef, undef, undef, undef, undef, undef, undef, undef, undef, undef, undef, undef, undef, undef, undef, undef, undef, undef, undef, undef, undef, undef, undef, undef, undef, undef, undef, undef, undef, undef, undef, undef, undef, undef, undef, undef, undef, undef, undef, undef], defers := [] } ∧
    (L 0 = true → v21 = .agg #[.string q.name, .int .i64 q.lo, .int .i64 q.hi, .int .i64 q.rise, .int .i64 q.fall, .int .i64 many, .slice q.gA q.gs.length q.gc]) ∧ (L 1 = true → v22 = .slice A l.length c) ∧ (L 2 = true → v23 = .slice A' F.length c') ∧ (L 3 = true → v24 = .int .i64 t) ∧ (L 4 = true → v25 = .agg #[.int .i64 (-4000000000), .int .i64 4000000000]) ∧ (L 5 = true → v26 = .agg #[.int .i64 t, .int .i64 (-4000000000), .int .i64 4000000000]) ∧ (L 6 = true → Hid (∃ gb, v27 = .slice (some ⟨gb, 0, none⟩) 1 1 ∧ gb < e.w.heap.size ∧ e.w.cell? ⟨gb, 0, none⟩ = some (.int .i64 t) ∧ e.w.cell? ⟨gb, 1, none⟩ = some (.int .i64 (-4000000000)) ∧ e.w.cell? ⟨gb, 2, none⟩ = some (.int .i64 4000000000)))
theorem SOk.le {q : Quantity} {l : List Reading} {t : Int} {F : List Int} {s : Span} (hr : 0 ≤ q.rise) (hf : 0 ≤ q.fall) (h : SOk q l t F s) : s.lo ≤ s.hi := by
  obtain ⟨hag, ⟨⟨a, ha, e1⟩, _⟩, ⟨b, hb, e2⟩, _⟩ := h
  have h1 := hag a ha b hb
  have h2 := dn_tri q.rise q.fall a.t t b.t hr hf
  omega
/-- as few spans as can be, of what the nodes of some set say at a time -/
def PossV (q : Quantity) (l : List Reading) (t : Int) (many : Nat) (sp : List Span) : Prop :=
  Canon sp ∧ ∀ x, InS sp x ↔ ∃ F ∈ subsN many q.gs.length 0 [], ∃ s, SOk q l t F s ∧ s.lo ≤ x ∧ x ≤ s.hi
def PossP (q : Quantity) (l : List Reading) (t : Int) (many : Nat) (w : World) (e : Ending) (w' : World) : Prop :=
  ∃ (v : Value) (sp : List Span), e = .returned v ∧ PossV q l t many sp ∧ sp.length ≤ 256 ∧ (∀ s ∈ sp, -2000000000000 ≤ s.lo ∧ s.lo ≤ 2000000000000 ∧ -2000000000000 ≤ s.hi ∧ s.hi ≤ 2000000000000) ∧
    w'.ownsRow w.heap.size 44 2 v sp.length (encSps sp) ∧ Below w.heap.size w w'
set_option maxHeartbeats 400000 in
set_option maxRecDepth 100000 in
theorem possible_any (q : Quantity) (l : List Reading) (t : Int) (A : Option Addr) (c B : Nat) (w : World) (hq : QIn w B q) (hA : Sl w B 3 encR A l) (hB : B ≤ w.heap.size) (hgood : Good q l) (ht : 0 ≤ t ∧ t ≤ 100000) (hl : l.length ≤ 18) (many : Nat) (hbad : q.bad = many) (hmany : many ≤ q.gs.length) :
    Calls Tryz.prog 58 #[.agg #[.string q.name, .int .i64 q.lo, .int .i64 q.hi, .int .i64 q.rise, .int .i64 q.fall, .int .i64 q.bad, .slice q.gA q.gs.length q.gc], .slice A l.length c, .int .i64 t] w (PossP q l t many w) := by
  refine (callsIn_wide (n := 9)).1 ?_
  refine callsIn_of_wp_marks Tryz.func58 rfl trivial ?_ rfl
  simp only [Tryz.ntmps58, List.size_toArray, List.length_cons, List.length_nil, Nat.reduceAdd, Nat.reduceSub, Array.replicate_succ, Array.replicate_zero, List.push_toArray, List.append_toArray, List.nil_append, List.cons_append]
  obtain ⟨cs, hcs⟩ : ∃ cs : Array Value, cs = #[.string q.name, .int .i64 q.lo, .int .i64 q.hi, .int .i64 q.rise, .int .i64 q.fall, .int .i64 many, .slice q.gA q.gs.length q.gc] := ⟨_, rfl⟩
  rw [hbad]
  have Hq := Lib.hid hq
  have HA := Lib.hid hA
  have Hgood := Lib.hid hgood
  have hgl := hgood.gl
  clear hq hA hgood
  gi_wp2_with ((try refine ⟨trivial, ?_⟩); gi_at_call 59; refine (callsIn_wide.2 (subsets_any q.gs.length many _)).mono ?_; rintro e w1 ⟨rfl, rfl⟩)
  rw [← hcs]
  obtain ⟨W3, hW3⟩ : ∃ W3, W3 = (((w.alloc (.cells cs 47)).alloc (.cells #[.slice A l.length c] 56)).alloc (.cells #[.int .i64 t] 3)).alloc (.cells #[.slice none 0 0] 51) := ⟨_, rfl⟩
  obtain ⟨W0, hW0⟩ : ∃ W0, W0 = (W3.alloc (.cells #[.int .i64 q.gs.length] 3)).alloc (.cells #[.int .i64 many] 3) := ⟨_, rfl⟩
  rw [← hW3, ← hW0]
  have hs3 : W3.heap.size = w.heap.size + 1 + 1 + 1 + 1 := by rw [hW3]; simp
  have hs0 : W0.heap.size = w.heap.size + 1 + 1 + 1 + 1 + 1 + 1 := by rw [hW0]; simp [hs3]
  have hB30 : Below W3.heap.size W3 W0 := by rw [hW0]; exact ((Below.refl _ _).alloc (Nat.le_refl _) _).alloc (by simp) _
  have hmb : W0.heap[w.heap.size + 1 + 1 + 1 + 1 + 1]? = some (.cells #[.int .i64 many] 3 (0, 0)) := by
    rw [hW0, ← hs3]
    have := World.alloc_heap_new (W3.alloc (.cells #[.int .i64 q.gs.length] 3)) (.cells #[.int .i64 many] 3)
    rwa [World.size_alloc] at this
  have hnb : W0.heap[w.heap.size + 1 + 1 + 1 + 1]? = some (.cells #[.int .i64 q.gs.length] 3 (0, 0)) := by
    rw [hW0, ← hs3]
    exact (Below.heap_alloc _ _ _ (by simp)).trans (World.alloc_heap_new W3 _)
  have d4 : W0.cell? ⟨w.heap.size + 1 + 1 + 1, 0, none⟩ = some (.slice none 0 0) := (hB30.cell (p := ⟨w.heap.size + 1 + 1 + 1, 0, none⟩) (by simp; omega)).trans (by rw [hW3]; have := alloc_cell (w := ((w.alloc (.cells cs 47)).alloc (.cells #[.slice A l.length c] 56)).alloc (.cells #[.int .i64 t] 3)) (cs := #[.slice none 0 0]) (e := 51) (j := 0) rfl; simpa using this)
  have d4f : W0.frozen? ⟨w.heap.size + 1 + 1 + 1, 0, none⟩ = false := (hB30.frozen (p := ⟨w.heap.size + 1 + 1 + 1, 0, none⟩) (by simp; omega)).trans (by rw [hW3]; have := alloc_free (w := ((w.alloc (.cells cs 47)).alloc (.cells #[.slice A l.length c] 56)).alloc (.cells #[.int .i64 t] 3)) (cs := #[.slice none 0 0]) (e := 51) (j := 0); simpa using this)
  have Hs0 := Lib.hid hs0
  have Hw3 := Lib.hid (show Below w.heap.size w W3 by rw [hW3]; exact ((((Below.refl w.heap.size w).alloc (Nat.le_refl _) _).alloc (by simp) _).alloc (by simp; omega) _).alloc (by simp; omega) _)
  have Hw0 := Lib.hid (show Below w.heap.size w W0 from Hw3.out.trans (hB30.mono (by omega)))
  have He0 : Hid (∀ j v, cs[j]? = some v → W0.cell? ⟨w.heap.size, j, none⟩ = some v) := fun j v hv => (hB30.cell (p := ⟨w.heap.size, j, none⟩) (by simp; omega)).trans (by
    rw [hW3, World.cell?_alloc_lt _ _ _ (by simp; omega), World.cell?_alloc_lt _ _ _ (by simp; omega), World.cell?_alloc_lt _ _ _ (by simp)]; exact alloc_cell hv)
  have He1 : Hid (W0.cell? ⟨w.heap.size + 1, 0, none⟩ = some (.slice A l.length c)) := (hB30.cell (p := ⟨w.heap.size + 1, 0, none⟩) (by simp; omega)).trans (by
    rw [hW3, World.cell?_alloc_lt _ _ _ (by simp), World.cell?_alloc_lt _ _ _ (by simp)]; simp)
  have He2 : Hid (W0.cell? ⟨w.heap.size + 1 + 1, 0, none⟩ = some (.int .i64 t)) := (hB30.cell (p := ⟨w.heap.size + 1 + 1, 0, none⟩) (by simp; omega)).trans (by
    rw [hW3, World.cell?_alloc_lt _ _ _ (by simp)]; have := alloc_cell (w := (w.alloc (.cells cs 47)).alloc (.cells #[.slice A l.length c] 56)) (cs := #[.int .i64 t]) (e := 3) (j := 0) rfl; simpa using this)
  refine wpIn_rangeFunc_R (gf := 90) rfl (enters_of Tryz.func90 (by kernel_rfl) rfl) (subsets_seq q.gs.length many (w.heap.size + 1 + 1 + 1 + 1) (w.heap.size + 1 + 1 + 1 + 1 + 1) (w.heap.size + 1 + 1 + 1 + 1) W0 (by omega) (by omega) ⟨by omega, hmb⟩ ⟨by omega, hnb⟩) KeepI.trans (fun W l o o' _ h ho => KeepI.put W l o o' h ho) (fun x W l o o' _ h ho hr => RY.put W l o o' h ho hr) (Below.refl _ _) (fun _ => rfl)
    (PossI q l t (w.heap.size + 1 + 1 + 1) W0) (fun _ _ _ => False) (possI_own (by omega)) (fun _ _ _ _ _ h _ _ => h.elim) ⟨[], ⟨by simp, by simp, by simp⟩, ⟨_, d4, d4f, World.ownsRow_nil _ _ _ _⟩, Below.refl _ _⟩
    (fun x => { tmps := #[.agg #[.string q.name, .int .i64 q.lo, .int .i64 q.hi, .int .i64 q.rise, .int .i64 q.fall, .int .i64 many, .slice q.gA q.gs.length q.gc], .slice A l.length c, .int .i64 t, .pointer (some ⟨w.heap.size, 0, none⟩), .pointer (some ⟨w.heap.size + 1, 0, none⟩), .pointer (some ⟨w.heap.size + 1 + 1, 0, none⟩), .slice none 0 0, .pointer (some ⟨w.heap.size + 1 + 1 + 1, 0, none⟩), x.2, undef, undef, undef, undef, undef, .pointer (some ⟨w.heap.size, 6, none⟩), .slice q.gA q.gs.length q.gc, .int .i64 q.gs.length, .pointer (some ⟨w.heap.size, 5, none⟩), .int .i64 many, .func (.func 90) #[] #[.pointer (some ⟨w.heap.size + 1 + 1 + 1 + 1 + 1, 0, none⟩), .pointer (some ⟨w.heap.size + 1 + 1 + 1 + 1, 0, none⟩)], x.2, undef, undef, undef, undef, undef, undef, undef, undef, undef, undef, undef, undef, undef, undef, undef, undef, undef, undef, undef, undef, undef, undef, undef, undef, undef, undef, undef, undef, undef, undef, undef, undef, undef, undef, undef, undef, undef, undef, undef, undef, undef, undef, undef, undef, undef, undef, undef, undef, undef, undef, undef, undef, undef, undef, undef, undef, undef, undef, undef, undef, undef], defers := [] }) ?assign ?body ?done ?stop
  case assign =>
    intro lp m x W K hK
    gi_wp2
    exact hK
  case stop => intro D c pre W _ _ h; exact h.elim
  case done =>
    clear hW0 hW3 hmb hnb hs3 d4 d4f hB30
    rintro D ys W hD hS ⟨sp, hout, ⟨v, hv1, hv2, hv3⟩, hb⟩ hK
    have hspb : ∀ s ∈ sp, -2000000000000 ≤ s.lo ∧ s.lo ≤ 2000000000000 ∧ -2000000000000 ≤ s.hi ∧ s.hi ≤ 2000000000000 := fun s hs => by
      obtain ⟨F, _, h⟩ := hout.2.1 s hs
      exact h.bnd Hgood.out ht
    have hspl : sp.length ≤ 256 := by
      have h1 := hout.1
      rw [hS] at h1
      have h2 := subsN_len many q.gs.length 0 []
      have h3 : 2 ^ q.gs.length ≤ 2 ^ 8 := Nat.pow_le_pow_right (by omega) hgl
      omega
    have HV := Lib.hid (show ∀ srt : List Span, srt.Perm sp → (srt.Pairwise fun a b => a.lo ≤ b.lo) → PossV q l t many (joinL srt) from fun srt hp hpw => by
      have hG := Hgood.out
      obtain ⟨h1, h2⟩ := joinL_canon srt hpw fun s hs => by
        obtain ⟨F, _, h⟩ := hout.2.1 s (hp.mem_iff.1 hs)
        exact h.le hG.rise.1 hG.fall.1
      refine ⟨h1, fun x => (h2 x).trans ⟨?_, ?_⟩⟩
      · rintro ⟨s, hs, hx⟩
        obtain ⟨F, hF, h⟩ := hout.2.1 s (hp.mem_iff.1 hs)
        exact ⟨F, by rw [← hS]; exact hF, s, h, hx⟩
      · rintro ⟨F, hF, s, h, hx1, hx2⟩
        rw [← hS] at hF
        obtain ⟨s', hs', h'⟩ := hout.2.2 F hF h.1
        have e1 := h.2.1.unique _ _ h'.2.1
        have e2 := h.2.2.unique _ _ h'.2.2
        exact ⟨s', hp.mem_iff.2 hs', by omega, by omega⟩)
    have hDW : D < W.heap.size := (Array.getElem?_eq_some_iff.1 hK).1
    have Hne := Lib.hid (show some D ≠ v.ownBlock from fun e => by
      obtain ⟨cs', hc⟩ := own_cells_block hv3 D e.symm
      rw [hc] at hK; cases hK)
    obtain ⟨Av, cv, rfl, hAv⟩ := own_slice hv3
    have HK := Lib.hid hK
    clear hK
    have Hbw := Lib.hid (Hw0.out.trans (hb.mono (by omega)))
    have HSort := Lib.hid (callsIn_wide (n := 8).2 (sortAll_any sp (fun s hs => by have := hspb s hs; omega) (by omega) W0.heap.size _ W hv3))
    gi_wp2_with ((try refine ⟨trivial, ?_⟩); gi_at_call 88; refine HSort.out.mono ?_; rintro e w2 ⟨rfl, srt, hp, hpw, ho2, hg2⟩; have x2 := box_grown hg2 hv3 (b := w.heap.size + 1 + 1 + 1) (by omega) hv1)
    have HK2 := Lib.hid ((hg2.block D hDW Hne.out).trans HK.out)
    have Hbw2 := Lib.hid (show Below w.heap.size w w2 from Below.grown Hbw.out hg2 (by have := Hbw.out.size; omega) (fun k hk => by have := (hv3.lt k hk).1; omega))
    clear hv1 hv2 hb hout
    gi_loopw [10, 42] (fun v i wr => ∃ k : Nat, k ≤ srt.length ∧ i = .int .i64 k ∧ Hid (wr.ownsRow w2.heap.size 44 2 v (joinAt srt k).length (encSps (joinAt srt k))) ∧ Hid (Below w2.heap.size w2 wr)) (fun _ i _ => srt.length - (intOf i).toNat)
    case atStart => exact ⟨0, by omega, rfl, Lib.hid (World.ownsRow_nil _ _ _ _), Lib.hid (Below.refl _ _)⟩
    case round =>
      obtain ⟨k, hk, rfl, Ho, Hb2⟩ := hrel
      have hpl := hp.length_eq
      have hsz2 := Hb2.out.size
      have Hp := Lib.hid hp
      have hp0 : ∀ {s}, s ∈ srt → s ∈ sp := fun h => hp.mem_iff.1 h
      have Hpw := Lib.hid hpw
      by_cases hlt : k < srt.length
      · obtain ⟨g, rfl⟩ := hAv (by omega)
        have hgw : g < wr.heap.size := by have := (ho2.lt g rfl).2; omega
        obtain ⟨c0, c1⟩ := own_cellsS (own_below ho2 Hb2.out) (i := k) hlt
        have hltI : (k : Int) < (sp.length : Int) := by omega
        have Hm := Lib.hid (joinAt_len srt k hk)
        have HMS := Lib.hid (joinAt_succ srt k hlt)
        clear hp hpw
        have hk19 : k < 256 := by omega
        have hsb := hspb srt[k] (hp0 (List.getElem_mem hlt))
        refine wpIn_wide.2 ?_
        by_cases h0 : (joinAt srt k).length = 0
        · rw [h0] at Ho
          have Hnew := Lib.hid (HMS.out.trans (jstep_new (fun h => absurd h (by omega))))
          obtain ⟨A10, c10, rfl, _⟩ := own_slice Ho.out
          have HoA := Lib.hid (Ho.out.alloc (.cells #[.int .i64 srt[k].lo, .int .i64 srt[k].hi] 44))
          have H0L := Lib.hid h0
          clear h0
          go_wp2
          go_quiet (fail)
          go_wp2_with (at_builtin; refine wpList_append1 rfl _ _ 51 rfl w2.heap.size 44 _ 2 16 elemSpan _ _ _ rfl (HoA.out) #[.int .i64 srt[k].lo, .int .i64 srt[k].hi] 1 _ rfl (by simp) rfl (by simp [Value.oneCell']) (by have := Hm.out; omega) (by simp; omega) ?_; intro v4 w4 hown4 hb4 hsz4 hg4 hblk4; have Hown4 := Lib.hid hown4; have Hb4 := Lib.hid hb4; have Hsz4 := Lib.hid hsz4; clear hown4 hb4 hsz4 hg4 hblk4)
          go_roundw
          case rel => exact ⟨k + 1, by omega, by go_num, Lib.hid (by rw [Hnew.out, encSps_snoc, List.length_append, H0L.out]; exact Hown4.out), Lib.hid (Hb2.out.trans (((below_drewN ((Below.refl _ _).alloc (by omega) _) _).trans (Hb4.out.mono (by first | (simp; done) | (simp; omega))))))⟩
          case measure => simp [intOf]; omega
        · obtain ⟨m, hm⟩ : ∃ m, (joinAt srt k).length = m + 1 := ⟨(joinAt srt k).length - 1, by omega⟩
          rw [hm] at Ho
          obtain ⟨g', cap', rfl, hg'⟩ := own_form Ho.out (by omega)
          obtain ⟨d0, d1⟩ := own_cellsS Ho.out (i := m) (by omega)
          obtain ⟨X, hX⟩ : ∃ X, X = (joinAt srt k)[m] := ⟨_, rfl⟩
          rw [← hX] at d0 d1
          have HX := Lib.hid hX
          have hXb : -2000000000000 ≤ X.hi ∧ X.hi ≤ 2000000000000 := by
            have := joinAt_bnd srt (fun s hs => hspb s (hp0 hs)) k hk X (by rw [hX]; exact List.getElem_mem _)
            omega
          clear hX
          have hml : m ≤ 256 := by have := Hm.out; omega
          have i1 : (m : Int) < (m : Int) + 1 := by omega
          have w1' : IntKind.i64.wrap ((m : Int) + 1 - 1) = (m : Int) := by rw [IntWalk.i64_in _ (by omega)]; omega
          have w2' : IntKind.i64.wrap (X.hi + 1) = X.hi + 1 := IntWalk.i64_in _ (by omega)
          have w7' : ((m : Int) + 1 - 1).toNat = m := by omega
          have hpos : decide ((0 : Int) < (m : Int) + 1) = true := by simp
          have hgw' : g' < wr.heap.size := (Ho.out.lt g' rfl).2
          have HmX := Lib.hid hm
          cases ht2 : decide (srt[k].lo ≤ X.hi + 1)
          · have Hnew := Lib.hid (HMS.out.trans (jstep_new (fun h e => by
              have e1 : (joinAt srt k)[(joinAt srt k).length - 1] = X := by rw [HX.out]; congr 1; omega
              rw [e1] at e; simp at ht2; omega)))
            have HoA := Lib.hid (Ho.out.alloc (.cells #[.int .i64 srt[k].lo, .int .i64 srt[k].hi] 44))
            have H0L := Lib.hid hm
            go_wp2
            go_quiet (fail)
            go_wp2_with (at_builtin; refine wpList_append1 rfl _ _ 51 rfl w2.heap.size 44 _ 2 16 elemSpan _ _ _ rfl (HoA.out) #[.int .i64 srt[k].lo, .int .i64 srt[k].hi] 1 _ rfl (by simp) rfl (by simp [Value.oneCell']) (by have := Hm.out; omega) (by simp; omega) ?_; intro v4 w4 hown4 hb4 hsz4 hg4 hblk4; have Hown4 := Lib.hid hown4; have Hb4 := Lib.hid hb4; have Hsz4 := Lib.hid hsz4; clear hown4 hb4 hsz4 hg4 hblk4)
            go_roundw
            case rel => exact ⟨k + 1, by omega, by go_num, Lib.hid (by rw [Hnew.out, encSps_snoc, List.length_append, H0L.out]; exact Hown4.out), Lib.hid (Hb2.out.trans (((below_drewN ((Below.refl _ _).alloc (by omega) _) _).trans (Hb4.out.mono (by first | (simp; done) | (simp; omega))))))⟩
            case measure => simp [intOf]; omega
          · have Hnew := Lib.hid (show joinAt srt (k + 1) = (joinAt srt k).set m ⟨X.lo, max X.hi srt[k].hi⟩ by
              have e0 : (joinAt srt k).length - 1 = m := by omega
              have e1 : (joinAt srt k)[(joinAt srt k).length - 1]'(by omega) = X := by rw [HX.out]; congr 1
              have e2 := HMS.out.trans (jstep_join (by omega) (by rw [e1]; simpa using ht2))
              rw [e2, e1, e0]; rfl)
            go_wp2
            go_quiet (fail)
            go_wp2
            obtain ⟨W3, hW3⟩ : ∃ W3, W3 = (wr.alloc (.cells #[.int .i64 srt[k].lo, .int .i64 srt[k].hi] 44)).drewN nq := ⟨_, rfl⟩
            rw [← hW3]
            have hs3 : wr.heap.size < W3.heap.size := by rw [hW3]; simp [World.drewN]
            have HoW := Lib.hid (show W3.ownsRow w2.heap.size 44 2 (.slice (some ⟨g', 0, none⟩) (m + 1) cap') (m + 1) (encSps (joinAt srt k)) by rw [hW3]; exact Ho.out.alloc _)
            have HbW := Lib.hid (show Below w2.heap.size w2 W3 by rw [hW3]; exact below_drewN (Hb2.out.alloc (by omega) _) _)
            obtain ⟨k0, k1⟩ := own_cellsS HoW.out (i := m) (by omega)
            rw [← HX.out] at k0 k1
            have m1 := later_cell k1 (by omega)
            have m4 := later_cell (w := W3) (b := wr.heap.size) (o := 1) (v := .int .i64 srt[k].hi) (by rw [hW3]; exact alloc_cell rfl) hs3
            have m6 := later_free (HoW.out.frozenAt (m * 2 + 1)) (by omega)
            clear k0 k1 hW3 d0 d1 c0 c1
            refine wp_region_later_tail 14 (by kernel_rfl) (by kernel_rfl) ?_
            simp only [List.take_succ_cons, List.take_zero, List.drop_succ_cons, List.drop_zero]
            repeat (any_goals (first | go_big_quiet_step ((fail)) | quiet_step ((fail))))
            refine wpQuiet_nil ?_
            rintro w' ⟨e, rfl⟩
            have HoE := Lib.hid (own_below HoW.out e.b)
            have HoP := Lib.hid (own_putS HoE.out (i := m) (by omega) (max X.hi srt[k].hi))
            have HbE := Lib.hid ((HbW.out.trans (e.b.mono (by omega))).setCell (p := ⟨g', m * 2 + 1, none⟩) hg' (.int .i64 (max X.hi srt[k].hi)))
            go_wp2
            go_roundw
            case rel =>
              refine ⟨k + 1, by omega, by go_num, Lib.hid ?_, HbE⟩
              have e1 : (joinAt srt (k + 1)).length = m + 1 := by rw [Hnew.out, List.length_set]; exact HmX.out
              rw [e1, Hnew.out]
              have := HoP.out
              rw [← HX.out] at this
              exact this
            case measure => simp [intOf]; omega
      · obtain rfl : k = srt.length := by omega
        rw [joinAt_all] at Ho
        obtain ⟨A10, c10, rfl, _⟩ := own_slice Ho.out
        gi_wp2
        have HK3 := Lib.hid ((Hb2.out.block D (Array.getElem?_eq_some_iff.1 HK2.out).1).trans HK2.out)
        have hjl : (joinL srt).length ≤ srt.length := by have := joinAt_len srt srt.length (Nat.le_refl _); rwa [joinAt_all] at this
        refine ⟨by simp, .inl ⟨_, _, rfl, run_takeDeferred HK3.out, ?_⟩⟩
        refine ⟨_, results_tmp rfl _ _ _, _, joinL srt, rfl, HV.out srt Hp.out Hpw.out, by omega, ?_, ?_, ?_⟩
        · rw [← joinAt_all]
          exact joinAt_bnd srt (fun s hs => hspb s (hp0 hs)) _ (Nat.le_refl _)
        · exact own_put_obj (own_mono Ho.out (by have := Hbw2.out.size; omega)) _ HK3.out rfl
        · exact (Hbw2.out.trans (Hb2.out.mono (by have := Hbw2.out.size; omega))).trans (belowK_b (w := w) (Nat.le_refl _) _ D _ _ (by omega) HK3.out rfl rfl)
  case body =>
    have hs0' : w.heap.size + 1 + 1 + 1 + 1 + 1 + 1 ≤ W0.heap.size := by omega
    clear hW0 hW3 hmb hnb hs3 d4 d4f hB30 hs0
    rintro lp m pre x W ⟨sp, hout, ⟨v, hv1, hv2, hv3⟩, hb⟩ hlen ⟨hx1, hx2, A', c', hx3, hx4, hx5⟩
    obtain ⟨F, xv⟩ := x
    simp only at hx1 hx2 hx3 hx4 hx5
    subst hx3
    have hbs := hb.size
    have Hb := Lib.hid hb
    have HbW := Lib.hid (show Below w.heap.size w W from Hw0.out.trans (hb.mono (by omega)))
    have q0 := later_cell ((hb.cell (p := ⟨w.heap.size, 0, none⟩) (by simp; omega)).trans (He0.out 0 _ (by rw [hcs]; rfl))) (by omega)
    have q1 := later_cell ((hb.cell (p := ⟨w.heap.size, 1, none⟩) (by simp; omega)).trans (He0.out 1 _ (by rw [hcs]; rfl))) (by omega)
    have q2 := later_cell ((hb.cell (p := ⟨w.heap.size, 2, none⟩) (by simp; omega)).trans (He0.out 2 _ (by rw [hcs]; rfl))) (by omega)
    have q3 := later_cell ((hb.cell (p := ⟨w.heap.size, 3, none⟩) (by simp; omega)).trans (He0.out 3 _ (by rw [hcs]; rfl))) (by omega)
    have q4 := later_cell ((hb.cell (p := ⟨w.heap.size, 4, none⟩) (by simp; omega)).trans (He0.out 4 _ (by rw [hcs]; rfl))) (by omega)
    have q5 := later_cell ((hb.cell (p := ⟨w.heap.size, 5, none⟩) (by simp; omega)).trans (He0.out 5 _ (by rw [hcs]; rfl))) (by omega)
    have q6 := later_cell ((hb.cell (p := ⟨w.heap.size, 6, none⟩) (by simp; omega)).trans (He0.out 6 _ (by rw [hcs]; rfl))) (by omega)
    have q7 := later_cell ((hb.cell (p := ⟨w.heap.size + 1, 0, none⟩) (by simp)).trans He1.out) (by omega)
    have q8 := later_cell ((hb.cell (p := ⟨w.heap.size + 1 + 1, 0, none⟩) (by simp)).trans He2.out) (by omega)
    have Hx1 := Lib.hid hx1
    clear hx1
    have HN := Lib.hid (fun (X : World) (gb : Nat) (hX : Below W.heap.size W X) (hgb : gb < X.heap.size) (p0 : X.cell? ⟨gb, 0, none⟩ = some (.int .i64 t)) (p1 : X.cell? ⟨gb, 1, none⟩ = some (.int .i64 (-4000000000))) (p2 : X.cell? ⟨gb, 2, none⟩ = some (.int .i64 4000000000)) => show Calls Tryz.prog 61 #[.agg #[.string q.name, .int .i64 q.lo, .int .i64 q.hi, .int .i64 q.rise, .int .i64 q.fall, .int .i64 many, .slice q.gA q.gs.length q.gc], .slice A l.length c, .slice A' F.length c', .slice (some ⟨gb, 0, none⟩) 1 1] X (Nodes q l F [⟨t, -4000000000, 4000000000⟩] X) by
      have hwX := HbW.out.trans (hX.mono (by omega))
      rw [← hbad]
      refine nodes_any q l F [⟨t, -4000000000, 4000000000⟩] A A' (some ⟨gb, 0, none⟩) c c' 1 W.heap.size _ ((Hq.out.below (hwX.mono hB)).mono (by omega)) ((HA.out.below_le hwX hB).mono (by omega)) (Sl.below hx4.sl hX) (.inr ⟨_, rfl, rfl, fun j u hu => ?_⟩) hX.size Hgood.out (fun y hy => ?_) (by simp; omega) (by have := Hx1.out; omega)
      · have e0 : (⟨gb, 0, none⟩ : Addr).add j = ⟨gb, j, none⟩ := by unfold Addr.add; split <;> simp_all
        rw [e0]
        rcases j with _ | _ | _ | j
        · simp [encKs, encK] at hu; subst hu; exact p0
        · simp [encKs, encK] at hu; subst hu; exact p1
        · simp [encKs, encK] at hu; subst hu; exact p2
        · simp [encKs, encK] at hu
      · simp at hy; subst hy; unfold BndK; simp only; omega)
    have HQ := Lib.hid (fun (X : World) (hX : Below W.heap.size W X) => show X.cell? ⟨w.heap.size, 0, none⟩ = some (.string q.name) ∧ X.cell? ⟨w.heap.size, 1, none⟩ = some (.int .i64 q.lo) ∧ X.cell? ⟨w.heap.size, 2, none⟩ = some (.int .i64 q.hi) ∧ X.cell? ⟨w.heap.size, 3, none⟩ = some (.int .i64 q.rise) ∧ X.cell? ⟨w.heap.size, 4, none⟩ = some (.int .i64 q.fall) ∧ X.cell? ⟨w.heap.size, 5, none⟩ = some (.int .i64 many) ∧ X.cell? ⟨w.heap.size, 6, none⟩ = some (.slice q.gA q.gs.length q.gc) ∧ X.cell? ⟨w.heap.size + 1, 0, none⟩ = some (.slice A l.length c) ∧ X.cell? ⟨w.heap.size + 1 + 1, 0, none⟩ = some (.int .i64 t) from ⟨q0 ⟨X, hX⟩, q1 ⟨X, hX⟩, q2 ⟨X, hX⟩, q3 ⟨X, hX⟩, q4 ⟨X, hX⟩, q5 ⟨X, hX⟩, q6 ⟨X, hX⟩, q7 ⟨X, hX⟩, q8 ⟨X, hX⟩⟩)
    gi_wp2
    refine round_region_inv 7 (R4 q l t A c many w W F A' c') (by kernel_rfl) (by kernel_rfl) (fun ⟨_, _, h⟩ => h) (by kernel_rfl) (by kernel_rfl) (by kernel_rfl) (by decide) (by kernel_rfl) ?_ ?_ ?_
    · exact ⟨⟨_, (Below.refl W.heap.size W).drew⟩, _, _, _, _, _, _, _, rfl, rfl, by simp, by simp, by simp, by simp, by simp, by simp, by simp⟩
    · rintro L a' w' i o hi ho hLi haf ⟨e, v21, v22, v23, v24, v25, v26, v27, rfl, rfl, h0, h1, h2, h3, h4, h5, h6⟩
      rcases i with _ | _ | _ | _ | _ | _ | _ | i
      case succ.succ.succ.succ.succ.succ.succ => omega
      all_goals (simp only [List.getElem?_cons_zero, List.getElem?_cons_succ, Option.some.injEq] at ho; subst ho)
      · go_wp2
        exact ⟨e, _, _, _, _, _, _, _, rfl, rfl, fun _ => rfl, fun z => h1 (by simpa using z), fun z => h2 (by simpa using z), fun z => h3 (by simpa using z), fun z => h4 (by simpa using z), fun z => h5 (by simpa using z), fun z => h6 (by simpa using z)⟩
      · go_wp2
        exact ⟨e, _, _, _, _, _, _, _, rfl, rfl, fun z => h0 (by simpa using z), fun _ => rfl, fun z => h2 (by simpa using z), fun z => h3 (by simpa using z), fun z => h4 (by simpa using z), fun z => h5 (by simpa using z), fun z => h6 (by simpa using z)⟩
      · go_wp2
        exact ⟨e, _, _, _, _, _, _, _, rfl, rfl, fun z => h0 (by simpa using z), fun z => h1 (by simpa using z), fun _ => rfl, fun z => h3 (by simpa using z), fun z => h4 (by simpa using z), fun z => h5 (by simpa using z), fun z => h6 (by simpa using z)⟩
      · go_wp2
        exact ⟨e, _, _, _, _, _, _, _, rfl, rfl, fun z => h0 (by simpa using z), fun z => h1 (by simpa using z), fun z => h2 (by simpa using z), fun _ => rfl, fun z => h4 (by simpa using z), fun z => h5 (by simpa using z), fun z => h6 (by simpa using z)⟩
      · go_wp2_with (go_at_call 86; refine (anything_any _).mono ?_; rintro r w2 ⟨rfl, hb2⟩)
        exact ⟨⟨w2, e.b.trans (hb2.mono e.b.size)⟩, _, _, _, _, _, _, _, rfl, rfl, fun z => h0 (by simpa using z), fun z => h1 (by simpa using z), fun z => h2 (by simpa using z), fun z => h3 (by simpa using z), fun _ => rfl, fun z => h5 (by simpa using z), fun z => (by obtain ⟨gb, p1, p2, p3, p4, p5⟩ := (h6 (by simpa using z)).out; exact Lib.hid ⟨gb, p1, Nat.lt_of_lt_of_le p2 hb2.size, (hb2.cell (p := ⟨gb, 0, none⟩) p2).trans p3, (hb2.cell (p := ⟨gb, 1, none⟩) p2).trans p4, (hb2.cell (p := ⟨gb, 2, none⟩) p2).trans p5⟩)⟩
      · obtain rfl := h3 (haf ⟨3, .data⟩ (by simp) rfl)
        obtain rfl := h4 (haf ⟨4, .data⟩ (by simp) rfl)
        go_wp2
        exact ⟨e, _, _, _, _, _, _, _, rfl, rfl, fun z => h0 (by simpa using z), fun z => h1 (by simpa using z), fun z => h2 (by simpa using z), fun _ => rfl, fun _ => rfl, fun _ => rfl, fun z => h6 (by simpa using z)⟩
      · obtain rfl := h5 (haf ⟨5, .data⟩ (by simp) rfl)
        go_wp2
        exact ⟨⟨_, e.b.alloc e.b.size (.cells #[.int .i64 t, .int .i64 (-4000000000), .int .i64 4000000000] 132)⟩, _, _, _, _, _, _, _, rfl, rfl, fun z => h0 (by simpa using z), fun z => h1 (by simpa using z), fun z => h2 (by simpa using z), fun z => h3 (by simpa using z), fun z => h4 (by simpa using z), fun _ => rfl, fun _ => Lib.hid ⟨_, rfl, by simp [Later.w], alloc_cell rfl, alloc_cell rfl, alloc_cell rfl⟩⟩
    · rintro L a' w' hL ⟨e, v21, v22, v23, v24, v25, v26, v27, rfl, rfl, h0, h1, h2, h3, h4, h5, h6⟩
      obtain ⟨gb, rfl, p1, p2, p3, p4⟩ := (h6 (hL 6 (by omega))).out
      obtain rfl := h0 (hL 0 (by omega))
      obtain rfl := h1 (hL 1 (by omega))
      obtain rfl := h2 (hL 2 (by omega))
      have HC := Lib.hid (HN.out e.w gb e.b p1 p2 p3 p4)
      clear h0 h1 h2 h3 h4 h5 h6 hL p1 p2 p3 p4 q0 q1 q2 q3 q4 q5 q6 q7 q8
      go_wp2_with (go_at_call 61; refine HC.out.mono ?_; rintro r w2 ⟨g, cap, srt, hp, hsrt, rfl, ho2, hb2⟩)
      have HbW2 := Lib.hid (show Below W.heap.size W w2 from e.b.trans (hb2.mono e.b.size))
      have hmi0 := merged_inv srt hsrt
      have hml0 : (merged srt).length ≤ srt.length := by have := mergedAt_len srt srt.length (Nat.le_refl _); rwa [mergedAt_all] at this
      revert ho2 hmi0 hml0
      generalize merged srt = ms
      intro ho2 hmi hml
      have hsl : srt.length = 2 + l.length := by rw [hp.length_eq]; simp [allK]; omega
      have hm0 : 0 < ms.length := hmi.pos (by omega)
      have hms : SortedK ms := hmi.sorted.imp fun h => Int.le_of_lt h
      have hmore : ∀ y ∈ ([⟨t, -4000000000, 4000000000⟩] : List K), BndK 1000000000000 y := fun y hy => by simp at hy; subst hy; unfold BndK; simp only; omega
      have hmb2 : ∀ y ∈ ms, BndK 1000000000000 y := hmi.cov.bnd fun y hy => allK_bnd Hgood.out F hmore y (hp.mem_iff.1 hy)
      have HCov := Lib.hid (show Covers ms (allK q l F [⟨t, -4000000000, 4000000000⟩]) from hmi.cov.perm hp)
      have hG := Hgood.out
      have HNar := Lib.hid (show Calls Tryz.prog 60 #[.agg #[.string q.name, .int .i64 q.lo, .int .i64 q.hi, .int .i64 q.rise, .int .i64 q.fall, .int .i64 many, .slice q.gA q.gs.length q.gc], .slice (some ⟨g, 0, none⟩) ms.length cap] w2 (Narrowed ms q.rise q.fall e.w.heap.size 132 g cap w2) by
        rw [← hbad]
        exact narrowed_any q ms e.w.heap.size g cap w2 ho2 hms hmb2 hG.rise.1 hG.rise.2 hG.fall.1 hG.fall.2 (by omega) hm0)
      have HSort := Lib.hid hmi.sorted
      have hglt : e.w.heap.size ≤ g := (ho2.lt g rfl).1
      obtain ⟨c0, c1, c2, c3, c4, c5, c6, c7, c8⟩ := HQ.out w2 HbW2.out
      clear hmi hp hsrt hmore hmb2 hms
      have HNarR := Lib.hid (show CallsIn (Fence.wide.inRound lp) (m - 1) Tryz.prog 60 _ w2 _ from CallsIn.inRound lp (callsIn_wide.2 HNar.out))
      gi_wp2_with ((try refine ⟨trivial, wide_depth, ?_⟩); gi_at_call 60; refine HNarR.out.mono ?_; rintro r w3 ⟨l', ho3, hg3, (⟨rfl, hno⟩ | ⟨rfl, hall, rfl⟩)⟩)
      · have HbW3 := Lib.hid (below_of_grown HbW2.out hg3 (by have := e.b.size; omega) (Nat.le_refl _))
        refine ⟨keeps_of_below HbW3.out, KeepI.of_below HbW3.out, sp, ?_, ⟨v, (HbW3.out.cell (p := ⟨w.heap.size + 1 + 1 + 1, 0, none⟩) (by simp; omega)).trans hv1, (HbW3.out.frozen (p := ⟨w.heap.size + 1 + 1 + 1, 0, none⟩) (by simp; omega)).trans hv2, own_below hv3 HbW3.out⟩, Hb.out.trans (HbW3.out.mono (by omega))⟩
        rw [List.map_append]
        refine OutS.none hout fun hag => hno ((fwd_agree hG.rise.1 hG.fall.1 ms (HSort.out.imp fun h => Int.le_of_lt h)).2 (HCov.out.agree.2 hag))
      · have HbW3 := Lib.hid (below_of_grown HbW2.out hg3 (by have := e.b.size; omega) (Nat.le_refl _))
        have hms2 : SortedK ms := HSort.out.imp fun h => Int.le_of_lt h
        obtain ⟨b1, hb1m, hb1t, _⟩ := HCov.out.1 ⟨t, -4000000000, 4000000000⟩ (by simp [allK])
        obtain ⟨k, hk, rfl⟩ := List.mem_iff_getElem.1 hb1m
        simp only at hb1t
        have hkX : k < (bwdK q.rise q.fall (fwdK q.rise q.fall ms)).length := by rw [bwdK_length, fwdK_length]; exact hk
        have hspec := narrow_spec hG.rise.1 hG.fall.1 ms hms2 k hk hkX
        have htt : ∀ i (hi : i < ms.length), ((bwdK q.rise q.fall (fwdK q.rise q.fall ms))[i]'(by rw [bwdK_length, fwdK_length]; exact hi)).t = ms[i].t := fun i hi => (bwdK_t _ _ (by rw [fwdK_length]; exact hi)).trans (fwdK_t _ _ hi)
        have hXl : (bwdK q.rise q.fall (fwdK q.rise q.fall ms)).length = ms.length := by rw [bwdK_length, fwdK_length]
        have hnoX : ((bwdK q.rise q.fall (fwdK q.rise q.fall ms)).take k).any (fun x => x.t == t) = false := by
          rw [List.any_eq_false]
          intro x hx
          obtain ⟨i, hi, rfl⟩ := List.mem_iff_getElem.1 hx
          rw [List.length_take] at hi
          have hik : i < k := by omega
          rw [List.getElem_take, htt i (by omega)]
          have := (List.pairwise_iff_getElem.1 HSort.out) i k (by omega) hk hik
          simp; omega
        have hSOk : SOk q l t F ⟨((bwdK q.rise q.fall (fwdK q.rise q.fall ms))[k]).lo, ((bwdK q.rise q.fall (fwdK q.rise q.fall ms))[k]).hi⟩ := by
          have h1 := (fwd_agree hG.rise.1 hG.fall.1 ms hms2).1 hall
          rw [hb1t] at hspec
          exact ⟨HCov.out.agree.1 h1, HCov.out.isLo hspec.2.1, HCov.out.isHi hspec.2.2⟩
        have HSOk := Lib.hid hSOk
        have HAt := Lib.hid (fun (X : World) (hX : Below w3.heap.size w3 X) => show Calls Tryz.prog 87 #[.slice (some ⟨g, 0, none⟩) ms.length cap, .int .i64 t] X _ from by
          have := at_any (bwdK q.rise q.fall (fwdK q.rise q.fall ms)) t k hkX hnoX ((htt k hk).trans hb1t) (some ⟨g, 0, none⟩) cap w3.heap.size X (sl_of_own (own_below ho3 hX) (ho3.lt g rfl).2) hX.size (by omega)
          rw [hXl] at this
          exact this)
        revert HAt HSOk
        generalize ((bwdK q.rise q.fall (fwdK q.rise q.fall ms))[k]).lo = lo
        generalize ((bwdK q.rise q.fall (fwdK q.rise q.fall ms))[k]).hi = hi
        intro HSOk HAt
        have Hv1 := Lib.hid ((HbW3.out.cell (p := ⟨w.heap.size + 1 + 1 + 1, 0, none⟩) (by simp; omega)).trans hv1)
        have Hv2 := Lib.hid ((HbW3.out.frozen (p := ⟨w.heap.size + 1 + 1 + 1, 0, none⟩) (by simp; omega)).trans hv2)
        have Hv3 := Lib.hid hv3
        have hs3' := HbW3.out.size
        have x0 := later_cell Hv1.out (by omega)
        have x1 := later_cell ((HbW3.out.cell (p := ⟨w.heap.size + 1 + 1, 0, none⟩) (by simp; omega)).trans ((Hb.out.cell (p := ⟨w.heap.size + 1 + 1, 0, none⟩) (by simp)).trans He2.out)) (by omega)
        clear hspec htt hnoX hSOk hall hb1m hb1t hms2 hkX hXl c0 c1 c2 c3 c4 c5 c6 c7 c8 hv1 hv2
        refine round_region_inv 5 (R6 q l t A c many w w3 F A' c' g gb ms.length cap lo hi v v24 v25 v26) (by kernel_rfl) (by kernel_rfl) (fun ⟨_, _, h⟩ => h) (by kernel_rfl) (by kernel_rfl) (by kernel_rfl) (by decide) (by kernel_rfl) ?_ ?_ ?_
        · exact ⟨⟨_, (Below.refl w3.heap.size w3).drew⟩, _, _, _, _, _, rfl, rfl, by simp, by simp, by simp, by simp, by simp⟩
        · rintro L a' w' i o hi' ho hLi haf ⟨e, v32, v33, v34, v35, v36, rfl, rfl, h0, h1, h2, h3, h4⟩
          rcases i with _ | _ | _ | _ | _ | i
          case succ.succ.succ.succ.succ => omega
          all_goals (simp only [List.getElem?_cons_zero, List.getElem?_cons_succ, Option.some.injEq] at ho; subst ho)
          · go_wp2
            exact ⟨e, _, _, _, _, _, rfl, rfl, fun _ => rfl, fun z => h1 (by simpa using z), fun z => h2 (by simpa using z), fun z => h3 (by simpa using z), fun z => h4 (by simpa using z)⟩
          · go_wp2
            exact ⟨e, _, _, _, _, _, rfl, rfl, fun z => h0 (by simpa using z), fun _ => rfl, fun z => h2 (by simpa using z), fun z => h3 (by simpa using z), fun z => h4 (by simpa using z)⟩
          · go_wp2
            exact ⟨e, _, _, _, _, _, rfl, rfl, fun z => h0 (by simpa using z), fun z => h1 (by simpa using z), fun _ => rfl, fun z => h3 (by simpa using z), fun z => h4 (by simpa using z)⟩
          · obtain rfl := h1 (haf ⟨1, .data⟩ (by simp) rfl)
            obtain rfl := h2 (haf ⟨2, .data⟩ (by simp) rfl)
            have HA2 := Lib.hid (HAt.out e.w e.b)
            go_wp2_with (go_at_call 87; refine HA2.out.mono ?_; rintro r w4 ⟨rfl, hb4⟩)
            exact ⟨⟨w4, e.b.trans (hb4.mono e.b.size)⟩, _, _, _, _, _, rfl, rfl, fun z => h0 (by simpa using z), fun _ => rfl, fun _ => rfl, fun _ => rfl, fun z => (by obtain ⟨gc, p1, p2, p3, p4⟩ := (h4 (by simpa using z)).out; exact Lib.hid ⟨gc, p1, Nat.lt_of_lt_of_le p2 hb4.size, (hb4.cell (p := ⟨gc, 0, none⟩) p2).trans p3, (hb4.cell (p := ⟨gc, 1, none⟩) p2).trans p4⟩)⟩
          · obtain rfl := h3 (haf ⟨3, .data⟩ (by simp) rfl)
            go_wp2
            exact ⟨⟨_, e.b.alloc e.b.size (.cells #[.int .i64 lo, .int .i64 hi] 44)⟩, _, _, _, _, _, rfl, rfl, fun z => h0 (by simpa using z), fun z => h1 (by simpa using z), fun z => h2 (by simpa using z), fun _ => rfl, fun _ => Lib.hid ⟨_, rfl, by simp [Later.w], alloc_cell rfl, alloc_cell rfl⟩⟩
        · rintro L a' w' hL ⟨e, v32, v33, v34, v35, v36, rfl, rfl, h0, h1, h2, h3, h4⟩
          obtain ⟨gc, rfl, p1, p2, p3⟩ := (h4 (hL 4 (by omega))).out
          obtain rfl := h0 (hL 0 (by omega))
          have HS := Lib.hid (show Src e.w 2 (some ⟨gc, 0, none⟩) 1 [.int .i64 lo, .int .i64 hi] from .inr ⟨_, rfl, rfl, fun z u hu => by
            have e0 : (⟨gc, 0, none⟩ : Addr).add z = ⟨gc, z, none⟩ := by unfold Addr.add; split <;> simp_all
            rw [e0]
            rcases z with _ | _ | z
            · simp at hu; subst hu; exact p2
            · simp at hu; subst hu; exact p3
            · simp at hu⟩)
          have HbE := Lib.hid (show Below W.heap.size W e.w from HbW3.out.trans (e.b.mono hs3'))
          have HoE := Lib.hid (own_below Hv3.out HbE.out)
          have Hfree := Lib.hid (later_free Hv2.out (by omega) e)
          have hse := HbE.out.size
          have hbd : sp.length ≤ 256 := by
            have h1 := hout.1
            have h2 := subsN_len many q.gs.length 0 []
            have h3 : 2 ^ q.gs.length ≤ 2 ^ 8 := Nat.pow_le_pow_right (by omega) hgl
            simp at h1; omega
          have hb3 := (x0 e)
          clear h1 h2 h3 h4 hL p1 p2 p3
          refine wpList_appendL rfl _ _ 51 rfl W0.heap.size 44 _ 2 16 elemSpan _ _ _ rfl HoE.out _ _ _ _ rfl HS.out (by simp [Value.oneCell']) (by omega) (by omega) ?_
          intro v5 w5 hown5 hb5 hsz5 hg5 hblk5
          obtain ⟨g5, cap5, rfl, hg5b⟩ := own_form hown5 (by omega)
          have x2 := (hb5.cell (p := ⟨w.heap.size + 1 + 1 + 1, 0, none⟩) (by simp; omega)).trans hb3
          have x3 := (hb5.frozen (p := ⟨w.heap.size + 1 + 1 + 1, 0, none⟩) (by simp; omega)).trans Hfree.out
          have Hg5 := Lib.hid hg5
          have Ho5 := Lib.hid hown5
          have Hb5 := Lib.hid hb5
          clear hb3 hg5 hown5 hb5 hblk5
          go_wp2
          have hro := round_kept (B0 := w.heap.size + 1 + 1 + 1 + 1) (b := w.heap.size + 1 + 1 + 1) (u := .slice (some ⟨g5, 0, none⟩) (sp.length + 1) cap5) HbE.out Hv3.out Hg5.out (by omega)
          refine ⟨hro.1, hro.2, sp ++ [⟨lo, hi⟩], by rw [List.map_append]; exact OutS.snoc hout HSOk.out, ⟨_, World.cell?_setCell_same' _ _ _ (by rw [x2]; rfl), by rw [World.frozen?_setCell]; exact x3, ?_⟩, ?_⟩
          · rw [List.length_append, encSps_snoc]
            exact ownsRow_setCell_below Ho5.out (by simp; omega) _
          · exact (((Hb.out.trans (HbE.out.mono (by omega))).trans (Hb5.out.mono (by omega))).setCell (p := ⟨w.heap.size + 1 + 1 + 1, 0, none⟩) (Nat.le_refl _) _)
end Go.Proofs.YtcgnpndfhhcplaaGreatDoor
namespace Go.Proofs.YtcgnpndfhhcplaaGreatDoor
open Go.RowKit W7
/-- the least value at a time, worked out -/
def loX (r f : Int) (l : List K) (t : Int) : Int := l.tail.foldl (fun x a => max x (a.lo - dn r f a.t t)) ((l.headD default).lo - dn r f (l.headD default).t t)
def hiX (r f : Int) (l : List K) (t : Int) : Int := l.tail.foldl (fun x a => min x (a.hi + dn r f t a.t)) ((l.headD default).hi + dn r f t (l.headD default).t)
theorem foldl_top (g : K → Int) : ∀ (l : List K) (x : Int), (l.foldl (fun x a => max x (g a)) x = x ∨ ∃ a ∈ l, l.foldl (fun x a => max x (g a)) x = g a) ∧ x ≤ l.foldl (fun x a => max x (g a)) x ∧ ∀ a ∈ l, g a ≤ l.foldl (fun x a => max x (g a)) x
  | [], x => ⟨.inl rfl, Int.le_refl _, by simp⟩
  | b :: l, x => by
    obtain ⟨h1, h2, h3⟩ := foldl_top g l (max x (g b))
    simp only [List.foldl_cons]
    refine ⟨?_, by omega, fun a ha => ?_⟩
    · rcases h1 with h1 | ⟨a, ha, h1⟩
      · rw [h1]
        rcases Int.le_total x (g b) with h | h
        · exact .inr ⟨b, by simp, by omega⟩
        · exact .inl (by omega)
      · exact .inr ⟨a, by simp [ha], h1⟩
    · rcases List.mem_cons.1 ha with rfl | ha
      · omega
      · exact h3 a ha
theorem foldl_bot (g : K → Int) : ∀ (l : List K) (x : Int), (l.foldl (fun x a => min x (g a)) x = x ∨ ∃ a ∈ l, l.foldl (fun x a => min x (g a)) x = g a) ∧ l.foldl (fun x a => min x (g a)) x ≤ x ∧ ∀ a ∈ l, l.foldl (fun x a => min x (g a)) x ≤ g a
  | [], x => ⟨.inl rfl, Int.le_refl _, by simp⟩
  | b :: l, x => by
    obtain ⟨h1, h2, h3⟩ := foldl_bot g l (min x (g b))
    simp only [List.foldl_cons]
    refine ⟨?_, by omega, fun a ha => ?_⟩
    · rcases h1 with h1 | ⟨a, ha, h1⟩
      · rw [h1]
        rcases Int.le_total x (g b) with h | h
        · exact .inl (by omega)
        · exact .inr ⟨b, by simp, by omega⟩
      · exact .inr ⟨a, by simp [ha], h1⟩
    · rcases List.mem_cons.1 ha with rfl | ha
      · omega
      · exact h3 a ha
theorem loX_is {r f : Int} {l : List K} {t : Int} (h : l ≠ []) : IsLo r f l t (loX r f l t) := by
  cases l with
  | nil => exact absurd rfl h
  | cons b l =>
    obtain ⟨h1, h2, h3⟩ := foldl_top (fun a => a.lo - dn r f a.t t) l (b.lo - dn r f b.t t)
    refine ⟨?_, fun a ha => ?_⟩
    · rcases h1 with h1 | ⟨a, ha, h1⟩
      · exact ⟨b, by simp, h1⟩
      · exact ⟨a, by simp [ha], h1⟩
    · rcases List.mem_cons.1 ha with rfl | ha
      · exact h2
      · exact h3 a ha
theorem hiX_is {r f : Int} {l : List K} {t : Int} (h : l ≠ []) : IsHi r f l t (hiX r f l t) := by
  cases l with
  | nil => exact absurd rfl h
  | cons b l =>
    obtain ⟨h1, h2, h3⟩ := foldl_bot (fun a => a.hi + dn r f t a.t) l (b.hi + dn r f t b.t)
    refine ⟨?_, fun a ha => ?_⟩
    · rcases h1 with h1 | ⟨a, ha, h1⟩
      · exact ⟨b, by simp, h1⟩
      · exact ⟨a, by simp [ha], h1⟩
    · rcases List.mem_cons.1 ha with rfl | ha
      · exact h2
      · exact h3 a ha
instance (r f : Int) (l : List K) : Decidable (Agree r f l) := by unfold Agree; infer_instance
def moreT (t : Int) : List K := [⟨t, -4000000000, 4000000000⟩]
def spX (q : Quantity) (l : List Reading) (t : Int) (F : List Int) : Option Span :=
  if Agree q.rise q.fall (allK q l F (moreT t)) then some ⟨loX q.rise q.fall (allK q l F (moreT t)) t, hiX q.rise q.fall (allK q l F (moreT t)) t⟩ else none
/-- one span more, in the order of the least values -/
def insLo (s : Span) : List Span → List Span
  | [] => [s]
  | u :: l => if s.lo ≤ u.lo then s :: u :: l else u :: insLo s l
def sortLo (l : List Span) : List Span := l.foldr insLo []
theorem insLo_mem (s : Span) (l : List Span) (x : Span) : x ∈ insLo s l ↔ x = s ∨ x ∈ l := by
  induction l with
  | nil => simp [insLo]
  | cons u l ih =>
    unfold insLo
    split
    · simp
    · rw [List.mem_cons, ih, List.mem_cons]
      constructor
      · rintro (h | h | h)
        · exact .inr (.inl h)
        · exact .inl h
        · exact .inr (.inr h)
      · rintro (h | h | h)
        · exact .inr (.inl h)
        · exact .inl h
        · exact .inr (.inr h)
theorem insLo_sorted (s : Span) (l : List Span) (h : l.Pairwise fun a b => a.lo ≤ b.lo) : (insLo s l).Pairwise fun a b => a.lo ≤ b.lo := by
  induction l with
  | nil => simp [insLo]
  | cons u l ih =>
    rw [List.pairwise_cons] at h
    unfold insLo
    split
    · rename_i hs
      refine List.pairwise_cons.2 ⟨fun x hx => ?_, List.pairwise_cons.2 h⟩
      rcases List.mem_cons.1 hx with rfl | hx
      · exact hs
      · exact Int.le_trans hs (h.1 x hx)
    · rename_i hs
      refine List.pairwise_cons.2 ⟨fun x hx => ?_, ih h.2⟩
      rcases (insLo_mem s l x).1 hx with rfl | hx
      · omega
      · exact h.1 x hx
theorem sortLo_mem (l : List Span) (x : Span) : x ∈ sortLo l ↔ x ∈ l := by
  induction l with
  | nil => simp [sortLo]
  | cons u l ih => unfold sortLo at ih ⊢; rw [List.foldr_cons, insLo_mem, ih, List.mem_cons]
theorem sortLo_sorted (l : List Span) : (sortLo l).Pairwise fun a b => a.lo ≤ b.lo := by
  induction l with
  | nil => simp [sortLo]
  | cons u l ih => unfold sortLo at ih ⊢; rw [List.foldr_cons]; exact insLo_sorted u _ ih
def possX (q : Quantity) (l : List Reading) (t : Int) (many : Nat) : List Span := joinL (sortLo ((subsN many q.gs.length 0 []).filterMap (spX q l t)))
theorem spX_some {q : Quantity} {l : List Reading} {t : Int} {F : List Int} {s : Span} : spX q l t F = some s ↔ SOk q l t F s := by
  have hne : allK q l F (moreT t) ≠ [] := by simp [allK]
  unfold spX SOk
  show (if Agree q.rise q.fall (allK q l F (moreT t)) then _ else _) = _ ↔ Agree q.rise q.fall (allK q l F (moreT t)) ∧ IsLo q.rise q.fall (allK q l F (moreT t)) t s.lo ∧ IsHi q.rise q.fall (allK q l F (moreT t)) t s.hi
  constructor
  · intro h
    split at h
    · rename_i ha
      cases h
      exact ⟨ha, loX_is hne, hiX_is hne⟩
    · cases h
  · rintro ⟨ha, h1, h2⟩
    have e1 := h1.unique _ _ (loX_is hne)
    have e2 := h2.unique _ _ (hiX_is hne)
    rw [if_pos ha, ← e1, ← e2]
theorem possX_is {q : Quantity} {l : List Reading} {t : Int} {many : Nat} (hr : 0 ≤ q.rise) (hf : 0 ≤ q.fall) : PossV q l t many (possX q l t many) := by
  obtain ⟨h1, h2⟩ := joinL_canon (sortLo ((subsN many q.gs.length 0 []).filterMap (spX q l t))) (sortLo_sorted _) fun s hs => by
    rw [sortLo_mem, List.mem_filterMap] at hs
    obtain ⟨F, _, h⟩ := hs
    exact (spX_some.1 h).le hr hf
  refine ⟨h1, fun x => (h2 x).trans ⟨?_, ?_⟩⟩
  · rintro ⟨s, hs, hx⟩
    rw [sortLo_mem, List.mem_filterMap] at hs
    obtain ⟨F, hF, h⟩ := hs
    exact ⟨F, hF, s, spX_some.1 h, hx⟩
  · rintro ⟨F, hF, s, h, hx⟩
    exact ⟨s, by rw [sortLo_mem, List.mem_filterMap]; exact ⟨F, hF, spX_some.2 h⟩, hx⟩
theorem PossV.unique {q : Quantity} {l : List Reading} {t : Int} {many : Nat} {a b : List Span} (ha : PossV q l t many a) (hb : PossV q l t many b) : a = b :=
  Canon.unique ha.1 hb.1 fun x => (ha.2 x).trans (hb.2 x).symm
end Go.Proofs.YtcgnpndfhhcplaaGreatDoor
namespace Go.Proofs.YtcgnpndfhhcplaaGreatDoor
open Go.RowKit W7
/-- the error of Possible's arguments -/
def possE (q : Quantity) (l : List Reading) (t : Int) : Int := if checkedE q l = 0 then (if isTm t then 0 else 1) else checkedE q l
def PossR (q : Quantity) (l : List Reading) (t : Int) (w : World) (e : Ending) (w' : World) : Prop :=
  ∃ (v : Value) (sp : List Span), e = .returned (.tuple #[v, .int .i64 (possE q l t)]) ∧ (possE q l t ≠ 0 → sp = []) ∧ (possE q l t = 0 → PossV q l t q.bad.toNat sp) ∧ sp.length ≤ 256 ∧ (∀ s ∈ sp, -2000000000000 ≤ s.lo ∧ s.lo ≤ 2000000000000 ∧ -2000000000000 ≤ s.hi ∧ s.hi ≤ 2000000000000) ∧
    w'.ownsRow w.heap.size 44 2 v sp.length (encSps sp) ∧ Below w.heap.size w w'
set_option maxHeartbeats 400000 in
set_option maxRecDepth 100000 in
theorem Possible18_any (q : Quantity) (l : List Reading) (t : Int) (A : Option Addr) (c B : Nat) (w : World) (hq : QIn w B q) (hA : Sl w B 3 encR A l) (hB : B ≤ w.heap.size) (hlc : l.length ≤ c) (hc : c ≤ 9223372036854775807) (h12 : l.length ≤ 64 → l.length ≤ 18) :
    Calls Tryz.prog 19 #[.agg #[.string q.name, .int .i64 q.lo, .int .i64 q.hi, .int .i64 q.rise, .int .i64 q.fall, .int .i64 q.bad, .slice q.gA q.gs.length q.gc], .slice A l.length c, .int .i64 t] w (PossR q l t w) := by
  obtain ⟨cs, hcs⟩ : ∃ cs : Array Value, cs = #[.string q.name, .int .i64 q.lo, .int .i64 q.hi, .int .i64 q.rise, .int .i64 q.fall, .int .i64 q.bad, .slice q.gA q.gs.length q.gc] := ⟨_, rfl⟩
  have HB0 := Lib.hid ((Below.refl w.heap.size w).alloc (Nat.le_refl _) (.cells cs 47))
  have Hq := Lib.hid (hq.below (HB0.out.mono hB))
  have HA := Lib.hid (hA.below (HB0.out.mono hB))
  have HC := Lib.hid (checked_any q l A c B (w.alloc (.cells cs 47)) Hq.out HA.out (by simp; omega) hlc hc)
  have HP := Lib.hid (fun (h0 : checkedE q l = 0) (h1 : isTm t = true) (W : World) (hb : Below (w.alloc (.cells cs 47)).heap.size (w.alloc (.cells cs 47)) W) =>
    show Calls Tryz.prog 58 #[.agg #[.string q.name, .int .i64 q.lo, .int .i64 q.hi, .int .i64 q.rise, .int .i64 q.fall, .int .i64 q.bad, .slice q.gA q.gs.length q.gc], .slice A l.length c, .int .i64 t] W (PossP q l t q.bad.toNat W) from by
      obtain ⟨hg, h64, _, hb0, hb1⟩ := good_of h0
      have hsB : B ≤ (w.alloc (.cells cs 47)).heap.size := by rw [World.size_alloc]; omega
      have hb' := hb.mono hsB
      exact possible_any q l t A c B W (Hq.out.below hb') (HA.out.below hb') (by have := hb.size; simp at this; omega) hg (isTm_true.1 h1) (h12 h64) q.bad.toNat (by omega) (by omega))
  rw [hcs] at HC HP HB0
  clear hcs Hq HA hq hA
  cases hce : (checkedE q l != 0)
  rotate_left
  · have HE := Lib.hid (show possE q l t = checkedE q l from by simp at hce; simp [possE, hce])
    go_enter Tryz.func19, Tryz.ntmps19
    go_wp2_with (go_at_call 57; refine HC.out.mono ?_; rintro e w1 ⟨rfl, hb1⟩)
    refine bodyPost_ret (v := .tuple #[.slice none 0 0, .int .i64 (checkedE q l)]) (by simp [results, Tryz.results19, go_sem]) rfl ?_
    refine ⟨_, [], by rw [HE.out], fun _ => rfl, fun h => ?_, by simp, by simp, World.ownsRow_nil _ _ _ _, HB0.out.trans (hb1.mono (by simp))⟩
    rw [HE.out] at h; simp [h] at hce
  · cases ht : isTm t
    · have HE := Lib.hid (show possE q l t = 1 from by simp at hce; simp [possE, hce, ht])
      go_enter Tryz.func19, Tryz.ntmps19
      go_wp2_with (first | (go_at_call 57; refine HC.out.mono ?_; rintro e w1 ⟨rfl, hb1⟩) | (go_at_call 47; refine (isTime_any _ _).mono ?_; rintro e w2 ⟨rfl, rfl⟩))
      refine bodyPost_ret (v := .tuple #[.slice none 0 0, .int .i64 1]) (by simp [results, Tryz.results19, go_sem]) rfl ?_
      refine ⟨_, [], by rw [HE.out], fun _ => rfl, fun h => ?_, by simp, by simp, World.ownsRow_nil _ _ _ _, HB0.out.trans (hb1.mono (by simp))⟩
      rw [HE.out] at h; exact absurd h (by decide)
    · have HE := Lib.hid (show possE q l t = 0 from by simp at hce; simp [possE, hce, ht])
      have HP2 := Lib.hid (HP.out (by simpa using hce) ht)
      go_enter Tryz.func19, Tryz.ntmps19
      go_wp2_with (first | (go_at_call 57; refine HC.out.mono ?_; rintro e w1 ⟨rfl, hb1⟩; have q0 := fun (j : Nat) (v : Value) (hv : (#[Value.string q.name, .int .i64 q.lo, .int .i64 q.hi, .int .i64 q.rise, .int .i64 q.fall, .int .i64 q.bad, .slice q.gA q.gs.length q.gc] : Array Value)[j]? = some v) => (hb1.cell (p := ⟨w.heap.size, j, none⟩) (by simp)).trans (alloc_cell hv); have c0 := q0 0 _ rfl; have c1 := q0 1 _ rfl; have c2 := q0 2 _ rfl; have c3 := q0 3 _ rfl; have c4 := q0 4 _ rfl; have c5 := q0 5 _ rfl; have c6 := q0 6 _ rfl; have Hb1 := Lib.hid hb1; clear q0) | (go_at_call 47; refine (isTime_any _ _).mono ?_; rintro e w2 ⟨rfl, rfl⟩) | (go_at_call 58; refine (HP2.out _ Hb1.out).mono ?_; rintro e w3 ⟨v, sp, rfl, hv, hl, hbd, hown, hb3⟩))
      refine bodyPost_ret (v := .tuple #[v, .int .i64 0]) (by simp [results, Tryz.results19, go_sem]) rfl ?_
      have hs1 := Hb1.out.size
      simp at hs1
      refine ⟨_, sp, by rw [HE.out], fun h => absurd HE.out h, fun _ => hv, hl, hbd, own_mono hown (by omega), (HB0.out.trans (Hb1.out.mono (by simp))).trans (hb3.mono (by omega))⟩
theorem Possible_any (q : Quantity) (l : List Reading) (t : Int) (A : Option Addr) (c B : Nat) (w : World) (hq : QIn w B q) (hA : Sl w B 3 encR A l) (hB : B ≤ w.heap.size) (hlc : l.length ≤ c) (hc : c ≤ 9223372036854775807) (h12 : l.length ≤ 64 → l.length ≤ 12) :
    Calls Tryz.prog 19 #[.agg #[.string q.name, .int .i64 q.lo, .int .i64 q.hi, .int .i64 q.rise, .int .i64 q.fall, .int .i64 q.bad, .slice q.gA q.gs.length q.gc], .slice A l.length c, .int .i64 t] w (PossR q l t w) :=
  Possible18_any q l t A c B w hq hA hB hlc hc fun h => by have := h12 h; omega
end Go.Proofs.YtcgnpndfhhcplaaGreatDoor
