/-
  Package watch's Witness. Conditions: bounds; of valid readings at most 12.
-/
import Derived.Test.YtcgnpndfhhcplaaPossible
import Derived.Test.YtcgnpndfhhcplaaWitX
import Derived.Test.YtcgnpndfhhcplaaShut
import Derived.Test.YtcgnpndfhhcplaaBlk
import Derived.Maps.OwnOps
import Derived.Maps.Views
import Derived.Deep.CutRange
namespace Go.Proofs.Ytcgnpndfhhcplaa
open Go.RowKit W7
attribute [local go_sem] Oper.semAt_some
/-- four results, stored -/
def four (w : World) (n : Nat) (v4 v5 v6 v7 : Value) : World := (((w.setCell ⟨n + 1 + 1 + 1 + 1, 0, none⟩ v4).setCell ⟨n + 1 + 1 + 1 + 1 + 1, 0, none⟩ v5).setCell ⟨n + 1 + 1 + 1 + 1 + 1 + 1, 0, none⟩ v6).setCell ⟨n + 1 + 1 + 1 + 1 + 1 + 1 + 1, 0, none⟩ v7
theorem four_cells {w : World} {n : Nat} {v4 v5 v6 v7 u4 u5 u6 u7 : Value} (h4 : w.cell? ⟨n + 1 + 1 + 1 + 1, 0, none⟩ = some u4) (h5 : w.cell? ⟨n + 1 + 1 + 1 + 1 + 1, 0, none⟩ = some u5) (h6 : w.cell? ⟨n + 1 + 1 + 1 + 1 + 1 + 1, 0, none⟩ = some u6) (h7 : w.cell? ⟨n + 1 + 1 + 1 + 1 + 1 + 1 + 1, 0, none⟩ = some u7) :
    (four w n v4 v5 v6 v7).cell? ⟨n + 1 + 1 + 1 + 1, 0, none⟩ = some v4 ∧ (four w n v4 v5 v6 v7).cell? ⟨n + 1 + 1 + 1 + 1 + 1, 0, none⟩ = some v5 ∧ (four w n v4 v5 v6 v7).cell? ⟨n + 1 + 1 + 1 + 1 + 1 + 1, 0, none⟩ = some v6 ∧ (four w n v4 v5 v6 v7).cell? ⟨n + 1 + 1 + 1 + 1 + 1 + 1 + 1, 0, none⟩ = some v7 := by
  have oth : ∀ (Y : World) (a b : Nat) (v : Value), a ≠ b → (Y.setCell ⟨b, 0, none⟩ v).cell? ⟨a, 0, none⟩ = Y.cell? ⟨a, 0, none⟩ := fun Y a b v h => World.cell?_setCell_other _ _ _ _ (by intro e; cases e; exact h rfl)
  have sam : ∀ (Y : World) (a : Nat) (u v : Value), Y.cell? ⟨a, 0, none⟩ = some u → (Y.setCell ⟨a, 0, none⟩ v).cell? ⟨a, 0, none⟩ = some v := fun Y a u v h => World.cell?_setCell_same' _ _ _ (by rw [h]; rfl)
  unfold four
  refine ⟨?_, ?_, ?_, ?_⟩
  · rw [oth _ _ _ _ (by omega), oth _ _ _ _ (by omega), oth _ _ _ _ (by omega)]; exact sam _ _ _ _ h4
  · rw [oth _ _ _ _ (by omega), oth _ _ _ _ (by omega)]; exact sam _ _ u5 _ (by rw [oth _ _ _ _ (by omega)]; exact h5)
  · rw [oth _ _ _ _ (by omega)]; exact sam _ _ u6 _ (by rw [oth _ _ _ _ (by omega), oth _ _ _ _ (by omega)]; exact h6)
  · exact sam _ _ u7 _ (by rw [oth _ _ _ _ (by omega), oth _ _ _ _ (by omega), oth _ _ _ _ (by omega)]; exact h7)
theorem four_below {A w : World} {n : Nat} {v4 v5 v6 v7 : Value} (h : Below n A w) : Below n A (four w n v4 v5 v6 v7) := by
  unfold four
  exact (((h.setCell (p := ⟨n + 1 + 1 + 1 + 1, 0, none⟩) (by simp only; omega) _).setCell (p := ⟨n + 1 + 1 + 1 + 1 + 1, 0, none⟩) (by simp only; omega) _).setCell (p := ⟨n + 1 + 1 + 1 + 1 + 1 + 1, 0, none⟩) (by simp only; omega) _).setCell (p := ⟨n + 1 + 1 + 1 + 1 + 1 + 1 + 1, 0, none⟩) (by simp only; omega) _
def WitR (q : Quantity) (l : List Reading) (t x : Int) (w : World) (e : Ending) (w' : World) : Prop :=
  Below w.heap.size w w' ∧
  ((e = .returned (.tuple #[.slice none 0 0, .slice none 0 0, .bool false, .int .i64 (possE q l t)]) ∧ (possE q l t = 0 → ∀ F ∈ subsN q.bad.toNat q.gs.length 0 [], ¬ WitOk q l t x F)) ∨
   (possE q l t = 0 ∧ ∃ (F : List Int) (vA : Option Addr) (vc : Nat) (v2 : Value), F ∈ subsN q.bad.toNat q.gs.length 0 [] ∧ WitOk q l t x F ∧ e = .returned (.tuple #[.slice vA F.length vc, v2, .bool true, .int .i64 0]) ∧
      Sl w' w'.heap.size 1 encInt1 vA F ∧ w'.ownsRow w.heap.size 3 1 v2 (l.map fun r => witV q l t x F r.t).length ((l.map fun r => witV q l t x F r.t).map (.int .i64))))
theorem sorted_inj {L : List K} (hs : L.Pairwise fun a b => a.t < b.t) {a b : K} (ha : a ∈ L) (hb : b ∈ L) (h : a.t = b.t) : a = b := by
  obtain ⟨i, hi, rfl⟩ := List.mem_iff_getElem.1 ha
  obtain ⟨j, hj, rfl⟩ := List.mem_iff_getElem.1 hb
  rcases Nat.lt_trichotomy i j with h1 | h1 | h1
  · have := (List.pairwise_iff_getElem.1 hs) i j hi hj h1; omega
  · subst h1; rfl
  · have := (List.pairwise_iff_getElem.1 hs) j i hj hi h1; omega
theorem mergedX_bnd {q : Quantity} {l : List Reading} {t : Int} (hg : Good q l) (ht : 0 ≤ t ∧ t ≤ 100000) {F : List Int} {x : Int} {ms : List K} (hc : Covers ms (allK q l F (moreX t x))) (hs : ms.Pairwise fun a b => a.t < b.t) : ∀ y ∈ ms, BndW 1000000000000 y := by
  intro y hy
  obtain ⟨⟨a, ha, a1, a2⟩, ⟨c, hcm, c1, c2⟩⟩ := hc.2 y hy
  by_cases hyt : y.t = t
  · obtain ⟨b, hb, b1, b2, b3⟩ := hc.1 ⟨t, -4000000000, 4000000000⟩ (by simp [allK, moreX])
    simp only at b1 b2 b3
    obtain rfl := sorted_inj hs hy hb (by omega)
    unfold BndW; omega
  · have key : ∀ z ∈ allK q l F (moreX t x), z.t = y.t → BndK 1000000000000 z := fun z hz hzt => by
      refine allK_bnd hg F (more := [⟨t, -4000000000, 4000000000⟩]) (fun u hu => by simp at hu; subst hu; unfold BndK; simp only; omega) z ?_
      simp only [allK, moreX, List.mem_cons, List.mem_append, List.not_mem_nil, or_false] at hz ⊢
      rcases hz with h | (h | h) | h
      · exact .inl h
      · subst h; exact absurd hzt (by simp only; omega)
      · exact .inr (.inl h)
      · exact .inr (.inr h)
    have k1 := key a ha (by omega)
    have k2 := key c hcm (by omega)
    unfold BndK at k1 k2
    unfold BndW
    omega
theorem wpListIn_bridge {P : Program} {lp n : Nat} {ops : Array Oper} {Q : Exit → Act → World → Prop} {o : Oper} {rest : List Oper} {a : Act} {w : World} (hd : ∀ c, o.op ≠ .defer c)
    (h : ∀ K : Act → World → Prop, (∀ a w, wpListIn (Fence.wide.inRound lp) n P ops Q rest a w → K a w) → wpList P ops (onlyN K) [o] a w) : wpListIn (Fence.wide.inRound lp) n P ops Q (o :: rest) a w := by
  refine wpListIn_step fun K hK => ?_
  have h1 := h K hK
  unfold wpList at h1
  split
  · rename_i hw
    simp only [hw, if_true] at h1
    rcases h1 with h1 | h1
    · exact oper_in_round hd (oper_onlyN h1)
    · exact (onlyN_out h1.2).elim
  · rename_i hw
    simp only [hw] at h1
    exact ⟨fun _ _ => trivial, h1⟩
/-- the narrowed nodes: the least history, at each of the nodes' times -/
theorem nn_spec {q : Quantity} {l : List Reading} {t : Int} (hg : Good q l) {F : List Int} {x : Int} {ms nn : List K} (hc : Covers ms (allK q l F (moreX t x))) (hs : ms.Pairwise fun a b => a.t < b.t) (hb : ∀ y ∈ ms, BndW 1000000000000 y)
    (hall : ∀ n ∈ fwdK q.rise q.fall ms, n.lo ≤ n.hi) (hnn : nn = bwdK q.rise q.fall (fwdK q.rise q.fall ms)) :
    WitOk q l t x F ∧ nn.length = ms.length ∧ (nn.Pairwise fun a b => a.t < b.t) ∧ (∀ y ∈ nn, y.lo = witV q l t x F y.t ∧ -1000000000000 ≤ y.lo ∧ y.lo ≤ 1000000000000 ∧ 0 ≤ y.t ∧ y.t ≤ 100000) ∧ ∀ b ∈ allK q l F (moreX t x), ∃ y ∈ nn, y.t = b.t := by
  have hs2 : SortedK ms := hs.imp fun h => Int.le_of_lt h
  have hok : WitOk q l t x F := hc.agree.1 ((fwd_agree hg.rise.1 hg.fall.1 ms hs2).1 hall)
  have hl : nn.length = ms.length := by rw [hnn, bwdK_length, fwdK_length]
  have hne : allK q l F (moreX t x) ≠ [] := by simp [allK]
  have hsp : ∀ i (hi : i < nn.length), nn[i].t = (ms[i]'(by omega)).t ∧ nn[i].lo = witV q l t x F nn[i].t := fun i hi => by
    subst hnn
    obtain ⟨h1, h2, h3⟩ := narrow_spec hg.rise.1 hg.fall.1 ms hs2 i (by omega) hi
    refine ⟨h1, ?_⟩
    rw [h1]
    exact (hc.isLo h2).unique _ _ (loX_is hne)
  refine ⟨hok, hl, ?_, ?_, ?_⟩
  · rw [List.pairwise_iff_getElem]
    intro i j hi hj hij
    rw [(hsp i hi).1, (hsp j hj).1]
    exact (List.pairwise_iff_getElem.1 hs) i j (by omega) (by omega) hij
  · intro y hy
    obtain ⟨i, hi, rfl⟩ := List.mem_iff_getElem.1 hy
    obtain ⟨h1, h2⟩ := hsp i hi
    obtain ⟨⟨a, ha, a1, a2⟩, ⟨c, hcm, c1, c2⟩⟩ := hc.2 (ms[i]'(by omega)) (List.getElem_mem _)
    have k1 := lo_keeps hok a ha
    have k2 := lo_keeps hok c hcm
    have kb := hb _ (List.getElem_mem (show i < ms.length by omega))
    have e1 : a.t = nn[i].t := by omega
    have e2 : c.t = nn[i].t := by omega
    rw [e1] at k1
    rw [e2] at k2
    unfold BndW at kb
    unfold witV at h2 ⊢
    refine ⟨h2, ?_, ?_, ?_, ?_⟩ <;> omega
  · intro b hbm
    obtain ⟨a, ha, h1, _⟩ := hc.1 b hbm
    obtain ⟨i, hi, rfl⟩ := List.mem_iff_getElem.1 ha
    exact ⟨nn[i]'(by omega), List.getElem_mem _, by rw [(hsp i (by omega)).1]; exact h1⟩
/-- a map that was written so far -/
def MapHas (X : World) (b n : Nat) (S : List K) : Prop := ∃ D : DataW Unit, X.ownsMap Try.prog 3 (plainElem Try.prog 3) b n D ∧ Maps.IsMap D ∧ ∀ y ∈ S, D.atKey (.int .i64 y.t) (.lit (.int .i64 0)) = .lit (.int .i64 y.lo)
theorem MapHas.below {X Y : World} {b n : Nat} {S : List K} (h : MapHas X b n S) (hb : Below X.heap.size X Y) : MapHas Y b n S := by
  obtain ⟨D, ⟨es, clock, h1, h2⟩, h3⟩ := h
  exact ⟨D, ⟨es, clock, (hb.block b (Array.getElem?_eq_some_iff.1 h1).1).trans h1, h2⟩, h3⟩
theorem MapHas.lt {X : World} {b n : Nat} {S : List K} (h : MapHas X b n S) : b < X.heap.size := by
  obtain ⟨D, ⟨es, clock, h1, h2⟩, h3⟩ := h
  exact (Array.getElem?_eq_some_iff.1 h1).1
theorem MapHas.made (X : World) : MapHas (X.alloc (.map #[] 0)) X.heap.size 0 [] := ⟨.map [], World.ownsMap_made _ _ _ _, ⟨_, rfl⟩, by simp⟩
def lastK (nn : List K) : Nat → Int
  | 0 => 0
  | m + 1 => (nn.getD m default).lo
theorem MapHas.setCell {X : World} {b n : Nat} {S : List K} (h : MapHas X b n S) {p : Addr} (v : Value) (hp : b ≠ p.block) : MapHas (X.setCell p v) b n S := by
  obtain ⟨D, ⟨es, clock, h1, h2⟩, h3⟩ := h
  exact ⟨D, ⟨es, clock, (Below.heap_setCell _ _ _ _ hp).trans h1, h2⟩, h3⟩
theorem MapHas.grown {X Y : World} {b n : Nat} {S : List K} {row : Option Nat} (h : MapHas X b n S) (hg : X.grownBy Y row) (hne : row ≠ some b) : MapHas Y b n S := by
  obtain ⟨D, ⟨es, clock, h1, h2⟩, h3⟩ := h
  exact ⟨D, ⟨es, clock, (hg.block b (Array.getElem?_eq_some_iff.1 h1).1 (fun e => hne e.symm)).trans h1, h2⟩, h3⟩
theorem MapHas.update {X : World} {b k : Nat} {S : List K} (h : MapHas X b k S) (hk : k ≤ 1000) (y : K) (hS : ∀ z ∈ S, z.t ≠ y.t) (h1 : 0 ≤ y.t ∧ y.t ≤ 100000) (h2 : -1000000000000 ≤ y.lo ∧ y.lo ≤ 1000000000000) :
    ∃ X', (Instr.mapUpdate 95 (.map (some b)) (.int .i64 y.t) (.int .i64 y.lo)).run Try.prog X = .ok () X' ∧ MapHas X' b (k + 1) (S ++ [y]) ∧ X.grownBy X' (some b) := by
  obtain ⟨D, ho, hm, ha⟩ := h
  obtain ⟨X', hrun, ho', hg⟩ := ho.update (Maps.int_keyed Try.underlying3) Try.underlying95 (by unfold maxLen; omega) (Maps.keyOf_int_mk Try.underlying3 (Go.WalkArith.wf_i64 (n := y.t) (by omega))) (plainElem_int Try.underlying3 (Go.WalkArith.wf_i64 (n := y.lo) (by omega)))
  refine ⟨X', hrun, ⟨_, ho', ?_, ?_⟩, hg⟩
  · obtain ⟨es, rfl⟩ := hm; exact ⟨_, rfl⟩
  · intro z hz
    rw [List.mem_append] at hz
    rcases hz with hz | hz
    · rw [Maps.atKey_put_other (fun e => hS z hz (by simpa using e))]
      exact ha z hz
    · simp at hz; subst hz
      have hkl : WideAt.IsKeyLit (.int .i64 z.t) := trivial
      exact Maps.atKey_put_same hm hkl _ _
theorem MapHas.look {X : World} {b k : Nat} {S : List K} (h : MapHas X b k S) {y : K} (hy : y ∈ S) (h1 : 0 ≤ y.t ∧ y.t ≤ 100000) :
    (Instr.lookup 95 (.map (some b)) (.int .i64 y.t) false).run Try.prog X = .ok (.int .i64 y.lo) X := by
  obtain ⟨D, ho, hm, ha⟩ := h
  obtain ⟨c, hrun, hat, _⟩ := ho.lookup_int (Maps.int_keyed Try.underlying3) Try.underlying95 Try.underlying3 (by kernel_rfl) (Maps.keyOf_int_mk Try.underlying3 (Go.WalkArith.wf_i64 (n := y.t) (by omega)))
  rw [ha y hy] at hat
  cases hat
  exact hrun
theorem own_setO {w : World} {base e size n : Nat} {v : Value} {xs : List Value} (h : w.ownsRow base e size v n xs) {p : Addr} (hp : p.block < base) (u : Value) : (w.setCell p u).ownsRow base e size v n xs :=
  h.kept (row := some p.block) ⟨rfl, rfl, rfl, by simp [World.setCell], fun i _ hne => Below.heap_setCell w p u i (fun e => hne (by rw [e]))⟩ (.inr fun e => by have := (h.lt _ e).1; omega)
/-- all that lay is as it was, but for one block -/
structure But (m : Nat) (X Y : World) : Prop where
  os : Y.os = X.os
  tape : Y.tape = X.tape
  output : Y.output = X.output
  size : X.heap.size ≤ Y.heap.size
  same : ∀ i, i < X.heap.size → i ≠ m → Y.heap[i]? = X.heap[i]?
theorem But.refl (m : Nat) (X : World) : But m X X := ⟨rfl, rfl, rfl, Nat.le_refl _, fun _ _ _ => rfl⟩
theorem But.below {m : Nat} {X Y Z : World} (h : But m X Y) (hb : Below X.heap.size Y Z) : But m X Z :=
  ⟨hb.os.trans h.os, hb.tape.trans h.tape, hb.output.trans h.output, Nat.le_trans h.size hb.size, fun i hi hne => (hb.block i hi).trans (h.same i hi hne)⟩
theorem But.after {m : Nat} {A X Y : World} (hb : Below A.heap.size A X) (h : But m X Y) : But m A Y :=
  ⟨h.os.trans hb.os, h.tape.trans hb.tape, h.output.trans hb.output, Nat.le_trans hb.size h.size, fun i hi hne => (h.same i (by have := hb.size; omega) hne).trans (hb.block i hi)⟩
theorem But.setCell {m : Nat} {X Y : World} (h : But m X Y) {p : Addr} (hp : p.block = m) (v : Value) : But m X (Y.setCell p v) :=
  ⟨h.os, h.tape, h.output, by have := h.size; simpa [World.setCell] using this, fun i hi hne => (Below.heap_setCell _ _ _ _ (by omega)).trans (h.same i hi hne)⟩
theorem But.cell {m : Nat} {X Y : World} (h : But m X Y) {b o : Nat} (hb : b < X.heap.size) (hne : b ≠ m) : Y.cell? ⟨b, o, none⟩ = X.cell? ⟨b, o, none⟩ := by
  simp only [World.cell?]; rw [h.same b hb hne]
theorem But.frozen {m : Nat} {X Y : World} (h : But m X Y) {b o : Nat} (hb : b < X.heap.size) (hne : b ≠ m) : Y.frozen? ⟨b, o, none⟩ = X.frozen? ⟨b, o, none⟩ := by
  simp only [World.frozen?]; rw [h.same b hb hne]
theorem But.belowN {m n : Nat} {X Y : World} (h : But m X Y) (hn : n ≤ m) (hx : n ≤ X.heap.size) : Below n X Y :=
  ⟨h.os, h.tape, h.output, h.size, fun i hi => h.same i (by omega) (by omega)⟩
theorem But.mapHas {m : Nat} {X Y : World} (h : But m X Y) {b n : Nat} {S : List K} (hm : MapHas X b n S) (hb : b ≠ m) : MapHas Y b n S := by
  have hlt := hm.lt
  obtain ⟨D, ⟨es, clock, h1, h2⟩, h3⟩ := hm
  exact ⟨D, ⟨es, clock, (h.same b hlt hb).trans h1, h2⟩, h3⟩
theorem sl_cell {α : Type} {w : World} {B k : Nat} {enc : α → List Value} {A : Option Addr} {xs : List α} (h : Sl w B k enc A xs) (h0 : 0 < xs.length) : ∃ b off, A = some ⟨b, off, none⟩ ∧ b < B ∧ ∀ i (h : i < xs.length) j v, (enc xs[i])[j]? = some v → w.cell? ⟨b, off + i * k + j, none⟩ = some v := h h0
/-- a store that may have come up -/
def sto (b : Bool) (X : World) (p : Addr) (v : Value) : World := bif b then X.setCell p v else X
theorem sto_other {b : Bool} {X : World} {p r : Addr} {v : Value} (h : r ≠ p) : (sto b X p v).cell? r = X.cell? r := by
  cases b
  · rfl
  · exact World.cell?_setCell_other _ _ _ _ h.symm
theorem sto_frozen {b : Bool} {X : World} {p r : Addr} {v : Value} : (sto b X p v).frozen? r = X.frozen? r := by
  cases b
  · rfl
  · exact World.frozen?_setCell ..
theorem But.keeps {m : Nat} {X Y : World} (h : But m X Y) {o : Nat} {u : Value} (hc : X.cell? ⟨m, o, none⟩ = some u) : KeepsOthers X Y := by
  refine ⟨h.size, fun k ob hk ho => ?_⟩
  by_cases hm : k = m
  · subst hm
    simp only [World.cell?] at hc
    rw [hk] at hc
    cases ob <;> simp [Obj.isCells] at ho hc
  · exact (h.same k (Array.getElem?_eq_some_iff.1 hk).1 hm).trans hk
theorem four_heap {X : World} {n b : Nat} {v4 v5 v6 v7 : Value} (h : n + 8 ≤ b) : (four X n v4 v5 v6 v7).heap[b]? = X.heap[b]? := by
  unfold four
  rw [Below.heap_setCell _ _ _ _ (by simp only; omega), Below.heap_setCell _ _ _ _ (by simp only; omega), Below.heap_setCell _ _ _ _ (by simp only; omega), Below.heap_setCell _ _ _ _ (by simp only; omega)]
theorem four_own {X : World} {n base e size k : Nat} {v v4 v5 v6 v7 : Value} {xs : List Value} (h : X.ownsRow base e size v k xs) (hb : n + 8 ≤ base) : (four X n v4 v5 v6 v7).ownsRow base e size v k xs := by
  unfold four
  exact own_setO (own_setO (own_setO (own_setO h (by simp only; omega) _) (by simp only; omega) _) (by simp only; omega) _) (by simp only; omega) _
theorem four_keeps {X : World} {n : Nat} {v4 v5 v6 v7 : Value} : KeepsOthers X (four X n v4 v5 v6 v7) := by
  unfold four
  exact (((KeepsOthers.setCell _ _ _).trans (KeepsOthers.setCell _ _ _)).trans (KeepsOthers.setCell _ _ _)).trans (KeepsOthers.setCell _ _ _)
theorem leavesM_one {F : Fence} {n : Nat} {P : Program} {fn : Func} {tmps : Array Value} {R : Ending → World → Prop} {v : Value} {D : Nat} {W : World} (h0 : W.heap[D]? = some (.deferred (some [])))
    (hv : ∀ W', W7.Shut [D] W W' → (results fn tmps).run P W' = .ok v W' ∧ R (.returned v) W') : LeavesInM F n P fn tmps R [mkD D] .returning W := by
  have hS : ∀ o, W7.Shut [D] W (W.putObj D o) := fun o => ⟨rfl, rfl, rfl, by simp, fun i hi => World.putObj_heap_other (by simpa using hi)⟩
  exact ⟨by simp, .inl ⟨D, _, rfl, run_takeDeferred h0, v, (hv _ (hS _)).1, (hv _ (hS _)).2⟩⟩
theorem shut_cell {W W' : World} {Ds : List Nat} {b o : Nat} (hS : W7.Shut Ds W W') (h : b ∉ Ds) : W'.cell? ⟨b, o, none⟩ = W.cell? ⟨b, o, none⟩ := by
  simp only [World.cell?]; rw [hS.same b h]
theorem own_nc {W W' : World} {row : Option Nat} {base e size n : Nat} {v : Value} {xs : List Value} (hg : W.grownBy W' row) (hr : ∀ r, row = some r → ∃ o : Obj, W.heap[r]? = some o ∧ o.isCells = false) (h : W.ownsRow base e size v n xs) : W'.ownsRow base e size v n xs := by
  refine h.kept hg ?_
  cases hb : v.ownBlock with
  | none => exact .inl rfl
  | some k =>
    refine .inr fun e => ?_
    obtain ⟨o, h1, h2⟩ := hr k e.symm
    rcases h.2 with ⟨rfl, h0⟩ | ⟨g, cap, cur, rfl, _, hc, _⟩
    · simp [Value.ownBlock] at hb
    · simp [Value.ownBlock] at hb
      subst hb
      rw [hc] at h1
      cases h1
      cases h2
def WitI (q : Quantity) (l : List Reading) (t x : Int) (W3 : World) (ys : List (List Int × Value)) (X : World) : Prop := Below W3.heap.size W3 X ∧ ∀ F ∈ ys.map Prod.fst, ¬ WitOk q l t x F
theorem witI_own {q : Quantity} {l : List Reading} {t x : Int} {W3 : World} : OwnFrom W3.heap.size (WitI q l t x W3) := by
  rintro ys X X' row ⟨hb, h8⟩ hg hr
  have hsz := hb.size
  have key : ∀ i, i < W3.heap.size → X'.heap[i]? = X.heap[i]? := fun i hi => hg.block i (by omega) (fun e => by have := (hr i e.symm).1; omega)
  exact ⟨⟨hg.os.trans hb.os, hg.tape.trans hb.tape, hg.output.trans hb.output, Nat.le_trans hsz hg.size, fun i hi => (key i (by omega)).trans (hb.block i hi)⟩, h8⟩
def WitXs (q : Quantity) (l : List Reading) (t x : Int) (n0 : Nat) (w : World) (c : Code) (ys : List (List Int × Value)) (X : World) : Prop :=
  c = .ret ∧ ∃ (F : List Int) (vA : Option Addr) (vc : Nat) (v2 : Value), F ∈ ys.map Prod.fst ∧ WitOk q l t x F ∧ Below n0 w X ∧
    X.cell? ⟨n0 + 1 + 1 + 1 + 1, 0, none⟩ = some (.slice vA F.length vc) ∧ X.cell? ⟨n0 + 1 + 1 + 1 + 1 + 1, 0, none⟩ = some v2 ∧ X.cell? ⟨n0 + 1 + 1 + 1 + 1 + 1 + 1, 0, none⟩ = some (.bool true) ∧ X.cell? ⟨n0 + 1 + 1 + 1 + 1 + 1 + 1 + 1, 0, none⟩ = some (.int .i64 0) ∧
    IRow n0 X vA F ∧ X.ownsRow n0 3 1 v2 (l.map fun r => witV q l t x F r.t).length ((l.map fun r => witV q l t x F r.t).map (.int .i64))
theorem witXs_own {q : Quantity} {l : List Reading} {t x : Int} {n0 B : Nat} {w : World} (hB : n0 + 8 ≤ B) (hw : w.heap.size = n0) (c : Code) : OwnFrom B (WitXs q l t x n0 w c) := by
  rintro ys X X' row ⟨hc, F, vA, vc, v2, hF, hok, hb, c4, c5, c6, c7, hi, ho⟩ hg hr
  have lt : ∀ b v, X.cell? ⟨b, 0, none⟩ = some v → b < X.heap.size := fun b v h => by
    rcases Nat.lt_or_ge b X.heap.size with h1 | h1
    · exact h1
    · have h2 : X.heap[b]? = none := Array.getElem?_eq_none h1
      simp only [World.cell?] at h; rw [h2] at h; cases h
  have cell : ∀ b v, b < B → X.cell? ⟨b, 0, none⟩ = some v → X'.cell? ⟨b, 0, none⟩ = some v := fun b v hb h => by
    have h1 := lt b v h
    simp only [World.cell?] at h ⊢; rw [hg.block b h1 (fun e => by have := (hr b e.symm).1; omega)]; exact h
  refine ⟨hc, F, vA, vc, v2, hF, hok, ⟨hg.os.trans hb.os, hg.tape.trans hb.tape, hg.output.trans hb.output, Nat.le_trans hb.size hg.size, fun i hi => (hg.block i (by have := hb.size; omega) (fun e => by have := (hr i e.symm).1; omega)).trans (hb.block i hi)⟩,
    cell _ _ (by omega) c4, cell _ _ (by omega) c5, cell _ _ (by omega) c6, cell _ _ (by omega) c7, fun h0 => ?_, own_nc hg (fun r e => (hr r e).2) ho⟩
  obtain ⟨b, cs, fz, rfl, h1, h2, h3⟩ := hi h0
  refine ⟨b, cs, fz, rfl, h1, (hg.block b (Array.getElem?_eq_some_iff.1 h2).1 (fun e => ?_)).trans h2, h3⟩
  obtain ⟨o, k1, k2⟩ := (hr b e.symm).2
  rw [h2] at k1; cases k1; cases k2
set_option maxHeartbeats 1000000 in
set_option maxRecDepth 100000 in
theorem Witness_any (q : Quantity) (l : List Reading) (t x : Int) (A : Option Addr) (c B : Nat) (w : World) (hq : QIn w B q) (hA : Sl w B 3 encR A l) (hB : B ≤ w.heap.size) (hlc : l.length ≤ c) (hc : c ≤ 9223372036854775807) (h12 : l.length ≤ 64 → l.length ≤ 12) :
    Calls Try.prog 27 #[.agg #[.string q.name, .int .i64 q.lo, .int .i64 q.hi, .int .i64 q.rise, .int .i64 q.fall, .int .i64 q.bad, .slice q.gA q.gs.length q.gc], .slice A l.length c, .int .i64 t, .int .i64 x] w (WitR q l t x w) := by
  refine (callsIn_wide (n := 9)).1 ?_
  refine callsIn_of_wp_marks Try.func27 rfl trivial ?_ rfl
  simp only [Try.ntmps27, List.size_toArray, List.length_cons, List.length_nil, Nat.reduceAdd, Nat.reduceSub, Array.replicate_succ, Array.replicate_zero, List.push_toArray, List.append_toArray, List.nil_append, List.cons_append]
  refine wpIn_wide.2 ?_
  obtain ⟨cs, hcs⟩ : ∃ cs : Array Value, cs = #[.string q.name, .int .i64 q.lo, .int .i64 q.hi, .int .i64 q.rise, .int .i64 q.fall, .int .i64 q.bad, .slice q.gA q.gs.length q.gc] := ⟨_, rfl⟩
  obtain ⟨W0, hW0⟩ : ∃ W0, W0 = (((((((w.alloc (.cells cs 26)).alloc (.cells #[.slice A l.length c] 27)).alloc (.cells #[.int .i64 t] 3)).alloc (.cells #[.int .i64 x] 3)).alloc (.cells #[.slice none 0 0] 35)).alloc (.cells #[.slice none 0 0] 35)).alloc (.cells #[.bool false] 4)).alloc (.cells #[.int .i64 0] 31) := ⟨_, rfl⟩
  have hs0 : W0.heap.size = w.heap.size + 8 := by rw [hW0]; simp
  have HB0 := Lib.hid (show Below w.heap.size w W0 by rw [hW0]; exact (by (repeat (refine Below.alloc ?_ (by first | exact Nat.le_refl _ | omega | (simp; done) | (simp; omega)) _)); exact Below.refl _ _))
  have Hc0 := Lib.hid (show (∀ j v, cs[j]? = some v → W0.cell? ⟨w.heap.size, j, none⟩ = some v) ∧ W0.cell? ⟨w.heap.size + 1, 0, none⟩ = some (.slice A l.length c) ∧ W0.cell? ⟨w.heap.size + 1 + 1, 0, none⟩ = some (.int .i64 t) ∧ W0.cell? ⟨w.heap.size + 1 + 1 + 1, 0, none⟩ = some (.int .i64 x) ∧
      (W0.cell? ⟨w.heap.size + 1 + 1 + 1 + 1, 0, none⟩ = some (.slice none 0 0) ∧ W0.frozen? ⟨w.heap.size + 1 + 1 + 1 + 1, 0, none⟩ = false) ∧ (W0.cell? ⟨w.heap.size + 1 + 1 + 1 + 1 + 1, 0, none⟩ = some (.slice none 0 0) ∧ W0.frozen? ⟨w.heap.size + 1 + 1 + 1 + 1 + 1, 0, none⟩ = false) ∧
      (W0.cell? ⟨w.heap.size + 1 + 1 + 1 + 1 + 1 + 1, 0, none⟩ = some (.bool false) ∧ W0.frozen? ⟨w.heap.size + 1 + 1 + 1 + 1 + 1 + 1, 0, none⟩ = false) ∧ (W0.cell? ⟨w.heap.size + 1 + 1 + 1 + 1 + 1 + 1 + 1, 0, none⟩ = some (.int .i64 0) ∧ W0.frozen? ⟨w.heap.size + 1 + 1 + 1 + 1 + 1 + 1 + 1, 0, none⟩ = false) by
    have lift : ∀ (Y : World) (b o : Nat) (u : Value) (ob : Obj), b < Y.heap.size → Y.cell? ⟨b, o, none⟩ = some u → (Y.alloc ob).cell? ⟨b, o, none⟩ = some u := fun Y b o u ob hb h => by rw [World.cell?_alloc_lt _ _ _ (by simpa using hb)]; exact h
    have liftf : ∀ (Y : World) (b o : Nat) (ob : Obj), b < Y.heap.size → Y.frozen? ⟨b, o, none⟩ = false → (Y.alloc ob).frozen? ⟨b, o, none⟩ = false := fun Y b o ob hb h =>
      (((Below.refl Y.heap.size Y).alloc (Nat.le_refl _) ob).frozen (p := ⟨b, o, none⟩) hb).trans h
    have new : ∀ (Y : World) (b j : Nat) (u : Value) (cc : Array Value) (e : TypeId), Y.heap.size = b → cc[j]? = some u → (Y.alloc (.cells cc e)).cell? ⟨b, j, none⟩ = some u := fun Y b j u cc e hb h => by subst hb; exact alloc_cell h
    have newf : ∀ (Y : World) (b j : Nat) (cc : Array Value) (e : TypeId), Y.heap.size = b → (Y.alloc (.cells cc e)).frozen? ⟨b, j, none⟩ = false := fun Y b j cc e hb => by subst hb; exact alloc_free
    rw [hW0]
    exact ⟨fun j v hv => lift _ _ _ _ _ (by simp only [World.size_alloc]; omega) (lift _ _ _ _ _ (by simp only [World.size_alloc]; omega) (lift _ _ _ _ _ (by simp only [World.size_alloc]; omega) (lift _ _ _ _ _ (by simp only [World.size_alloc]; omega) (lift _ _ _ _ _ (by simp only [World.size_alloc]; omega) (lift _ _ _ _ _ (by simp only [World.size_alloc]; omega) (lift _ _ _ _ _ (by simp only [World.size_alloc]; omega) (new _ _ _ _ _ _ rfl hv))))))), lift _ _ _ _ _ (by simp only [World.size_alloc]; omega) (lift _ _ _ _ _ (by simp only [World.size_alloc]; omega) (lift _ _ _ _ _ (by simp only [World.size_alloc]; omega) (lift _ _ _ _ _ (by simp only [World.size_alloc]; omega) (lift _ _ _ _ _ (by simp only [World.size_alloc]; omega) (lift _ _ _ _ _ (by simp only [World.size_alloc]; omega) (new _ _ _ _ _ _ (by simp only [World.size_alloc]) rfl)))))), lift _ _ _ _ _ (by simp only [World.size_alloc]; omega) (lift _ _ _ _ _ (by simp only [World.size_alloc]; omega) (lift _ _ _ _ _ (by simp only [World.size_alloc]; omega) (lift _ _ _ _ _ (by simp only [World.size_alloc]; omega) (lift _ _ _ _ _ (by simp only [World.size_alloc]; omega) (new _ _ _ _ _ _ (by simp only [World.size_alloc]) rfl))))), lift _ _ _ _ _ (by simp only [World.size_alloc]; omega) (lift _ _ _ _ _ (by simp only [World.size_alloc]; omega) (lift _ _ _ _ _ (by simp only [World.size_alloc]; omega) (lift _ _ _ _ _ (by simp only [World.size_alloc]; omega) (new _ _ _ _ _ _ (by simp only [World.size_alloc]) rfl)))), ⟨lift _ _ _ _ _ (by simp only [World.size_alloc]; omega) (lift _ _ _ _ _ (by simp only [World.size_alloc]; omega) (lift _ _ _ _ _ (by simp only [World.size_alloc]; omega) (new _ _ _ _ _ _ (by simp only [World.size_alloc]) rfl))), liftf _ _ _ _ (by simp only [World.size_alloc]; omega) (liftf _ _ _ _ (by simp only [World.size_alloc]; omega) (liftf _ _ _ _ (by simp only [World.size_alloc]; omega) (newf _ _ _ _ _ (by simp only [World.size_alloc]))))⟩, ⟨lift _ _ _ _ _ (by simp only [World.size_alloc]; omega) (lift _ _ _ _ _ (by simp only [World.size_alloc]; omega) (new _ _ _ _ _ _ (by simp only [World.size_alloc]) rfl)), liftf _ _ _ _ (by simp only [World.size_alloc]; omega) (liftf _ _ _ _ (by simp only [World.size_alloc]; omega) (newf _ _ _ _ _ (by simp only [World.size_alloc])))⟩, ⟨lift _ _ _ _ _ (by simp only [World.size_alloc]; omega) (new _ _ _ _ _ _ (by simp only [World.size_alloc]) rfl), liftf _ _ _ _ (by simp only [World.size_alloc]; omega) (newf _ _ _ _ _ (by simp only [World.size_alloc]))⟩, ⟨new _ _ _ _ _ _ (by simp only [World.size_alloc]) rfl, newf _ _ _ _ _ (by simp only [World.size_alloc])⟩⟩)
  have HX := Lib.hid (fun (X : World) (hX : Below W0.heap.size W0 X) => show (∀ j v, cs[j]? = some v → X.cell? ⟨w.heap.size, j, none⟩ = some v) ∧ X.cell? ⟨w.heap.size + 1, 0, none⟩ = some (.slice A l.length c) ∧ X.cell? ⟨w.heap.size + 1 + 1, 0, none⟩ = some (.int .i64 t) ∧ X.cell? ⟨w.heap.size + 1 + 1 + 1, 0, none⟩ = some (.int .i64 x) from
    ⟨fun j v hv => (hX.cell (p := ⟨w.heap.size, j, none⟩) (by simp only; omega)).trans (Hc0.out.1 j v hv), (hX.cell (p := ⟨w.heap.size + 1, 0, none⟩) (by simp only; omega)).trans Hc0.out.2.1, (hX.cell (p := ⟨w.heap.size + 1 + 1, 0, none⟩) (by simp only; omega)).trans Hc0.out.2.2.1, (hX.cell (p := ⟨w.heap.size + 1 + 1 + 1, 0, none⟩) (by simp only; omega)).trans Hc0.out.2.2.2.1⟩)
  have HY := Lib.hid (fun (X : World) (hX : Below W0.heap.size W0 X) => show (X.cell? ⟨w.heap.size + 1 + 1 + 1 + 1, 0, none⟩ = some (.slice none 0 0) ∧ X.frozen? ⟨w.heap.size + 1 + 1 + 1 + 1, 0, none⟩ = false) ∧ (X.cell? ⟨w.heap.size + 1 + 1 + 1 + 1 + 1, 0, none⟩ = some (.slice none 0 0) ∧ X.frozen? ⟨w.heap.size + 1 + 1 + 1 + 1 + 1, 0, none⟩ = false) ∧ (X.cell? ⟨w.heap.size + 1 + 1 + 1 + 1 + 1 + 1, 0, none⟩ = some (.bool false) ∧ X.frozen? ⟨w.heap.size + 1 + 1 + 1 + 1 + 1 + 1, 0, none⟩ = false) ∧ (X.cell? ⟨w.heap.size + 1 + 1 + 1 + 1 + 1 + 1 + 1, 0, none⟩ = some (.int .i64 0) ∧ X.frozen? ⟨w.heap.size + 1 + 1 + 1 + 1 + 1 + 1 + 1, 0, none⟩ = false) from by
    obtain ⟨_, _, _, _, ⟨a1, a2⟩, ⟨a3, a4⟩, ⟨a5, a6⟩, ⟨a7, a8⟩⟩ := Hc0.out
    exact ⟨⟨(hX.cell (p := ⟨w.heap.size + 1 + 1 + 1 + 1, 0, none⟩) (by simp only; omega)).trans a1, (hX.frozen (p := ⟨w.heap.size + 1 + 1 + 1 + 1, 0, none⟩) (by simp only; omega)).trans a2⟩, ⟨(hX.cell (p := ⟨w.heap.size + 1 + 1 + 1 + 1 + 1, 0, none⟩) (by simp only; omega)).trans a3, (hX.frozen (p := ⟨w.heap.size + 1 + 1 + 1 + 1 + 1, 0, none⟩) (by simp only; omega)).trans a4⟩, ⟨(hX.cell (p := ⟨w.heap.size + 1 + 1 + 1 + 1 + 1 + 1, 0, none⟩) (by simp only; omega)).trans a5, (hX.frozen (p := ⟨w.heap.size + 1 + 1 + 1 + 1 + 1 + 1, 0, none⟩) (by simp only; omega)).trans a6⟩, ⟨(hX.cell (p := ⟨w.heap.size + 1 + 1 + 1 + 1 + 1 + 1 + 1, 0, none⟩) (by simp only; omega)).trans a7, (hX.frozen (p := ⟨w.heap.size + 1 + 1 + 1 + 1 + 1 + 1 + 1, 0, none⟩) (by simp only; omega)).trans a8⟩⟩)
  have hws : w.heap.size < W0.heap.size := by omega
  have Hq := Lib.hid (fun (X : World) (hX : Below W0.heap.size W0 X) => (hq.mono hB).below (HB0.out.trans (hX.mono (Nat.le_of_lt hws))))
  have HA := Lib.hid (fun (X : World) (hX : Below W0.heap.size W0 X) => (hA.mono hB).below (HB0.out.trans (hX.mono (Nat.le_of_lt hws))))
  have HU := Lib.hid (fun (X : World) (hX : Below W0.heap.size W0 X) => show Below w.heap.size w X from HB0.out.trans (hX.mono (Nat.le_of_lt hws)))
  have HC := Lib.hid (checked_any q l A c w.heap.size W0 (Hq.out W0 (Below.refl _ _)) (HA.out W0 (Below.refl _ _)) (by omega) hlc hc)
  go_upto_region 1 with fail
  rw [← hcs, ← hW0]
  rw [hcs] at HX
  have HW0 := Lib.hid hW0
  have Hs0 := Lib.hid hs0
  obtain ⟨y0, y1, y2, y3⟩ := HX.out W0 (Below.refl _ _)
  have q0 : W0.cell? ⟨w.heap.size, 0, none⟩ = some (.string q.name) := y0 0 _ rfl
  have q1 : W0.cell? ⟨w.heap.size, 1, none⟩ = some (.int .i64 q.lo) := y0 1 _ rfl
  have q2 : W0.cell? ⟨w.heap.size, 2, none⟩ = some (.int .i64 q.hi) := y0 2 _ rfl
  have q3 : W0.cell? ⟨w.heap.size, 3, none⟩ = some (.int .i64 q.rise) := y0 3 _ rfl
  have q4 : W0.cell? ⟨w.heap.size, 4, none⟩ = some (.int .i64 q.fall) := y0 4 _ rfl
  have q5 : W0.cell? ⟨w.heap.size, 5, none⟩ = some (.int .i64 q.bad) := y0 5 _ rfl
  have q6 : W0.cell? ⟨w.heap.size, 6, none⟩ = some (.slice q.gA q.gs.length q.gc) := y0 6 _ rfl
  clear y0 hW0 hs0 hcs hq hA
  go_wp2_with (go_at_call 81; fail)
  refine HC.out.mono ?_
  rintro e w1 ⟨rfl, hb1⟩
  have HB1 := Lib.hid hb1
  have hs1 := hb1.size
  clear hb1 HC q0 q1 q2 q3 q4 q5 q6 y1 y2 y3
  obtain ⟨⟨a1, a2⟩, ⟨a3, a4⟩, ⟨a5, a6⟩, ⟨a7, a8⟩⟩ := HY.out w1 HB1.out
  obtain ⟨y0, y1, y2, y3⟩ := HX.out w1 HB1.out
  cases hce : (checkedE q l != 0)
  rotate_left
  · have HE := Lib.hid (show possE q l t = checkedE q l from by simp at hce; simp [possE, hce])
    have hce0 : checkedE q l ≠ 0 := by simpa using hce
    have hsz := Hs0.out
    obtain ⟨X4, hX4⟩ : ∃ X4, X4 = four w1 w.heap.size (.slice none 0 0) (.slice none 0 0) (.bool false) (.int .i64 (checkedE q l)) := ⟨_, rfl⟩
    obtain ⟨z4, z5, z6, z7⟩ : X4.cell? ⟨w.heap.size + 1 + 1 + 1 + 1, 0, none⟩ = some (.slice none 0 0) ∧ X4.cell? ⟨w.heap.size + 1 + 1 + 1 + 1 + 1, 0, none⟩ = some (.slice none 0 0) ∧ X4.cell? ⟨w.heap.size + 1 + 1 + 1 + 1 + 1 + 1, 0, none⟩ = some (.bool false) ∧ X4.cell? ⟨w.heap.size + 1 + 1 + 1 + 1 + 1 + 1 + 1, 0, none⟩ = some (.int .i64 (checkedE q l)) := by
      rw [hX4]; exact four_cells a1 a3 a5 a7
    have HBX := Lib.hid (show Below w.heap.size w X4 by rw [hX4]; exact four_below (HU.out w1 HB1.out))
    unfold four at hX4
    go_wp2
    rw [← hX4]
    refine ⟨.tuple #[.slice none 0 0, .slice none 0 0, .bool false, .int .i64 (checkedE q l)], by simp [results, Try.results27, go_sem, z4, z5, z6, z7], ?_⟩
    exact ⟨HBX.out, .inl ⟨by rw [HE.out], fun h => absurd h (by rw [HE.out]; exact hce0)⟩⟩
  have hce0 : checkedE q l = 0 := by simpa using hce
  have Hce := Lib.hid hce0
  obtain ⟨hgood, h64, hlohi, hbad0, hbadn⟩ := good_of hce0
  have hl12 := h12 h64
  have HG := Lib.hid hgood
  have hgl := hgood.gl
  clear hce0 hgood h12 hlc hc
  go_wp2_with (go_at_call 81; fail)
  have HTi := Lib.hid (isTime_any t)
  cases htm : isTm t
  · have HE := Lib.hid (show possE q l t = 1 from by simp [possE, Hce.out, htm])
    have hsz := Hs0.out
    obtain ⟨X4, hX4⟩ : ∃ X4, X4 = four w1 w.heap.size (.slice none 0 0) (.slice none 0 0) (.bool false) (.int .i64 1) := ⟨_, rfl⟩
    obtain ⟨z4, z5, z6, z7⟩ : X4.cell? ⟨w.heap.size + 1 + 1 + 1 + 1, 0, none⟩ = some (.slice none 0 0) ∧ X4.cell? ⟨w.heap.size + 1 + 1 + 1 + 1 + 1, 0, none⟩ = some (.slice none 0 0) ∧ X4.cell? ⟨w.heap.size + 1 + 1 + 1 + 1 + 1 + 1, 0, none⟩ = some (.bool false) ∧ X4.cell? ⟨w.heap.size + 1 + 1 + 1 + 1 + 1 + 1 + 1, 0, none⟩ = some (.int .i64 1) := by
      rw [hX4]; exact four_cells a1 a3 a5 a7
    have HBX := Lib.hid (show Below w.heap.size w X4 by rw [hX4]; exact four_below (HU.out w1 HB1.out))
    unfold four at hX4
    rw [htm] at HTi
    refine (HTi.out _).mono ?_
    rintro e w2 ⟨rfl, rfl⟩
    go_wp2
    rw [← hX4]
    refine ⟨.tuple #[.slice none 0 0, .slice none 0 0, .bool false, .int .i64 1], by simp [results, Try.results27, go_sem, z4, z5, z6, z7], ?_⟩
    exact ⟨HBX.out, .inl ⟨by rw [HE.out], fun h => absurd h (by rw [HE.out]; decide)⟩⟩
  have HE := Lib.hid (show possE q l t = 0 from by simp [possE, Hce.out, htm])
  have ht := isTm_true.1 htm
  rw [htm] at HTi
  refine (HTi.out _).mono ?_
  rintro e w2 ⟨rfl, rfl⟩
  obtain ⟨many, hmany⟩ : ∃ m : Nat, q.bad = (m : Int) := ⟨q.bad.toNat, by omega⟩
  have hmn : many ≤ q.gs.length := by omega
  have q5 : w1.cell? ⟨w.heap.size, 5, none⟩ = some (.int .i64 (many : Int)) := by rw [← hmany]; exact y0 5 _ rfl
  have q6 : w1.cell? ⟨w.heap.size, 6, none⟩ = some (.slice q.gA q.gs.length q.gc) := y0 6 _ rfl
  clear y0 y1 y2 y3 a1 a2 a3 a4 a5 a6 a7 a8 htm hce
  go_wp2_with (go_at_call 42; refine (subsets_any q.gs.length many _).mono ?_; rintro e w3 ⟨rfl, rfl⟩)
  refine (wpIn_wide (n := 9)).1 ?_
  obtain ⟨W3, hW3⟩ : ∃ W3, W3 = (w1.alloc (.cells #[.int .i64 q.gs.length] 3)).alloc (.cells #[.int .i64 many] 3) := ⟨_, rfl⟩
  rw [← hW3]
  have hs3 : W3.heap.size = w1.heap.size + 1 + 1 := by rw [hW3]; simp
  have hmb : W3.heap[w1.heap.size + 1]? = some (.cells #[.int .i64 many] 3 (0, 0)) := by
    rw [hW3]
    have := World.alloc_heap_new (w1.alloc (.cells #[.int .i64 q.gs.length] 3)) (.cells #[.int .i64 many] 3)
    simpa using this
  have hnb : W3.heap[w1.heap.size]? = some (.cells #[.int .i64 q.gs.length] 3 (0, 0)) := by
    rw [hW3]
    have := World.alloc_heap_new w1 (.cells #[.int .i64 q.gs.length] 3)
    exact (Below.heap_alloc _ _ _ (by simp)).trans (by simpa using this)
  have HB3 := Lib.hid (show Below W0.heap.size W0 W3 by rw [hW3]; exact (HB1.out.alloc (by omega) _).alloc (by simp; omega) _)
  have hsz := Hs0.out
  rw [hmany] at HX
  refine wpIn_rangeFunc_R (gf := 71) rfl (enters_of Try.func71 (by kernel_rfl) rfl) (subsets_seq q.gs.length many w1.heap.size (w1.heap.size + 1) w1.heap.size W3 (by omega) (by omega) ⟨by omega, hmb⟩ ⟨by omega, hnb⟩) KeepI.trans (fun W l o o' _ h ho => KeepI.put W l o o' h ho) (fun x W l o o' _ h ho hr => RY.put W l o o' h ho hr) (Below.refl _ _) (fun _ => rfl)
    (WitI q l t x W3) (WitXs q l t x w.heap.size w) witI_own (fun c => witXs_own (by omega) rfl c) ⟨Below.refl _ _, by simp⟩
    (fun x' => { tmps := #[.agg cs, .slice A l.length c, .int .i64 t, .int .i64 x, .pointer (some ⟨w.heap.size, 0, none⟩), .pointer (some ⟨w.heap.size + 1, 0, none⟩), .pointer (some ⟨w.heap.size + 1 + 1, 0, none⟩), .pointer (some ⟨w.heap.size + 1 + 1 + 1, 0, none⟩), .pointer (some ⟨w.heap.size + 1 + 1 + 1 + 1, 0, none⟩), .pointer (some ⟨w.heap.size + 1 + 1 + 1 + 1 + 1, 0, none⟩), .pointer (some ⟨w.heap.size + 1 + 1 + 1 + 1 + 1 + 1, 0, none⟩), .pointer (some ⟨w.heap.size + 1 + 1 + 1 + 1 + 1 + 1 + 1, 0, none⟩), .int .i64 (checkedE q l), x'.2, undef, undef, undef, undef, undef, undef, undef, undef, undef, .agg #[.string q.name, .int .i64 q.lo, .int .i64 q.hi, .int .i64 q.rise, .int .i64 q.fall, .int .i64 many, .slice q.gA q.gs.length q.gc], .slice A l.length c, .int .i64 (checkedE q l), .int .i64 (checkedE q l), .bool false, undef, .int .i64 t, .bool true, .bool false, .pointer (some ⟨w.heap.size, 6, none⟩), .slice q.gA q.gs.length q.gc, .int .i64 q.gs.length, .pointer (some ⟨w.heap.size, 5, none⟩), .int .i64 many, .func (.func 71) #[] #[.pointer (some ⟨w1.heap.size + 1, 0, none⟩), .pointer (some ⟨w1.heap.size, 0, none⟩)], x'.2, undef, undef, undef, undef, undef, undef, undef, undef, undef, undef, undef, undef, undef, undef, undef, undef, undef, undef, undef, undef, undef, undef, undef, undef, undef, undef, undef, undef, undef, undef, undef, undef, undef, undef, undef, undef, undef, undef, undef, undef, undef, undef, undef, undef, undef, undef, undef, undef, undef, undef, undef, undef, undef, undef, undef, undef, undef, undef, undef, undef, undef, undef, undef, undef, undef, undef, undef, undef, undef, undef, undef, undef, undef, undef, undef, undef], defers := [] }) ?assign ?body ?done ?stop
  case assign =>
    intro lp n' x' X K hK
    gi_wp2
    exact hK
  case stop =>
    rintro D c' pre X hD hSp ⟨rfl, F, vA, vc, v2, hF, hok, hb, c4, c5, c6, c7, hi, ho⟩ hk
    clear hmb hnb hW3
    refine wpIn_wide.2 ?_
    go_wp2
    refine leavesM_one (v := .tuple #[.slice vA F.length vc, v2, .bool true, .int .i64 0]) hk fun W' hSh => ?_
    have hDs : DsOk W3.heap.size [D] X := ⟨by simp, fun D' h' => by simp at h'; subst h'; exact ⟨hD, hk⟩⟩
    have z4 := (shut_cell (o := 0) hSh (show w.heap.size + 1 + 1 + 1 + 1 ∉ [D] by simp; omega)).trans c4
    have z5 := (shut_cell (o := 0) hSh (show w.heap.size + 1 + 1 + 1 + 1 + 1 ∉ [D] by simp; omega)).trans c5
    have z6 := (shut_cell (o := 0) hSh (show w.heap.size + 1 + 1 + 1 + 1 + 1 + 1 ∉ [D] by simp; omega)).trans c6
    have z7 := (shut_cell (o := 0) hSh (show w.heap.size + 1 + 1 + 1 + 1 + 1 + 1 + 1 ∉ [D] by simp; omega)).trans c7
    have hi' : IRow w.heap.size W' vA F := fun h0 => by
      obtain ⟨b, cs, fz, rfl, h1, h2, h3⟩ := hi h0
      refine ⟨b, cs, fz, rfl, h1, (hSh.same b fun hm => ?_).trans h2, h3⟩
      simp at hm; subst hm; rw [hk] at h2; cases h2
    refine ⟨by simp [results, Try.results27, go_sem, z4, z5, z6, z7], below_shut hSh hDs hb (by omega), .inr ⟨HE.out, F, vA, vc, v2, ?_, hok, rfl, hi'.sl, own_shut hSh hDs ho⟩⟩
    rw [hmany]
    exact hSp.subset hF
  case done =>
    rintro D ys X hD hS ⟨hb, hno⟩ hk
    clear hmb hnb hW3
    have hbX := Lib.hid (HB3.out.trans (hb.mono HB3.out.size))
    obtain ⟨⟨a1, a2⟩, ⟨a3, a4⟩, ⟨a5, a6⟩, ⟨a7, a8⟩⟩ := HY.out X hbX.out
    have hlt : W3.heap.size ≤ X.heap.size := hb.size
    obtain ⟨X4, hX4⟩ : ∃ X4, X4 = four X w.heap.size (.slice none 0 0) (.slice none 0 0) (.bool false) (.int .i64 0) := ⟨_, rfl⟩
    obtain ⟨z4, z5, z6, z7⟩ : X4.cell? ⟨w.heap.size + 1 + 1 + 1 + 1, 0, none⟩ = some (.slice none 0 0) ∧ X4.cell? ⟨w.heap.size + 1 + 1 + 1 + 1 + 1, 0, none⟩ = some (.slice none 0 0) ∧ X4.cell? ⟨w.heap.size + 1 + 1 + 1 + 1 + 1 + 1, 0, none⟩ = some (.bool false) ∧ X4.cell? ⟨w.heap.size + 1 + 1 + 1 + 1 + 1 + 1 + 1, 0, none⟩ = some (.int .i64 0) := by
      rw [hX4]; exact four_cells a1 a3 a5 a7
    have HBX := Lib.hid (show Below w.heap.size w X4 by rw [hX4]; exact four_below (HU.out X hbX.out))
    have hk4 : X4.heap[D]? = some (.deferred (some [])) := by
      rw [hX4]; unfold four
      rw [Below.heap_setCell _ _ _ _ (by simp only; omega), Below.heap_setCell _ _ _ _ (by simp only; omega), Below.heap_setCell _ _ _ _ (by simp only; omega), Below.heap_setCell _ _ _ _ (by simp only; omega)]; exact hk
    have Hk4 := Lib.hid hk4
    have Hno := Lib.hid hno
    have HS := Lib.hid hS
    clear hk hk4 hno hS
    unfold four at hX4
    go_wp2
    rw [← hX4]
    refine leavesM_one (v := .tuple #[.slice none 0 0, .slice none 0 0, .bool false, .int .i64 0]) Hk4.out fun W' hSh => ?_
    have hDs : DsOk W3.heap.size [D] X4 := ⟨by simp, fun D' h' => by simp at h'; subst h'; exact ⟨hD, Hk4.out⟩⟩
    have z4 := (shut_cell (o := 0) hSh (show w.heap.size + 1 + 1 + 1 + 1 ∉ [D] by simp; omega)).trans z4
    have z5 := (shut_cell (o := 0) hSh (show w.heap.size + 1 + 1 + 1 + 1 + 1 ∉ [D] by simp; omega)).trans z5
    have z6 := (shut_cell (o := 0) hSh (show w.heap.size + 1 + 1 + 1 + 1 + 1 + 1 ∉ [D] by simp; omega)).trans z6
    have z7 := (shut_cell (o := 0) hSh (show w.heap.size + 1 + 1 + 1 + 1 + 1 + 1 + 1 ∉ [D] by simp; omega)).trans z7
    refine ⟨by simp [results, Try.results27, go_sem, z4, z5, z6, z7], below_shut hSh hDs HBX.out (by omega), .inl ⟨by rw [HE.out], fun _ F hF => Hno.out F ?_⟩⟩
    rw [HS.out]
    rw [hmany] at hF
    exact hF
  case body =>
    clear hmb hnb hW3
    rintro lp n' pre x' X ⟨hb, hno⟩ hlen ⟨hx1, hx2, A', c', hx3, hx4, hx5⟩
    obtain ⟨F, xv⟩ := x'
    simp only at hx1 hx2 hx3 hx4 hx5
    subst hx3
    have hbs := hb.size
    have Hb := Lib.hid hb
    have Hb0 := Lib.hid (show Below W0.heap.size W0 X from HB3.out.trans (hb.mono HB3.out.size))
    have Hno := Lib.hid hno
    have Hx1 := Lib.hid hx1
    have Hx2 := Lib.hid hx2
    have Hx4 := Lib.hid hx4
    obtain ⟨y0, y1, y2, y3⟩ := HX.out X Hb0.out
    have q0 := later_cell (y0 0 _ rfl) (show w.heap.size < X.heap.size by omega)
    have q1 := later_cell (y0 1 _ rfl) (show w.heap.size < X.heap.size by omega)
    have q2 := later_cell (y0 2 _ rfl) (show w.heap.size < X.heap.size by omega)
    have q3 := later_cell (y0 3 _ rfl) (show w.heap.size < X.heap.size by omega)
    have q4 := later_cell (y0 4 _ rfl) (show w.heap.size < X.heap.size by omega)
    have q5 := later_cell (y0 5 _ rfl) (show w.heap.size < X.heap.size by omega)
    have q6 := later_cell (y0 6 _ rfl) (show w.heap.size < X.heap.size by omega)
    have q7 := later_cell y1 (show w.heap.size + 1 < X.heap.size by omega)
    have q8 := later_cell y2 (show w.heap.size + 1 + 1 < X.heap.size by omega)
    have q9 := later_cell y3 (show w.heap.size + 1 + 1 + 1 < X.heap.size by omega)
    clear y0 y1 y2 y3 hno hx1 hx2 hx4 hb
    have HN := Lib.hid (fun (Y : World) (gb : Nat) (hY : Below X.heap.size X Y) (hgb : ∀ j v, [Value.int .i64 t, .int .i64 x, .int .i64 x, .int .i64 t, .int .i64 (-4000000000), .int .i64 4000000000][j]? = some v → Y.cell? ⟨gb, j, none⟩ = some v) => show Calls Try.prog 44 #[.agg #[.string q.name, .int .i64 q.lo, .int .i64 q.hi, .int .i64 q.rise, .int .i64 q.fall, .int .i64 many, .slice q.gA q.gs.length q.gc], .slice A l.length c, .slice A' F.length c', .slice (some ⟨gb, 0, none⟩) 2 2] Y (Nodes q l F (moreX t x) Y) by
      have hwY := Hb0.out.trans (hY.mono Hb0.out.size)
      have h := nodesT_any q l F (moreX t x) A A' (some ⟨gb, 0, none⟩) c c' 2 X.heap.size Y ((Hq.out Y hwY).mono (by omega)) ((HA.out Y hwY).mono (by omega)) (Sl.below Hx4.out.sl hY) (.inr ⟨_, rfl, rfl, fun j u hu => by
        rw [show ((⟨gb, 0, none⟩ : Addr).add j) = ⟨gb, j, none⟩ from by unfold Addr.add; split <;> simp_all]
        exact hgb j u hu⟩) hY.size HG.out (by intro y hy; simp [moreX] at hy; rcases hy with rfl | rfl <;> exact ht) (by simp [moreX]; omega) (by have := Hx1.out; omega)
      rw [hmany] at h
      exact h)
    gi_wp2
    obtain ⟨R8, hR8⟩ : ∃ R : (Nat → Bool) → Act → World → Prop, R = fun L a' w' => ∃ (e : Later X) (v39 v40 v41 v42 v43 v44 v45 v46 v47 v48 v49 v50 : Value), w' = e.w ∧ a' = { tmps := #[.agg cs, .slice A l.length c, .int .i64 t, .int .i64 x, .pointer (some ⟨w.heap.size, 0, none⟩), .pointer (some ⟨w.heap.size + 1, 0, none⟩), .pointer (some ⟨w.heap.size + 1 + 1, 0, none⟩), .pointer (some ⟨w.heap.size + 1 + 1 + 1, 0, none⟩), .pointer (some ⟨w.heap.size + 1 + 1 + 1 + 1, 0, none⟩), .pointer (some ⟨w.heap.size + 1 + 1 + 1 + 1 + 1, 0, none⟩), .pointer (some ⟨w.heap.size + 1 + 1 + 1 + 1 + 1 + 1, 0, none⟩), .pointer (some ⟨w.heap.size + 1 + 1 + 1 + 1 + 1 + 1 + 1, 0, none⟩), .int .i64 (checkedE q l), .slice A' F.length c', undef, undef, undef, undef, undef, undef, undef, undef, undef, .agg #[.string q.name, .int .i64 q.lo, .int .i64 q.hi, .int .i64 q.rise, .int .i64 q.fall, .int .i64 many, .slice q.gA q.gs.length q.gc], .slice A l.length c, .int .i64 (checkedE q l), .int .i64 (checkedE q l), .bool false, undef, .int .i64 t, .bool true, .bool false, .pointer (some ⟨w.heap.size, 6, none⟩), .slice q.gA q.gs.length q.gc, .int .i64 q.gs.length, .pointer (some ⟨w.heap.size, 5, none⟩), .int .i64 many, .func (.func 71) #[] #[.pointer (some ⟨w1.heap.size + 1, 0, none⟩), .pointer (some ⟨w1.heap.size, 0, none⟩)], .slice A' F.length c', v39, v40, v41, v42, v43, v44, v45, v46, v47, v48, v49, v50, undef, undef, undef, undef, undef, undef, undef, undef, undef, undef, undef, undef, undef, undef, undef, undef, undef, undef, undef, undef, undef, undef, undef, undef, undef, undef, undef, undef, undef, undef, undef, undef, undef, undef, undef, undef, undef, undef, undef, undef, undef, undef, undef, undef, undef, undef, undef, undef, undef, undef, undef, undef, undef, undef, undef, undef, undef, undef, undef, undef, undef, undef, undef, undef], defers := [] } ∧ (L 0 = true → v39 = .agg #[.string q.name, .int .i64 q.lo, .int .i64 q.hi, .int .i64 q.rise, .int .i64 q.fall, .int .i64 many, .slice q.gA q.gs.length q.gc]) ∧ (L 1 = true → v40 = .slice A l.length c) ∧ (L 2 = true → v41 = .slice A' F.length c') ∧ (L 3 = true → v42 = .int .i64 t) ∧ (L 4 = true → v43 = .int .i64 x) ∧ (L 5 = true → v44 = .int .i64 x) ∧ (L 6 = true → v45 = .agg #[.int .i64 x, .int .i64 x]) ∧ (L 7 = true → v46 = .agg #[.int .i64 t, .int .i64 x, .int .i64 x]) ∧ (L 8 = true → v47 = .int .i64 t) ∧ (L 9 = true → v48 = .agg #[.int .i64 (-4000000000), .int .i64 4000000000]) ∧ (L 10 = true → v49 = .agg #[.int .i64 t, .int .i64 (-4000000000), .int .i64 4000000000]) ∧ (L 11 = true → Hid (∃ gb, v50 = .slice (some ⟨gb, 0, none⟩) 2 2 ∧ BlkAt X e.w gb [.int .i64 t, .int .i64 x, .int .i64 x, .int .i64 t, .int .i64 (-4000000000), .int .i64 4000000000])) := ⟨_, rfl⟩
    have HR8 := Lib.hid hR8
    clear hR8
    refine round_region_inv 12 R8 (by kernel_rfl) (by kernel_rfl) (fun ⟨_, _, h⟩ => h) (by kernel_rfl) (by kernel_rfl) (by kernel_rfl) (by decide) (by kernel_rfl) ?_ ?_ ?_
    · rw [HR8.out]
      exact ⟨⟨_, (Below.refl X.heap.size X).drew⟩, _, _, _, _, _, _, _, _, _, _, _, _, rfl, rfl, by simp, by simp, by simp, by simp, by simp, by simp, by simp, by simp, by simp, by simp, by simp, by simp⟩
    · rintro L a' w' i o hi ho hLi haf hInv
      rw [HR8.out] at hInv
      obtain ⟨e, v39, v40, v41, v42, v43, v44, v45, v46, v47, v48, v49, v50, rfl, rfl, h0, h1, h2, h3, h4, h5, h6, h7, h8, h9, h10, h11⟩ := hInv
      have hse : X.heap.size ≤ e.w.heap.size := e.b.size
      rcases i with _ | _ | _ | _ | _ | _ | _ | _ | _ | _ | _ | _ | i
      case succ.succ.succ.succ.succ.succ.succ.succ.succ.succ.succ.succ => omega
      all_goals (simp only [List.getElem?_cons_zero, List.getElem?_cons_succ, Option.some.injEq] at ho; subst ho)
      · go_wp2
        rw [HR8.out]
        exact ⟨e, _, _, _, _, _, _, _, _, _, _, _, _, rfl, rfl, fun _ => rfl, fun z => h1 (by simpa using z), fun z => h2 (by simpa using z), fun z => h3 (by simpa using z), fun z => h4 (by simpa using z), fun z => h5 (by simpa using z), fun z => h6 (by simpa using z), fun z => h7 (by simpa using z), fun z => h8 (by simpa using z), fun z => h9 (by simpa using z), fun z => h10 (by simpa using z), fun z => h11 (by simpa using z)⟩
      · go_wp2
        rw [HR8.out]
        exact ⟨e, _, _, _, _, _, _, _, _, _, _, _, _, rfl, rfl, fun z => h0 (by simpa using z), fun _ => rfl, fun z => h2 (by simpa using z), fun z => h3 (by simpa using z), fun z => h4 (by simpa using z), fun z => h5 (by simpa using z), fun z => h6 (by simpa using z), fun z => h7 (by simpa using z), fun z => h8 (by simpa using z), fun z => h9 (by simpa using z), fun z => h10 (by simpa using z), fun z => h11 (by simpa using z)⟩
      · go_wp2
        rw [HR8.out]
        exact ⟨e, _, _, _, _, _, _, _, _, _, _, _, _, rfl, rfl, fun z => h0 (by simpa using z), fun z => h1 (by simpa using z), fun _ => rfl, fun z => h3 (by simpa using z), fun z => h4 (by simpa using z), fun z => h5 (by simpa using z), fun z => h6 (by simpa using z), fun z => h7 (by simpa using z), fun z => h8 (by simpa using z), fun z => h9 (by simpa using z), fun z => h10 (by simpa using z), fun z => h11 (by simpa using z)⟩
      · go_wp2
        rw [HR8.out]
        exact ⟨e, _, _, _, _, _, _, _, _, _, _, _, _, rfl, rfl, fun z => h0 (by simpa using z), fun z => h1 (by simpa using z), fun z => h2 (by simpa using z), fun _ => rfl, fun z => h4 (by simpa using z), fun z => h5 (by simpa using z), fun z => h6 (by simpa using z), fun z => h7 (by simpa using z), fun z => h8 (by simpa using z), fun z => h9 (by simpa using z), fun z => h10 (by simpa using z), fun z => h11 (by simpa using z)⟩
      · go_wp2
        rw [HR8.out]
        exact ⟨e, _, _, _, _, _, _, _, _, _, _, _, _, rfl, rfl, fun z => h0 (by simpa using z), fun z => h1 (by simpa using z), fun z => h2 (by simpa using z), fun z => h3 (by simpa using z), fun _ => rfl, fun z => h5 (by simpa using z), fun z => h6 (by simpa using z), fun z => h7 (by simpa using z), fun z => h8 (by simpa using z), fun z => h9 (by simpa using z), fun z => h10 (by simpa using z), fun z => h11 (by simpa using z)⟩
      · go_wp2
        rw [HR8.out]
        exact ⟨e, _, _, _, _, _, _, _, _, _, _, _, _, rfl, rfl, fun z => h0 (by simpa using z), fun z => h1 (by simpa using z), fun z => h2 (by simpa using z), fun z => h3 (by simpa using z), fun z => h4 (by simpa using z), fun _ => rfl, fun z => h6 (by simpa using z), fun z => h7 (by simpa using z), fun z => h8 (by simpa using z), fun z => h9 (by simpa using z), fun z => h10 (by simpa using z), fun z => h11 (by simpa using z)⟩
      · obtain rfl := h4 (haf ⟨4, .data⟩ (by simp) rfl)
        obtain rfl := h5 (haf ⟨5, .data⟩ (by simp) rfl)
        go_wp2
        rw [HR8.out]
        exact ⟨e, _, _, _, _, _, _, _, _, _, _, _, _, rfl, rfl, fun z => h0 (by simpa using z), fun z => h1 (by simpa using z), fun z => h2 (by simpa using z), fun z => h3 (by simpa using z), fun _ => rfl, fun _ => rfl, fun _ => rfl, fun z => h7 (by simpa using z), fun z => h8 (by simpa using z), fun z => h9 (by simpa using z), fun z => h10 (by simpa using z), fun z => h11 (by simpa using z)⟩
      · obtain rfl := h3 (haf ⟨3, .data⟩ (by simp) rfl)
        obtain rfl := h6 (haf ⟨6, .data⟩ (by simp) rfl)
        go_wp2
        rw [HR8.out]
        exact ⟨e, _, _, _, _, _, _, _, _, _, _, _, _, rfl, rfl, fun z => h0 (by simpa using z), fun z => h1 (by simpa using z), fun z => h2 (by simpa using z), fun _ => rfl, fun z => h4 (by simpa using z), fun z => h5 (by simpa using z), fun _ => rfl, fun _ => rfl, fun z => h8 (by simpa using z), fun z => h9 (by simpa using z), fun z => h10 (by simpa using z), fun z => h11 (by simpa using z)⟩
      · go_wp2
        rw [HR8.out]
        exact ⟨e, _, _, _, _, _, _, _, _, _, _, _, _, rfl, rfl, fun z => h0 (by simpa using z), fun z => h1 (by simpa using z), fun z => h2 (by simpa using z), fun z => h3 (by simpa using z), fun z => h4 (by simpa using z), fun z => h5 (by simpa using z), fun z => h6 (by simpa using z), fun z => h7 (by simpa using z), fun _ => rfl, fun z => h9 (by simpa using z), fun z => h10 (by simpa using z), fun z => h11 (by simpa using z)⟩
      · go_wp2_with (go_at_call 57; refine (anything_any _).mono ?_; rintro r w4 ⟨rfl, hNew⟩)
        rw [HR8.out]
        exact ⟨⟨w4, e.b.trans (hNew.mono e.b.size)⟩, _, _, _, _, _, _, _, _, _, _, _, _, rfl, rfl, fun z => h0 (by simpa using z), fun z => h1 (by simpa using z), fun z => h2 (by simpa using z), fun z => h3 (by simpa using z), fun z => h4 (by simpa using z), fun z => h5 (by simpa using z), fun z => h6 (by simpa using z), fun z => h7 (by simpa using z), fun z => h8 (by simpa using z), fun _ => rfl, fun z => h10 (by simpa using z), fun z => (by obtain ⟨gb, p1, p2⟩ := (h11 (by simpa using z)).out; exact Lib.hid ⟨gb, p1, p2.below hNew⟩)⟩
      · obtain rfl := h8 (haf ⟨8, .data⟩ (by simp) rfl)
        obtain rfl := h9 (haf ⟨9, .data⟩ (by simp) rfl)
        go_wp2
        rw [HR8.out]
        exact ⟨e, _, _, _, _, _, _, _, _, _, _, _, _, rfl, rfl, fun z => h0 (by simpa using z), fun z => h1 (by simpa using z), fun z => h2 (by simpa using z), fun z => h3 (by simpa using z), fun z => h4 (by simpa using z), fun z => h5 (by simpa using z), fun z => h6 (by simpa using z), fun z => h7 (by simpa using z), fun _ => rfl, fun _ => rfl, fun _ => rfl, fun z => h11 (by simpa using z)⟩
      · obtain rfl := h7 (haf ⟨7, .data⟩ (by simp) rfl)
        obtain rfl := h10 (haf ⟨10, .data⟩ (by simp) rfl)
        have hNew : Below e.w.heap.size e.w (e.w.alloc (.cells #[.int .i64 t, .int .i64 x, .int .i64 x, .int .i64 t, .int .i64 (-4000000000), .int .i64 4000000000] 93)) := (Below.refl _ _).alloc (Nat.le_refl _) _
        go_wp2
        rw [HR8.out]
        exact ⟨⟨_, e.b.alloc hse (.cells #[.int .i64 t, .int .i64 x, .int .i64 x, .int .i64 t, .int .i64 (-4000000000), .int .i64 4000000000] 93)⟩, _, _, _, _, _, _, _, _, _, _, _, _, rfl, rfl, fun z => h0 (by simpa using z), fun z => h1 (by simpa using z), fun z => h2 (by simpa using z), fun z => h3 (by simpa using z), fun z => h4 (by simpa using z), fun z => h5 (by simpa using z), fun z => h6 (by simpa using z), fun _ => rfl, fun z => h8 (by simpa using z), fun z => h9 (by simpa using z), fun _ => rfl, fun _ => Lib.hid ⟨_, rfl, BlkAt.new hse⟩⟩
    · rintro L a' w' hL hInv
      rw [HR8.out] at hInv
      obtain ⟨e, v39, v40, v41, v42, v43, v44, v45, v46, v47, v48, v49, v50, rfl, rfl, h0, h1, h2, h3, h4, h5, h6, h7, h8, h9, h10, h11⟩ := hInv
      obtain rfl := h0 (hL 0 (by omega))
      obtain rfl := h1 (hL 1 (by omega))
      obtain rfl := h2 (hL 2 (by omega))
      obtain rfl := h3 (hL 3 (by omega))
      obtain rfl := h4 (hL 4 (by omega))
      obtain rfl := h5 (hL 5 (by omega))
      obtain rfl := h6 (hL 6 (by omega))
      obtain rfl := h7 (hL 7 (by omega))
      obtain rfl := h8 (hL 8 (by omega))
      obtain rfl := h9 (hL 9 (by omega))
      obtain rfl := h10 (hL 10 (by omega))
      obtain ⟨gb50, rfl, hgb50⟩ := (h11 (hL 11 (by omega))).out
      have hse : X.heap.size ≤ e.w.heap.size := e.b.size
      clear h0 h1 h2 h3 h4 h5 h6 h7 h8 h9 h10 h11 hL HR8
      have HC := Lib.hid (HN.out e.w gb50 e.b hgb50.cell)
      clear hgb50 q0 q1 q2 q3 q4 q5 q6 q7 q8 q9
      go_wp2_with (go_at_call 44; refine HC.out.mono ?_; rintro r w2 ⟨g, cap, srt, hp, hsrt, rfl, ho2, hb2⟩)
      have HbW2 := Lib.hid (show Below X.heap.size X w2 from e.b.trans (hb2.mono e.b.size))
      have hsz2 := hb2.size
      have hmi0 := merged_inv srt hsrt
      have hml0 : (merged srt).length ≤ srt.length := by have := mergedAt_len srt srt.length (Nat.le_refl _); rwa [mergedAt_all] at this
      revert ho2 hmi0 hml0
      generalize merged srt = ms
      intro ho2 hmi hml
      have hsl : srt.length = 3 + l.length := by rw [hp.length_eq]; simp [allK, moreX]; omega
      have hm0 : 0 < ms.length := hmi.pos (by omega)
      have hms : SortedK ms := hmi.sorted.imp fun h => Int.le_of_lt h
      have hG := HG.out
      have hmb2 : ∀ y ∈ ms, BndW 1000000000000 y := mergedX_bnd hG ht (hmi.cov.perm hp) hmi.sorted
      have HCov := Lib.hid (show Covers ms (allK q l F (moreX t x)) from hmi.cov.perm hp)
      have HNar := Lib.hid (show Calls Try.prog 43 #[.agg #[.string q.name, .int .i64 q.lo, .int .i64 q.hi, .int .i64 q.rise, .int .i64 q.fall, .int .i64 many, .slice q.gA q.gs.length q.gc], .slice (some ⟨g, 0, none⟩) ms.length cap] w2 (Narrowed ms q.rise q.fall e.w.heap.size 93 g cap w2) by
        rw [← hmany]
        exact narrowedW_any q ms e.w.heap.size g cap w2 ho2 hms hmb2 hG.rise.1 hG.rise.2 hG.fall.1 hG.fall.2 (by omega) hm0)
      have HSort := Lib.hid hmi.sorted
      have Hmb2 := Lib.hid hmb2
      have hglt : e.w.heap.size ≤ g := (ho2.lt g rfl).1
      obtain ⟨y0, y1, y2, y3⟩ := HX.out w2 (Hb0.out.trans (HbW2.out.mono Hb0.out.size))
      have q0 : w2.cell? ⟨w.heap.size, 0, none⟩ = some (.string q.name) := y0 0 _ rfl
      have q1 : w2.cell? ⟨w.heap.size, 1, none⟩ = some (.int .i64 q.lo) := y0 1 _ rfl
      have q2 : w2.cell? ⟨w.heap.size, 2, none⟩ = some (.int .i64 q.hi) := y0 2 _ rfl
      have q3 : w2.cell? ⟨w.heap.size, 3, none⟩ = some (.int .i64 q.rise) := y0 3 _ rfl
      have q4 : w2.cell? ⟨w.heap.size, 4, none⟩ = some (.int .i64 q.fall) := y0 4 _ rfl
      have q5 : w2.cell? ⟨w.heap.size, 5, none⟩ = some (.int .i64 many) := y0 5 _ rfl
      have q6 : w2.cell? ⟨w.heap.size, 6, none⟩ = some (.slice q.gA q.gs.length q.gc) := y0 6 _ rfl
      clear hmi hp hsrt hmb2 hms y0
      have HNarR := Lib.hid (show CallsIn (Fence.wide.inRound lp) (n' - 1) Try.prog 43 _ w2 _ from CallsIn.inRound lp (callsIn_wide.2 HNar.out))
      gi_wp2_with ((try refine ⟨trivial, wide_depth, ?_⟩); gi_at_call 43; refine HNarR.out.mono ?_; rintro r w3 ⟨l', ho3, hg3, (⟨rfl, hno⟩ | ⟨rfl, hall, rfl⟩)⟩)
      · have HbW3 := Lib.hid (below_of_grown HbW2.out hg3 (by have := e.b.size; omega) (Nat.le_refl _))
        refine ⟨keeps_of_below HbW3.out, KeepI.of_below HbW3.out, Hb.out.trans (HbW3.out.mono hbs), ?_⟩
        intro G hG'
        rw [List.map_append, List.mem_append] at hG'
        rcases hG' with hG' | hG'
        · exact Hno.out G hG'
        · simp at hG'
          subst hG'
          exact fun hag => hno ((fwd_agree hG.rise.1 hG.fall.1 ms (HSort.out.imp fun h => Int.le_of_lt h)).2 (HCov.out.agree.2 hag))
      · have HbW3 := Lib.hid (below_of_grown HbW2.out hg3 (by have := e.b.size; omega) (Nat.le_refl _))
        obtain ⟨nn, hnn⟩ : ∃ nn, nn = bwdK q.rise q.fall (fwdK q.rise q.fall ms) := ⟨_, rfl⟩
        have HN2 := Lib.hid (nn_spec hG HCov.out HSort.out Hmb2.out hall hnn)
        have hnl : nn.length = ms.length := HN2.out.2.1
        rw [← hnn, ← hnl] at ho3
        rw [← hnl]
        have hn0 : 0 < nn.length := by omega
        have hn20 : nn.length ≤ 20 := by omega
        have Ho3 := Lib.hid ho3
        have hgl3 : g < w3.heap.size := (ho3.lt g rfl).2
        have hx3 : X.heap.size ≤ w3.heap.size := HbW3.out.size
        have hrise := hG.rise
        have hfall := hG.fall
        clear HNar HNarR HC hnl hml hsl hm0 ho3 hg3 hall hnn y1 y2 y3 q0 q1 q2 q3 q4 q5 q6 hG
        have hmm := @run_makeMap Try.prog
        gi_wp2
        rw [hmm]
        gi_wp2
        clear hmm
        gi_loopw [16, 59] (fun v16 i wr => ∃ k : Nat, k ≤ nn.length ∧ i = .int .i64 k ∧ v16 = .int .i64 (lastK nn k) ∧ Hid (MapHas wr w3.heap.size k (nn.take k)) ∧ Hid (Below w3.heap.size w3 wr)) (fun _ i _ => nn.length - (intOf i).toNat)
        case atStart => exact ⟨0, by omega, rfl, rfl, Lib.hid (MapHas.made w3), Lib.hid ((Below.refl _ _).alloc (Nat.le_refl _) _)⟩
        case round =>
          obtain ⟨k, hk, rfl, rfl, HM, Hbr⟩ := hrel
          have hrs := Hbr.out.size
          by_cases hlt : k < nn.length
          · have HbX := Lib.hid (HbW3.out.trans (Hbr.out.mono hx3))
            obtain ⟨y0, y1, y2, y3⟩ := HX.out wr (Hb0.out.trans (HbX.out.mono Hb0.out.size))
            have q3 : wr.cell? ⟨w.heap.size, 3, none⟩ = some (.int .i64 q.rise) := y0 3 _ rfl
            have q4 : wr.cell? ⟨w.heap.size, 4, none⟩ = some (.int .i64 q.fall) := y0 4 _ rfl
            have HoR := Lib.hid (own_below Ho3.out Hbr.out)
            obtain ⟨c0, c1, c2⟩ := own_cells HoR.out (i := k) hlt
            obtain ⟨hy1, hy2, hy3, hy4, hy5⟩ := HN2.out.2.2.2.1 _ (List.getElem_mem hlt)
            have Hy1 := Lib.hid hy1
            have hMlt := HM.out.lt
            clear y0 y1 y2 y3 hy1
            obtain ⟨yk, hyk⟩ : ∃ yk, yk = nn[k] := ⟨_, rfl⟩
            rw [← hyk] at c0 c1 c2 hy2 hy3 hy4 hy5 Hy1
            have Hnew := Lib.hid (show ∀ z ∈ nn.take k, z.t ≠ yk.t from fun z hz => by
              obtain ⟨i, hi, rfl⟩ := List.mem_iff_getElem.1 hz
              rw [List.length_take] at hi
              have := (List.pairwise_iff_getElem.1 HN2.out.2.2.1) i k (by omega) hlt (by omega)
              rw [List.getElem_take, hyk]; omega)
            have Htk := Lib.hid (show nn.take (k + 1) = nn.take k ++ [yk] by rw [hyk]; exact List.take_succ_eq_append_getElem hlt)
            have Hlk := Lib.hid (show lastK nn (k + 1) = yk.lo by rw [hyk]; simp [lastK, List.getElem?_eq_getElem hlt])
            have Hyk := Lib.hid hyk
            clear hyk
            rcases Nat.eq_zero_or_pos k with rfl | hp
            · gi_wp2
              obtain ⟨w6, hrun, hm6, hg6⟩ := MapHas.update ((HM.out.below ((Below.refl _ _).alloc (Nat.le_refl _) (.cells #[.int .i64 yk.t, .int .i64 yk.lo, .int .i64 yk.hi] 93))).below ((Below.refl _ _).alloc (Nat.le_refl _) (.cells #[.int .i64 yk.lo, .int .i64 yk.hi] 23))) (by omega) yk Hnew.out ⟨hy4, hy5⟩ ⟨hy2, hy3⟩
              rw [hrun]
              have Hm6 := Lib.hid hm6
              have Hg6 := Lib.hid hg6
              clear hrun hm6 hg6
              gi_wp2
              go_roundw
              case rel => exact ⟨0 + 1, by omega, by go_num, by rw [Hlk.out], Lib.hid (by rw [Htk.out]; exact Hm6.out), Lib.hid (((Hbr.out.alloc (by omega) _).alloc (by simp; omega) _).grown Hg6.out (by simp; omega) (fun j hj => by cases hj; exact Nat.le_refl _))⟩
              case measure => simp [intOf]; omega
            · obtain ⟨m, hm⟩ : ∃ m, k = m + 1 := ⟨k - 1, by omega⟩
              have i1 : (k : Int) - 1 = (m : Int) := by omega
              have hml : m < nn.length := by omega
              obtain ⟨d0, d1, d2⟩ := own_cells HoR.out (i := m) hml
              obtain ⟨hz1, hz2, hz3, hz4, hz5⟩ := HN2.out.2.2.2.1 _ (List.getElem_mem hml)
              have hlast : lastK nn k = nn[m].lo := by rw [hm]; simp [lastK, List.getElem?_eq_getElem hml]
              have hdt : nn[m].t ≤ yk.t := by rw [Hyk.out]; exact Int.le_of_lt ((List.pairwise_iff_getElem.1 HN2.out.2.2.1) m k hml hlt (by omega))
              have htri : nn[m].lo - q.fall * (yk.t - nn[m].t) ≤ yk.lo := by
                rw [hz1, Hy1.out, ← dn_le q.rise q.fall _ _ hdt]
                unfold witV
                exact lo_tri hrise.1 hfall.1 (by simp [allK]) _ _
              obtain ⟨ym, hym⟩ : ∃ ym, ym = nn[m] := ⟨_, rfl⟩
              rw [← hym] at d0 hz2 hz3 hz4 hz5 hlast hdt htri
              obtain ⟨d, hd⟩ : ∃ d, yk.t - ym.t = d := ⟨_, rfl⟩
              rw [hd] at htri
              have hd0 : 0 ≤ d ∧ d ≤ 100000 := by omega
              have hpr : 0 ≤ q.rise * d ∧ q.rise * d ≤ 1000000000 := ⟨Int.mul_nonneg hrise.1 hd0.1, by have : q.rise * d ≤ 10000 * d := Int.mul_le_mul_of_nonneg_right hrise.2 hd0.1; omega⟩
              have hpf : 0 ≤ q.fall * d ∧ q.fall * d ≤ 1000000000 := ⟨Int.mul_nonneg hfall.1 hd0.1, by have : q.fall * d ≤ 10000 * d := Int.mul_le_mul_of_nonneg_right hfall.2 hd0.1; omega⟩
              have hlb : -1000000000000 ≤ lastK nn k ∧ lastK nn k ≤ 1000000000000 := by rw [hlast]; exact ⟨hz2, hz3⟩
              have Hmx := Lib.hid (show max yk.lo (lastK nn k - q.fall * d) = yk.lo by rw [hlast]; omega)
              obtain ⟨hi2, hhi2⟩ : ∃ v, v = min yk.hi (lastK nn k + q.rise * d) := ⟨_, rfl⟩
              have Hhi2 := Lib.hid hhi2
              clear hhi2 hlast htri d1 d2 hz1 hym hm
              gi_wp2
              obtain ⟨W5, hW5⟩ : ∃ W5, W5 = (wr.alloc (.cells #[.int .i64 yk.t, .int .i64 yk.lo, .int .i64 yk.hi] 93)).alloc (.cells #[.int .i64 yk.lo, .int .i64 yk.hi] 23) := ⟨_, rfl⟩
              rw [← hW5]
              have HB5w := Lib.hid (show Below wr.heap.size wr W5 by rw [hW5]; exact ((Below.refl _ _).alloc (Nat.le_refl _) _).alloc (by simp) _)
              have hs5 : W5.heap.size = wr.heap.size + 1 + 1 := by rw [hW5]; simp
              have HS5 := Lib.hid (fun (Y : World) (hY : Below W5.heap.size W5 Y) => show Y.cell? ⟨wr.heap.size, 0, none⟩ = some (.int .i64 yk.t) ∧ Y.cell? ⟨wr.heap.size + 1, 0, none⟩ = some (.int .i64 yk.lo) ∧ Y.cell? ⟨wr.heap.size + 1, 1, none⟩ = some (.int .i64 yk.hi) ∧ True ∧ Y.frozen? ⟨wr.heap.size + 1, 0, none⟩ = false ∧ Y.frozen? ⟨wr.heap.size + 1, 1, none⟩ = false from by
                have hsA : (wr.alloc (.cells #[.int .i64 yk.t, .int .i64 yk.lo, .int .i64 yk.hi] 93)).heap.size = wr.heap.size + 1 := by simp
                refine ⟨(hY.cell (p := ⟨wr.heap.size, 0, none⟩) (by simp only; omega)).trans ?_, (hY.cell (p := ⟨wr.heap.size + 1, 0, none⟩) (by simp only; omega)).trans ?_, (hY.cell (p := ⟨wr.heap.size + 1, 1, none⟩) (by simp only; omega)).trans ?_, trivial, (hY.frozen (p := ⟨wr.heap.size + 1, 0, none⟩) (by simp only; omega)).trans ?_, (hY.frozen (p := ⟨wr.heap.size + 1, 1, none⟩) (by simp only; omega)).trans ?_⟩
                · rw [hW5, World.cell?_alloc_lt _ _ _ (by simp)]; exact alloc_cell rfl
                · rw [hW5, ← hsA]; exact alloc_cell rfl
                · rw [hW5, ← hsA]; exact alloc_cell rfl
                · rw [hW5, ← hsA]; exact alloc_free
                · rw [hW5, ← hsA]; exact alloc_free)
              have z0 := later_cell (HS5.out W5 (Below.refl _ _)).1 (by omega)
              have e0 := later_cell ((HB5w.out.cell (p := ⟨g, m * 3, none⟩) (by simp only; omega)).trans d0) (by omega)
              have q3 : W5.cell? ⟨w.heap.size, 3, none⟩ = some (.int .i64 q.rise) := (HB5w.out.cell (p := ⟨w.heap.size, 3, none⟩) (by simp only; omega)).trans q3
              have q4 : W5.cell? ⟨w.heap.size, 4, none⟩ = some (.int .i64 q.fall) := (HB5w.out.cell (p := ⟨w.heap.size, 4, none⟩) (by simp only; omega)).trans q4
              have HM5 := Lib.hid (HM.out.below HB5w.out)
              have HW5 := Lib.hid hW5
              clear hW5 c0 c1 c2 d0
              obtain ⟨R17, hR17⟩ : ∃ R : (Nat → Bool) → Act → World → Prop, R = fun L a' w' => ∃ (e : Later W5) (v68 v69 v70 v71 v72 v73 v74 v75 v76 : Value), w' = e.w ∧ a' = { tmps := #[.agg cs, .slice A l.length c, .int .i64 t, .int .i64 x, .pointer (some ⟨w.heap.size, 0, none⟩), .pointer (some ⟨w.heap.size + 1, 0, none⟩), .pointer (some ⟨w.heap.size + 1 + 1, 0, none⟩), .pointer (some ⟨w.heap.size + 1 + 1 + 1, 0, none⟩), .pointer (some ⟨w.heap.size + 1 + 1 + 1 + 1, 0, none⟩), .pointer (some ⟨w.heap.size + 1 + 1 + 1 + 1 + 1, 0, none⟩), .pointer (some ⟨w.heap.size + 1 + 1 + 1 + 1 + 1 + 1, 0, none⟩), .pointer (some ⟨w.heap.size + 1 + 1 + 1 + 1 + 1 + 1 + 1, 0, none⟩), .int .i64 (checkedE q l), .slice A' F.length c', .slice (some ⟨g, 0, none⟩) nn.length cap, .map (some w3.heap.size), .int .i64 (lastK nn k), .int .i64 k, .pointer (some ⟨wr.heap.size, 0, none⟩), .pointer (some ⟨wr.heap.size + 1, 0, none⟩), u20, undef, undef, .agg #[.string q.name, .int .i64 q.lo, .int .i64 q.hi, .int .i64 q.rise, .int .i64 q.fall, .int .i64 many, .slice q.gA q.gs.length q.gc], .slice A l.length c, .int .i64 (checkedE q l), .int .i64 (checkedE q l), .bool false, undef, .int .i64 t, .bool true, .bool false, .pointer (some ⟨w.heap.size, 6, none⟩), .slice q.gA q.gs.length q.gc, .int .i64 q.gs.length, .pointer (some ⟨w.heap.size, 5, none⟩), .int .i64 many, .func (.func 71) #[] #[.pointer (some ⟨w1.heap.size + 1, 0, none⟩), .pointer (some ⟨w1.heap.size, 0, none⟩)], .slice A' F.length c', .agg #[.string q.name, .int .i64 q.lo, .int .i64 q.hi, .int .i64 q.rise, .int .i64 q.fall, .int .i64 many, .slice q.gA q.gs.length q.gc], .slice A l.length c, .slice A' F.length c', .int .i64 t, .int .i64 x, .int .i64 x, .agg #[.int .i64 x, .int .i64 x], .agg #[.int .i64 t, .int .i64 x, .int .i64 x], .int .i64 t, .agg #[.int .i64 (-4000000000), .int .i64 4000000000], .agg #[.int .i64 t, .int .i64 (-4000000000), .int .i64 4000000000], .slice (some ⟨gb50, 0, none⟩) 2 2, .slice (some ⟨g, 0, none⟩) nn.length cap, .agg #[.string q.name, .int .i64 q.lo, .int .i64 q.hi, .int .i64 q.rise, .int .i64 q.fall, .int .i64 many, .slice q.gA q.gs.length q.gc], .slice (some ⟨g, 0, none⟩) nn.length cap, .bool true, .bool false, .map (some w3.heap.size), .slice (some ⟨g, 0, none⟩) nn.length cap, .int .i64 nn.length, .int .i64 k, .bool true, .int .i64 k, .pointer (some ⟨g, k * 3, none⟩), .agg #[.int .i64 yk.t, .int .i64 yk.lo, .int .i64 yk.hi], .pointer (some ⟨wr.heap.size, 1, none⟩), .agg #[.int .i64 yk.lo, .int .i64 yk.hi], .int .i64 k, .bool true, v68, v69, v70, v71, v72, v73, v74, v75, v76, u77, u78, u79, u80, u81, u82, u83, u84, u85, u86, u87, u88, u89, u90, u91, u92, u93, u94, u95, u96, u97, u98, undef, undef, undef, undef, undef, undef, undef, undef, undef, undef, undef, undef, undef, undef, undef, undef], defers := [] } ∧ (L 0 = true → v68 = .pointer (some ⟨wr.heap.size, 0, none⟩)) ∧ (L 1 = true → v69 = .int .i64 yk.t) ∧ (L 2 = true → v70 = .slice (some ⟨g, 0, none⟩) nn.length cap) ∧ (L 3 = true → v71 = .int .i64 k) ∧ (L 4 = true → v72 = .int .i64 m) ∧ (L 5 = true → v73 = .pointer (some ⟨g, m * 3, none⟩)) ∧ (L 6 = true → v74 = .pointer (some ⟨g, m * 3, none⟩)) ∧ (L 7 = true → v75 = .int .i64 ym.t) ∧ (L 8 = true → v76 = .int .i64 d) := ⟨_, rfl⟩
              have HR17 := Lib.hid hR17
              clear hR17
              refine round_region_inv 9 R17 (by kernel_rfl) (by kernel_rfl) (fun ⟨_, _, h⟩ => h) (by kernel_rfl) (by kernel_rfl) (by kernel_rfl) (by decide) (by kernel_rfl) ?_ ?_ ?_
              · rw [HR17.out]
                exact ⟨⟨_, (Below.refl W5.heap.size W5).drew⟩, _, _, _, _, _, _, _, _, _, rfl, rfl, by simp, by simp, by simp, by simp, by simp, by simp, by simp, by simp, by simp⟩
              · rintro L a' w' i o hi ho hLi haf hInv
                rw [HR17.out] at hInv
                obtain ⟨e, v68, v69, v70, v71, v72, v73, v74, v75, v76, rfl, rfl, h0, h1, h2, h3, h4, h5, h6, h7, h8⟩ := hInv
                have hse : W5.heap.size ≤ e.w.heap.size := e.b.size
                rcases i with _ | _ | _ | _ | _ | _ | _ | _ | _ | i
                case succ.succ.succ.succ.succ.succ.succ.succ.succ => omega
                all_goals (simp only [List.getElem?_cons_zero, List.getElem?_cons_succ, Option.some.injEq] at ho; subst ho)
                · go_wp2
                  rw [HR17.out]
                  exact ⟨e, _, _, _, _, _, _, _, _, _, rfl, rfl, fun _ => rfl, fun z => h1 (by simpa using z), fun z => h2 (by simpa using z), fun z => h3 (by simpa using z), fun z => h4 (by simpa using z), fun z => h5 (by simpa using z), fun z => h6 (by simpa using z), fun z => h7 (by simpa using z), fun z => h8 (by simpa using z)⟩
                · obtain rfl := h0 (haf ⟨0, .data⟩ (by simp) rfl)
                  go_wp2
                  rw [HR17.out]
                  exact ⟨e, _, _, _, _, _, _, _, _, _, rfl, rfl, fun _ => rfl, fun _ => rfl, fun z => h2 (by simpa using z), fun z => h3 (by simpa using z), fun z => h4 (by simpa using z), fun z => h5 (by simpa using z), fun z => h6 (by simpa using z), fun z => h7 (by simpa using z), fun z => h8 (by simpa using z)⟩
                · go_wp2
                  rw [HR17.out]
                  exact ⟨e, _, _, _, _, _, _, _, _, _, rfl, rfl, fun z => h0 (by simpa using z), fun z => h1 (by simpa using z), fun _ => rfl, fun z => h3 (by simpa using z), fun z => h4 (by simpa using z), fun z => h5 (by simpa using z), fun z => h6 (by simpa using z), fun z => h7 (by simpa using z), fun z => h8 (by simpa using z)⟩
                · go_wp2
                  rw [HR17.out]
                  exact ⟨e, _, _, _, _, _, _, _, _, _, rfl, rfl, fun z => h0 (by simpa using z), fun z => h1 (by simpa using z), fun z => h2 (by simpa using z), fun _ => rfl, fun z => h4 (by simpa using z), fun z => h5 (by simpa using z), fun z => h6 (by simpa using z), fun z => h7 (by simpa using z), fun z => h8 (by simpa using z)⟩
                · obtain rfl := h3 (haf ⟨3, .data⟩ (by simp) rfl)
                  go_wp2
                  rw [HR17.out]
                  exact ⟨e, _, _, _, _, _, _, _, _, _, rfl, rfl, fun z => h0 (by simpa using z), fun z => h1 (by simpa using z), fun z => h2 (by simpa using z), fun _ => rfl, fun _ => rfl, fun z => h5 (by simpa using z), fun z => h6 (by simpa using z), fun z => h7 (by simpa using z), fun z => h8 (by simpa using z)⟩
                · obtain rfl := h2 (haf ⟨2, .data⟩ (by simp) rfl)
                  obtain rfl := h4 (haf ⟨4, .data⟩ (by simp) rfl)
                  go_wp2
                  rw [HR17.out]
                  exact ⟨e, _, _, _, _, _, _, _, _, _, rfl, rfl, fun z => h0 (by simpa using z), fun z => h1 (by simpa using z), fun _ => rfl, fun z => h3 (by simpa using z), fun _ => rfl, fun _ => rfl, fun z => h6 (by simpa using z), fun z => h7 (by simpa using z), fun z => h8 (by simpa using z)⟩
                · obtain rfl := h5 (haf ⟨5, .data⟩ (by simp) rfl)
                  go_wp2
                  rw [HR17.out]
                  exact ⟨e, _, _, _, _, _, _, _, _, _, rfl, rfl, fun z => h0 (by simpa using z), fun z => h1 (by simpa using z), fun z => h2 (by simpa using z), fun z => h3 (by simpa using z), fun z => h4 (by simpa using z), fun _ => rfl, fun _ => rfl, fun z => h7 (by simpa using z), fun z => h8 (by simpa using z)⟩
                · obtain rfl := h6 (haf ⟨6, .data⟩ (by simp) rfl)
                  go_wp2
                  rw [HR17.out]
                  exact ⟨e, _, _, _, _, _, _, _, _, _, rfl, rfl, fun z => h0 (by simpa using z), fun z => h1 (by simpa using z), fun z => h2 (by simpa using z), fun z => h3 (by simpa using z), fun z => h4 (by simpa using z), fun z => h5 (by simpa using z), fun _ => rfl, fun _ => rfl, fun z => h8 (by simpa using z)⟩
                · obtain rfl := h1 (haf ⟨1, .data⟩ (by simp) rfl)
                  obtain rfl := h7 (haf ⟨7, .data⟩ (by simp) rfl)
                  go_wp2
                  rw [HR17.out]
                  exact ⟨e, _, _, _, _, _, _, _, _, _, rfl, rfl, fun z => h0 (by simpa using z), fun _ => rfl, fun z => h2 (by simpa using z), fun z => h3 (by simpa using z), fun z => h4 (by simpa using z), fun z => h5 (by simpa using z), fun z => h6 (by simpa using z), fun _ => rfl, fun _ => rfl⟩
              · rintro L a' w' hL hInv
                rw [HR17.out] at hInv
                obtain ⟨e, v68, v69, v70, v71, v72, v73, v74, v75, v76, rfl, rfl, h0, h1, h2, h3, h4, h5, h6, h7, h8⟩ := hInv
                obtain rfl := h0 (hL 0 (by omega))
                obtain rfl := h1 (hL 1 (by omega))
                obtain rfl := h2 (hL 2 (by omega))
                obtain rfl := h3 (hL 3 (by omega))
                obtain rfl := h4 (hL 4 (by omega))
                obtain rfl := h5 (hL 5 (by omega))
                obtain rfl := h6 (hL 6 (by omega))
                obtain rfl := h7 (hL 7 (by omega))
                obtain rfl := h8 (hL 8 (by omega))
                have hse : W5.heap.size ≤ e.w.heap.size := e.b.size
                clear h0 h1 h2 h3 h4 h5 h6 h7 h8 hL HR17
                clear z0 e0
                have hey := e.b.size
                have q3 : e.w.cell? ⟨w.heap.size, 3, none⟩ = some (.int .i64 q.rise) := (e.b.cell (p := ⟨w.heap.size, 3, none⟩) (by simp only; omega)).trans q3
                have q4 : e.w.cell? ⟨w.heap.size, 4, none⟩ = some (.int .i64 q.fall) := (e.b.cell (p := ⟨w.heap.size, 4, none⟩) (by simp only; omega)).trans q4
                obtain ⟨s0, s1, s2, s3, s4, s5⟩ := HS5.out e.w e.b
                have HMeet := Lib.hid (show ∀ Y : World, CallsIn (Fence.wide.inRound lp) (n' - 1) Try.prog 58 #[.agg #[.int .i64 yk.lo, .int .i64 yk.hi], .agg #[.int .i64 (lastK nn k - q.fall * d), .int .i64 (lastK nn k + q.rise * d)]] Y (fun e w' => e = .returned (.agg #[.int .i64 yk.lo, .int .i64 hi2]) ∧ Below Y.heap.size Y w') from fun Y => CallsIn.inRound lp (callsIn_wide.2 ((meet_any _ _ _ _ Y).mono fun e w' h => by rw [Hmx.out, ← Hhi2.out] at h; exact h)))
                go_wp2
                gi_wp2_with ((try refine ⟨trivial, wide_depth, ?_⟩); gi_at_call 58; refine (HMeet.out _).mono ?_; rintro r w5 ⟨rfl, hb5⟩; have s0 := (hb5.cell (p := ⟨wr.heap.size, 0, none⟩) (by simp only; omega)).trans s0; have s1 := (hb5.cell (p := ⟨wr.heap.size + 1, 0, none⟩) (by simp only; omega)).trans s1; have s2 := (hb5.cell (p := ⟨wr.heap.size + 1, 1, none⟩) (by simp only; omega)).trans s2; have s4 := (hb5.frozen (p := ⟨wr.heap.size + 1, 0, none⟩) (by simp only; omega)).trans s4; have s5 := (hb5.frozen (p := ⟨wr.heap.size + 1, 1, none⟩) (by simp only; omega)).trans s5; have HB5 := Lib.hid (e.b.trans (hb5.mono hey)); clear hb5)
                have HM6 := Lib.hid (((HM5.out.below HB5.out).setCell (p := ⟨wr.heap.size + 1, 0, none⟩) (.int .i64 yk.lo) (by simp only; omega)).setCell (p := ⟨wr.heap.size + 1, 1, none⟩) (.int .i64 hi2) (by simp only; omega))
                obtain ⟨w6, hrun, hm6, hg6⟩ := MapHas.update HM6.out (by omega) yk Hnew.out ⟨hy4, hy5⟩ ⟨hy2, hy3⟩
                rw [hrun]
                have Hm6 := Lib.hid hm6
                have Hg6 := Lib.hid hg6
                clear hrun hm6 hg6
                gi_wp2
                go_roundw
                case rel =>
                  have hw5 := HB5.out.size
                  refine ⟨k + 1, by omega, by go_num, by rw [Hlk.out], Lib.hid (by rw [Htk.out]; exact Hm6.out), Lib.hid ((((Hbr.out.trans (HB5w.out.mono hrs)).trans (HB5.out.mono (by omega))).setCell (p := ⟨wr.heap.size + 1, 0, none⟩) (by simp only; omega) _).setCell (p := ⟨wr.heap.size + 1, 1, none⟩) (by simp only; omega) _ |>.grown Hg6.out ?_ (fun j hj => by cases hj; exact Nat.le_refl _))⟩
                  simp [World.setCell]; omega
                case measure => simp [intOf]; omega
          · obtain rfl : k = nn.length := by omega
            have HMf := Lib.hid (show MapHas wr w3.heap.size nn.length nn by have := HM.out; rwa [List.take_length] at this)
            have HbX := Lib.hid (HbW3.out.trans (Hbr.out.mono hx3))
            obtain ⟨wl, hwl⟩ : ∃ wl, wl = wr := ⟨_, rfl⟩
            subst hwl
            have HbL := Lib.hid (Hb0.out.trans (HbX.out.mono Hb0.out.size))
            obtain ⟨y0, y1, y2, y3⟩ := HX.out wl HbL.out
            obtain ⟨⟨a1, a2⟩, ⟨a3, a4⟩, ⟨a5, a6⟩, ⟨a7, a8⟩⟩ := HY.out wl HbL.out
            have HAl := Lib.hid (HA.out wl HbL.out)
            have hxl : X.heap.size ≤ wl.heap.size := HbX.out.size
            have hMlt := HMf.out.lt
            have Ha3 := Lib.hid a3
            clear y0 y2 y3
            gi_wp2
            clear y1
            gi_loopw [101] (fun i wr => ∃ k : Nat, k ≤ l.length ∧ i = .int .i64 k ∧ Hid (But (w.heap.size + 1 + 1 + 1 + 1 + 1) wl wr) ∧ ∃ v2 : Value, Hid (wr.cell? ⟨w.heap.size + 1 + 1 + 1 + 1 + 1, 0, none⟩ = some v2) ∧ Hid (wr.frozen? ⟨w.heap.size + 1 + 1 + 1 + 1 + 1, 0, none⟩ = false) ∧ Hid (wr.ownsRow wl.heap.size 3 1 v2 k (((l.take k).map fun r => witV q l t x F r.t).map (.int .i64)))) (fun i _ => l.length - (intOf i).toNat)
            case atStart => exact ⟨0, by omega, rfl, Lib.hid (But.refl _ _), _, Lib.hid a3, Lib.hid a4, Lib.hid (World.ownsRow_nil _ _ _ _)⟩
            case round =>
              obtain ⟨k, hk, rfl, HB, v2, H5, H5f, Ho⟩ := hrel
              have hrs := HB.out.size
              by_cases hlt2 : k < l.length
              · obtain ⟨bA, offA, rfl, hbA, hcA⟩ := sl_cell HAl.out (by omega)
                have g0 := (HB.out.cell (b := bA) (o := offA + k * 3) (by omega) (by omega)).trans (hcA k hlt2 0 _ rfl)
                have g1 := (HB.out.cell (b := bA) (o := offA + k * 3 + 1) (by omega) (by omega)).trans (hcA k hlt2 1 _ rfl)
                have g2 := (HB.out.cell (b := bA) (o := offA + k * 3 + 2) (by omega) (by omega)).trans (hcA k hlt2 2 _ rfl)
                obtain ⟨yn, hyn, hynt⟩ := HN2.out.2.2.2.2 (rk q F l[k]) (by unfold allK; exact List.mem_cons.2 (.inr (List.mem_append.2 (.inr (List.mem_map.2 ⟨l[k], List.getElem_mem hlt2, rfl⟩)))))
                obtain ⟨hz1, hz2, hz3, hz4, hz5⟩ := HN2.out.2.2.2.1 yn hyn
                have Htk := Lib.hid (List.take_succ_eq_append_getElem hlt2)
                obtain ⟨rd, hrd⟩ : ∃ rd, rd = l[k] := ⟨_, rfl⟩
                rw [← hrd] at g0 g1 g2 hynt Htk
                have hynt2 : yn.t = rd.t := by rw [hynt]; unfold rk; split <;> rfl
                rw [hynt2] at hz1 hz4 hz5
                have Hv := Lib.hid hz1
                have HLook := Lib.hid (fun (Y : World) (hY : MapHas Y w3.heap.size nn.length nn) => show (Instr.lookup 95 (.map (some w3.heap.size)) (.int .i64 rd.t) false).run Try.prog Y = .ok (.int .i64 yn.lo) Y from by
                  have := hY.look hyn (by omega); rwa [hynt2] at this)
                have f5 := H5.out
                have f5f := H5f.out
                have HMa := Lib.hid ((HB.out.mapHas HMf.out (by omega)).below ((Below.refl _ _).alloc (Nat.le_refl _) (.cells #[.int .i64 rd.g, .int .i64 rd.t, .int .i64 rd.v] 43)))
                have Hoa := Lib.hid (Ho.out.alloc (.cells #[.int .i64 rd.g, .int .i64 rd.t, .int .i64 rd.v] 43))
                clear hcA hrd hynt hz1
                have f5a := ((((Below.refl wr.heap.size wr).alloc (Nat.le_refl _) (.cells #[.int .i64 rd.g, .int .i64 rd.t, .int .i64 rd.v] 43))).cell (p := ⟨w.heap.size + 1 + 1 + 1 + 1 + 1, 0, none⟩) (by simp only; omega)).trans f5
                gi_wp2
                rw [HLook.out _ HMa.out]
                have f5 := ((((Below.refl wr.heap.size wr).alloc (Nat.le_refl _) (.cells #[.int .i64 rd.g, .int .i64 rd.t, .int .i64 rd.v] 43))).cell (p := ⟨w.heap.size + 1 + 1 + 1 + 1 + 1, 0, none⟩) (by simp only; omega)).trans f5
                have f5f := ((((Below.refl wr.heap.size wr).alloc (Nat.le_refl _) (.cells #[.int .i64 rd.g, .int .i64 rd.t, .int .i64 rd.v] 43))).frozen (p := ⟨w.heap.size + 1 + 1 + 1 + 1 + 1, 0, none⟩) (by simp only; omega)).trans f5f
                gi_wp2_with (gi_at_builtin; refine wpListIn_bridge (by intro c h; cases h) (fun K hK => ?_); refine wpList_append1 rfl _ _ 35 rfl wl.heap.size 3 _ 1 8 elemInt _ _ _ rfl Hoa.out #[.int .i64 yn.lo] 1 _ rfl (by simp) rfl (by simp [Value.oneCell']) (by omega) (by simp; omega) ?_; intro v6 w6 hown6 hb6 hsz6 hg6 hblk6; refine hK _ _ ?_; have Ho6 := Lib.hid hown6; have Hb6 := Lib.hid hb6; have Hsz6 := Lib.hid hsz6; have f5 := (hb6.cell (p := ⟨w.heap.size + 1 + 1 + 1 + 1 + 1, 0, none⟩) (by simp only; omega)).trans f5; have f5f := (hb6.frozen (p := ⟨w.heap.size + 1 + 1 + 1 + 1 + 1, 0, none⟩) (by simp only; omega)).trans f5f; clear hK K hown6 hb6 hsz6 hg6 hblk6; obtain ⟨A6, c6, rfl, _⟩ := own_slice Ho6.out)
                go_roundw
                case rel =>
                  refine ⟨k + 1, by omega, by go_num, Lib.hid (((HB.out.below ((Below.refl _ _).alloc hrs _)).below Hb6.out).setCell rfl _), _, Lib.hid (World.cell?_setCell_same' _ _ _ (by rw [f5]; rfl)), Lib.hid (by rw [World.frozen?_setCell]; exact f5f), Lib.hid ?_⟩
                  rw [Htk.out]
                  have := own_setO Ho6.out (p := ⟨w.heap.size + 1 + 1 + 1 + 1 + 1, 0, none⟩) (by simp only; omega) (.slice A6 (k + 1) c6)
                  rw [Hv.out] at this
                  simpa using this
                case measure => simp [intOf]; omega
              · obtain rfl : k = l.length := by omega
                have e1 := (HB.out.cell (b := w.heap.size + 1 + 1 + 1 + 1) (o := 0) (by omega) (by omega)).trans a1
                have e2 := (HB.out.frozen (b := w.heap.size + 1 + 1 + 1 + 1) (o := 0) (by omega) (by omega)).trans a2
                obtain ⟨A2, c2, rfl, _⟩ := own_slice Ho.out
                have e3 := H5.out
                have e4 := H5f.out
                have e5 := (HB.out.cell (b := w.heap.size + 1 + 1 + 1 + 1 + 1 + 1) (o := 0) (by omega) (by omega)).trans a5
                have e6 := (HB.out.frozen (b := w.heap.size + 1 + 1 + 1 + 1 + 1 + 1) (o := 0) (by omega) (by omega)).trans a6
                have e7 := (HB.out.cell (b := w.heap.size + 1 + 1 + 1 + 1 + 1 + 1 + 1) (o := 0) (by omega) (by omega)).trans a7
                have e8 := (HB.out.frozen (b := w.heap.size + 1 + 1 + 1 + 1 + 1 + 1 + 1) (o := 0) (by omega) (by omega)).trans a8
                clear a1 a2 a3 a4 a5 a6 a7 a8
                gi_wp2
                obtain ⟨R27, hR27⟩ : ∃ R : (Nat → Bool) → Act → World → Prop, R = fun L a' w' => ∃ (e : Later wr) (v113 v114 : Value), w' = sto (L 2) e.w ⟨w.heap.size + 1 + 1 + 1 + 1, 0, none⟩ (.slice A' F.length c') ∧ a' = { tmps := #[.agg cs, .slice A l.length c, .int .i64 t, .int .i64 x, .pointer (some ⟨w.heap.size, 0, none⟩), .pointer (some ⟨w.heap.size + 1, 0, none⟩), .pointer (some ⟨w.heap.size + 1 + 1, 0, none⟩), .pointer (some ⟨w.heap.size + 1 + 1 + 1, 0, none⟩), .pointer (some ⟨w.heap.size + 1 + 1 + 1 + 1, 0, none⟩), .pointer (some ⟨w.heap.size + 1 + 1 + 1 + 1 + 1, 0, none⟩), .pointer (some ⟨w.heap.size + 1 + 1 + 1 + 1 + 1 + 1, 0, none⟩), .pointer (some ⟨w.heap.size + 1 + 1 + 1 + 1 + 1 + 1 + 1, 0, none⟩), .int .i64 (checkedE q l), .slice A' F.length c', .slice (some ⟨g, 0, none⟩) nn.length cap, .map (some w3.heap.size), .int .i64 (lastK nn nn.length), u17, u18, u19, u20, undef, u22, .agg #[.string q.name, .int .i64 q.lo, .int .i64 q.hi, .int .i64 q.rise, .int .i64 q.fall, .int .i64 many, .slice q.gA q.gs.length q.gc], .slice A l.length c, .int .i64 (checkedE q l), .int .i64 (checkedE q l), .bool false, undef, .int .i64 t, .bool true, .bool false, .pointer (some ⟨w.heap.size, 6, none⟩), .slice q.gA q.gs.length q.gc, .int .i64 q.gs.length, .pointer (some ⟨w.heap.size, 5, none⟩), .int .i64 many, .func (.func 71) #[] #[.pointer (some ⟨w1.heap.size + 1, 0, none⟩), .pointer (some ⟨w1.heap.size, 0, none⟩)], .slice A' F.length c', .agg #[.string q.name, .int .i64 q.lo, .int .i64 q.hi, .int .i64 q.rise, .int .i64 q.fall, .int .i64 many, .slice q.gA q.gs.length q.gc], .slice A l.length c, .slice A' F.length c', .int .i64 t, .int .i64 x, .int .i64 x, .agg #[.int .i64 x, .int .i64 x], .agg #[.int .i64 t, .int .i64 x, .int .i64 x], .int .i64 t, .agg #[.int .i64 (-4000000000), .int .i64 4000000000], .agg #[.int .i64 t, .int .i64 (-4000000000), .int .i64 4000000000], .slice (some ⟨gb50, 0, none⟩) 2 2, .slice (some ⟨g, 0, none⟩) nn.length cap, .agg #[.string q.name, .int .i64 q.lo, .int .i64 q.hi, .int .i64 q.rise, .int .i64 q.fall, .int .i64 many, .slice q.gA q.gs.length q.gc], .slice (some ⟨g, 0, none⟩) nn.length cap, .bool true, .bool false, .map (some w3.heap.size), .slice (some ⟨g, 0, none⟩) nn.length cap, .int .i64 nn.length, .int .i64 nn.length, .bool false, u61, u62, u63, u64, u65, u66, u67, u68, u69, u70, u71, u72, u73, u74, u75, u76, u77, u78, u79, u80, u81, u82, u83, u84, u85, u86, u87, u88, u89, u90, u91, u92, u93, u94, u95, u96, u97, u98, .slice A l.length c, .int .i64 l.length, .int .i64 l.length, .bool false, u103, u104, u105, u106, u107, u108, u109, u110, u111, u112, v113, v114], defers := [] } ∧ (L 0 = true → v113 = .slice A' F.length c') ∧ (L 1 = true → v114 = .slice A2 l.length c2) := ⟨_, rfl⟩
                have HR27 := Lib.hid hR27
                clear hR27
                refine round_region_inv 3 R27 (by kernel_rfl) (by kernel_rfl) (fun ⟨_, _, h⟩ => h) (by kernel_rfl) (by kernel_rfl) (by kernel_rfl) (by decide) (by kernel_rfl) ?_ ?_ ?_
                · rw [HR27.out]
                  exact ⟨⟨_, (Below.refl wr.heap.size wr).drew⟩, _, _, rfl, rfl, by simp, by simp⟩
                · rintro L a' w' i o hi ho hLi haf hInv
                  rw [HR27.out] at hInv
                  obtain ⟨e, v113, v114, rfl, rfl, h0, h1⟩ := hInv
                  rcases i with _ | _ | _ | i
                  case succ.succ.succ => omega
                  all_goals (simp only [List.getElem?_cons_zero, List.getElem?_cons_succ, Option.some.injEq] at ho; subst ho)
                  · go_wp2
                    rw [HR27.out]
                    exact ⟨e, _, _, by simp, rfl, fun _ => rfl, fun z => h1 (by simpa using z)⟩
                  · have f := (sto_other (b := L 2) (X := e.w) (p := ⟨w.heap.size + 1 + 1 + 1 + 1, 0, none⟩) (r := ⟨w.heap.size + 1 + 1 + 1 + 1 + 1, 0, none⟩) (v := .slice A' F.length c') (by simp)).trans ((e.b.cell (p := ⟨w.heap.size + 1 + 1 + 1 + 1 + 1, 0, none⟩) (by simp only; omega)).trans e3)
                    obtain ⟨Y, hY⟩ : ∃ Y, Y = sto (L 2) e.w ⟨w.heap.size + 1 + 1 + 1 + 1, 0, none⟩ (.slice A' F.length c') := ⟨_, rfl⟩
                    rw [← hY] at f ⊢
                    have HY2 := Lib.hid hY
                    clear hY
                    go_wp2
                    rw [HR27.out]
                    exact ⟨e, _, _, by rw [HY2.out]; simp, rfl, fun z => h0 (by simpa using z), fun _ => rfl⟩
                  · obtain rfl := h0 (haf ⟨0, .data⟩ (by simp) rfl)
                    have f := (e.b.cell (p := ⟨w.heap.size + 1 + 1 + 1 + 1, 0, none⟩) (by simp only; omega)).trans e1
                    have ff := (e.b.frozen (p := ⟨w.heap.size + 1 + 1 + 1 + 1, 0, none⟩) (by simp only; omega)).trans e2
                    rw [hLi]
                    show wpList _ _ _ _ _ e.w
                    go_wp2
                    rw [HR27.out]
                    exact ⟨e, _, _, by simp [sto], rfl, fun _ => rfl, fun z => h1 (by simpa using z)⟩
                · rintro L a' w' hL hInv
                  rw [HR27.out] at hInv
                  obtain ⟨e, v113, v114, rfl, rfl, h0, h1⟩ := hInv
                  obtain rfl := h0 (hL 0 (by omega))
                  obtain rfl := h1 (hL 1 (by omega))
                  have hes := e.b.size
                  obtain ⟨Y, hY⟩ : ∃ Y, Y = e.w.setCell ⟨w.heap.size + 1 + 1 + 1 + 1, 0, none⟩ (.slice A' F.length c') := ⟨_, rfl⟩
                  rw [show sto (L 2) e.w ⟨w.heap.size + 1 + 1 + 1 + 1, 0, none⟩ (.slice A' F.length c') = Y from by rw [hY, hL 2 (by omega)]; rfl]
                  have k5 := (e.b.cell (p := ⟨w.heap.size + 1 + 1 + 1 + 1 + 1, 0, none⟩) (by simp only; omega)).trans e3
                  have k6 := (e.b.cell (p := ⟨w.heap.size + 1 + 1 + 1 + 1 + 1 + 1, 0, none⟩) (by simp only; omega)).trans e5
                  have k7 := (e.b.cell (p := ⟨w.heap.size + 1 + 1 + 1 + 1 + 1 + 1 + 1, 0, none⟩) (by simp only; omega)).trans e7
                  have k4 := (e.b.cell (p := ⟨w.heap.size + 1 + 1 + 1 + 1, 0, none⟩) (by simp only; omega)).trans e1
                  have f5 : Y.cell? ⟨w.heap.size + 1 + 1 + 1 + 1 + 1, 0, none⟩ = some (.slice A2 l.length c2) := by rw [hY, World.cell?_setCell_other _ _ _ _ (by simp)]; exact k5
                  have f5f : Y.frozen? ⟨w.heap.size + 1 + 1 + 1 + 1 + 1, 0, none⟩ = false := by rw [hY, World.frozen?_setCell]; exact (e.b.frozen (p := ⟨w.heap.size + 1 + 1 + 1 + 1 + 1, 0, none⟩) (by simp only; omega)).trans e4
                  have f6 : Y.cell? ⟨w.heap.size + 1 + 1 + 1 + 1 + 1 + 1, 0, none⟩ = some (.bool false) := by rw [hY, World.cell?_setCell_other _ _ _ _ (by simp)]; exact k6
                  have f6f : Y.frozen? ⟨w.heap.size + 1 + 1 + 1 + 1 + 1 + 1, 0, none⟩ = false := by rw [hY, World.frozen?_setCell]; exact (e.b.frozen (p := ⟨w.heap.size + 1 + 1 + 1 + 1 + 1 + 1, 0, none⟩) (by simp only; omega)).trans e6
                  have f7 : Y.cell? ⟨w.heap.size + 1 + 1 + 1 + 1 + 1 + 1 + 1, 0, none⟩ = some (.int .i64 0) := by rw [hY, World.cell?_setCell_other _ _ _ _ (by simp)]; exact k7
                  have f7f : Y.frozen? ⟨w.heap.size + 1 + 1 + 1 + 1 + 1 + 1 + 1, 0, none⟩ = false := by rw [hY, World.frozen?_setCell]; exact (e.b.frozen (p := ⟨w.heap.size + 1 + 1 + 1 + 1 + 1 + 1 + 1, 0, none⟩) (by simp only; omega)).trans e8
                  obtain ⟨Z, hZ⟩ : ∃ Z, Z = four e.w w.heap.size (.slice A' F.length c') (.slice A2 l.length c2) (.bool true) (.int .i64 0) := ⟨_, rfl⟩
                  obtain ⟨z4, z5, z6, z7⟩ := four_cells (v4 := .slice A' F.length c') (v5 := .slice A2 l.length c2) (v6 := .bool true) (v7 := .int .i64 0) k4 k5 k6 k7
                  rw [← hZ] at z4 z5 z6 z7
                  have Hz4 := Lib.hid z4
                  have Hz5 := Lib.hid z5
                  have Hz6 := Lib.hid z6
                  have Hz7 := Lib.hid z7
                  have HZ := Lib.hid hZ
                  have HZ2 := Lib.hid (show Z = ((Y.setCell ⟨w.heap.size + 1 + 1 + 1 + 1 + 1, 0, none⟩ (.slice A2 l.length c2)).setCell ⟨w.heap.size + 1 + 1 + 1 + 1 + 1 + 1, 0, none⟩ (.bool true)).setCell ⟨w.heap.size + 1 + 1 + 1 + 1 + 1 + 1 + 1, 0, none⟩ (.int .i64 0) by rw [hZ, hY]; rfl)
                  clear k4 k5 k6 k7 z4 z5 z6 z7 hZ hY h0 h1 hL
                  go_wp2
                  gi_wp2
                  rw [← HZ2.out]
                  have hbw := (HU.out wl HbL.out).trans ((HB.out.belowN (n := w.heap.size) (by omega) (by omega)).trans (e.b.mono (show w.heap.size ≤ wr.heap.size by omega)))
                  refine ⟨?_, rfl, F, A', c', .slice A2 l.length c2, ?_, HN2.out.1, ?_, Hz4.out, Hz5.out, Hz6.out, Hz7.out, ?_, ?_⟩
                  · rw [HZ.out]
                    exact (((keeps_of_below HbX.out).trans (HB.out.keeps Ha3.out)).trans (keeps_of_below e.b)).trans four_keeps
                  · simp
                  · rw [HZ.out]; exact four_below hbw
                  · intro hF0
                    obtain ⟨b, cs', fz, rfl, k1, k2, k3⟩ := Hx4.out hF0
                    have hbX := (Array.getElem?_eq_some_iff.1 k2).1
                    refine ⟨b, cs', fz, rfl, by omega, ?_, k3⟩
                    rw [HZ.out, four_heap (by omega), e.b.block b (by omega), HB.out.same b (by omega) (by omega), HbX.out.block b hbX]
                    exact k2
                  · have h := Ho.out
                    rw [List.take_length] at h
                    rw [HZ.out, List.length_map]
                    exact own_mono (four_own (own_below h e.b) (by omega)) (by omega)
end Go.Proofs.Ytcgnpndfhhcplaa
