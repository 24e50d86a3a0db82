/-
  A range over a function whose iterator hands on what lies in memory: the law of the walk; a region that draws its order, in a round. Over any program.
  Over any program: a return behind several ranges over functions, each of which left a block for deferred calls.
-/
import Derived.Test.YtcgnpndfhhcplaaGreatDoorRegion
import Derived.RangeFuncFrom
import Derived.RangeFuncCalls
import Derived.OrdersIn
import Derived.TacticsIn
namespace W7
open Go Go.RowKit
section round
variable {P : Program} {l n : Nat}
theorem oper_in_round {o : Oper} {a : Act} {w : World} {K : Act → World → Prop} {Q : Exit → Act → World → Prop} (hd : ∀ c, o.op ≠ .defer c) (h : o.wp P a w K Q) : o.wpIn (Fence.wide.inRound l) n P a w K Q := by
  refine ⟨fun _ _ => trivial, ?_⟩
  rw [show (Fence.wide.inRound l).round = some l from rfl, Oper.semAt_some l _ o hd]
  unfold Oper.wp at h
  generalize (execOp a.eval o).run P w = r at h ⊢
  have h0 : (Fence.wide.inRound l).depth.isSome = true → 1 ≤ n := fun h => by cases h
  cases r with
  | ok x w' =>
    cases x with
    | value v => exact h
    | skip => exact h
    | defer d => exact h
    | enter f args => exact ⟨h0, (callsIn_wide.2 h).inRound l⟩
    | row row args => exact ⟨h0, fun c cs _ => by
        obtain ⟨v, w2, hr, hs⟩ := h c cs
        exact ⟨v, w2, hr, stepsIn_wide.2 hs⟩⟩
    | _ => exact h.elim
  | halt x w' => cases x <;> first | exact h | exact h.elim
theorem any_in_round {ops : Array Oper} {md : Region.Mode} {Q : Exit → Act → World → Prop} (hQ : ¬ LetsOut Q) (hd : ∀ (i : Nat) (o : Oper), ops[i]? = some o → ∀ c : Call, o.op ≠ .defer c) :
    ∀ (fuel : Nat) (listed : Array Bool) (a : Act) (w : World), wpAny P md ops Q fuel listed a w → wpAnyIn (Fence.wide.inRound l) n P md ops Q fuel listed a w
  | 0, _, _, _, h => h
  | fuel + 1, listed, a, w, h => by
    refine ⟨h.1, fun i hi => ?_⟩
    have h1 := wpOp_mono (fun a w h => any_in_round hQ hd fuel _ a w h) (h.2 i hi)
    unfold wpOp at h1
    unfold wpOpIn
    cases ho : ops[i]? with
    | none => simp only [ho] at h1 ⊢; exact h1
    | some o =>
      simp only [ho] at h1 ⊢
      split
      · rename_i hw
        simp only [hw, if_true] at h1
        exact oper_in_round (hd i o ho) (h1.resolve_right fun h => hQ h.2)
      · rename_i hw
        simp only [hw] at h1
        exact ⟨fun _ _ => trivial, h1⟩
def noDefer (ops : List Oper) : Bool := ops.all fun o => match o.op with | .defer _ => false | _ => true
theorem noDefer_spec {ops : List Oper} (h : noDefer ops = true) : ∀ (i : Nat) (o : Oper), ops.toArray[i]? = some o → ∀ c : Call, o.op ≠ .defer c := fun i o ho c hc => by
  have hm : o ∈ ops := List.mem_of_getElem? (by simpa using ho)
  have := List.all_eq_true.1 h o hm
  rw [hc] at this
  cases this
theorem round_later_tail {id : Nat} {Q : Exit → Act → World → Prop} {a : Act} {w : World} {l' : List Oper} (m : Nat) (hm : P.follows .mixedOrders = true) (hB : Region.lexTailB .any l'.toArray m = true) (hd : noDefer l' = true) (hQ : ¬ LetsOut Q)
    (h : wpQuiet P l'.toArray (fun w' => ∃ e : Later w, w' = e.w) (fun a' => ∀ w', (∃ e : Later w, w' = e.w) → wpList P l'.toArray Q (l'.drop m) a' w') (l'.take m) a) :
    (Code.region id l'.toArray true).wpIn (Fence.wide.inRound l) n P Q a w :=
  wpIn_region_any hm (any_in_round hQ (noDefer_spec hd) _ _ _ _ (wpAny_class_tail m hB ⟨⟨_, (Below.refl w.heap.size w).drew⟩, rfl⟩ h))
end round
/-- the normal exit alone -/
def onlyN (K : Act → World → Prop) : Exit → Act → World → Prop
  | .normal, a, w => K a w
  | _, _, _ => False
theorem onlyN_out {K : Act → World → Prop} : ¬ LetsOut (onlyN K) := fun ⟨_, _, h⟩ => h
/-- how many of the first n are still to come -/
def cntL : Nat → (Nat → Bool) → Nat
  | 0, _ => 0
  | n + 1, L => cntL n L + if L n then 0 else 1
theorem cntL_false : ∀ n, cntL n (fun _ => false) = n
  | 0 => rfl
  | n + 1 => by simp [cntL, cntL_false n]
theorem cntL_same {L : Nat → Bool} {i : Nat} : ∀ n, n ≤ i → cntL n (fun j => j == i || L j) = cntL n L
  | 0, _ => rfl
  | n + 1, h => by
    have : (n == i) = false := by simp; omega
    have h2 := cntL_same (L := L) (i := i) n (by omega)
    simp only [cntL, h2, this, Bool.false_or]
theorem cntL_set {L : Nat → Bool} {i : Nat} (hL : L i = false) : ∀ n, i < n → cntL n (fun j => j == i || L j) + 1 = cntL n L
  | 0, h => absurd h (by omega)
  | n + 1, h => by
    by_cases hi : i = n
    · subst hi; simp [cntL, hL, cntL_same]
    · have : (n == i) = false := by simp; omega
      have := cntL_set hL n (by omega)
      simp only [cntL, ‹(n == i) = false›, Bool.false_or]; omega
theorem cntL_zero {L : Nat → Bool} : ∀ n, cntL n L = 0 → ∀ j, j < n → L j = true
  | 0, _, _, h => absurd h (by omega)
  | n + 1, h, j, hj => by
    simp only [cntL] at h
    by_cases hjn : j = n
    · subst hjn; cases hL : L j <;> simp [hL] at h ⊢
    · exact cntL_zero n (by omega) j (by omega)
theorem cntL_pos {L : Nat → Bool} : ∀ n, 0 < cntL n L → ∃ i, i < n ∧ L i = false ∧ ∀ j, j < i → L j = true
  | 0, h => absurd h (by simp [cntL])
  | n + 1, h => by
    by_cases h0 : 0 < cntL n L
    · obtain ⟨i, h1, h2, h3⟩ := cntL_pos n h0; exact ⟨i, by omega, h2, h3⟩
    · have h1 := cntL_zero (L := L) n (by omega)
      simp only [cntL] at h
      cases hL : L n
      · exact ⟨n, by omega, hL, h1⟩
      · simp [hL] at h; omega
def backB (ops : List Oper) : Bool := (List.range ops.length).all fun i => match ops[i]? with | none => true | some o => o.after.all fun e => !Region.binds .any e || decide (e.on < i)
section inv
variable {P : Program} {ops : Array Oper} {md : Region.Mode}
theorem oper_onlyN {o : Oper} {a : Act} {w : World} {K : Act → World → Prop} {Q : Exit → Act → World → Prop} (h : o.wp P a w K (onlyN K)) : o.wp P a w K Q := by
  unfold Oper.wp at h ⊢
  generalize (execOp a.eval o).run P w = r at h ⊢
  cases r with
  | ok x w' =>
    cases x with
    | enter f args => exact Calls.mono h fun e w2 he => by cases e <;> first | exact he | exact (onlyN_out he).elim | exact he.elim
    | _ => exact h
  | halt x w' => cases x <;> first | exact h | exact h.elim
theorem wpOp_of_list {i : Nat} {o : Oper} {a : Act} {w : World} {K : Act → World → Prop} {Q : Exit → Act → World → Prop} (ho : ops[i]? = some o) (h : wpList P ops (onlyN K) [o] a w) : wpOp P ops Q i K a w := by
  unfold wpOp
  simp only [ho]
  unfold wpList at h
  split
  · rename_i hw
    simp only [hw, if_true] at h
    rcases h with h | h
    · exact .inl (oper_onlyN h)
    · exact (onlyN_out h.2).elim
  · rename_i hw
    simp only [hw] at h
    exact h
theorem wpAny_inv {n g : Nat} {fin : Array Bool} {Inv : (Nat → Bool) → Act → World → Prop} {Q' : Exit → Act → World → Prop} (hs : Region.sinkB md ops n = true) (hc : Region.chainB md ops n = true) (hn : n < ops.size)
    (hback : ∀ (i : Nat) (o : Oper), ops[i]? = some o → ∀ e ∈ o.after, Region.binds md e = true → e.on < i) (hfin : fin.size = ops.size) (hfin1 : ∀ j, fin[j]? = if j < ops.size then some (decide (j < n)) else none)
    (hstep : ∀ (L : Nat → Bool) a w i o, i < n → ops[i]? = some o → L i = false → (∀ e ∈ o.after, Region.binds md e = true → L e.on = true) → Inv L a w → wpList P ops (onlyN fun a' w' => Inv (fun j => j == i || L j) a' w') [o] a w)
    (htail : ∀ (L : Nat → Bool) a w, (∀ j, j < n → L j = true) → Inv L a w → wpAny P md ops Q' g fin a w) :
    ∀ (f : Nat) (listed : Array Bool) (a : Act) (w : World), HeadInv md ops n listed → cntL n (fun j => listed.getD j false) = f → Inv (fun j => listed.getD j false) a w → wpAny P md ops Q' (f + g) listed a w
  | 0, listed, a, w, inv, hcnt, hI => by
    have h1 := cntL_zero n hcnt
    have : listed = fin := by
      apply Array.ext
      · rw [inv.size, hfin]
      · intro j hj hj'
        have h2 := hfin1 j
        rw [Array.getElem?_eq_getElem hj', if_pos (by rw [← hfin]; exact hj')] at h2
        rw [Option.some.inj h2]
        by_cases hjn : j < n
        · have := h1 j hjn
          simp only [Array.getD, hj, dite_true] at this
          rw [decide_eq_true hjn]; exact this
        · have := inv.tail j (by omega) (by rw [← inv.size]; exact hj)
          simp only [Array.getD, hj, dite_true] at this
          rw [decide_eq_false hjn]; exact this
    rw [Nat.zero_add, this]; rw [this] at hI; exact htail _ a w (by rw [← this]; exact h1) hI
  | f + 1, listed, a, w, inv, hcnt, hI => by
    obtain ⟨i0, hi0, hL0, hlow⟩ := cntL_pos n (by rw [hcnt]; omega)
    have hin0 : i0 < listed.size := by rw [inv.size]; omega
    have hun0 : listed.getD i0 true = false := by simp only [Array.getD, hin0, dite_true] at hL0 ⊢; exact hL0
    rw [show f + 1 + g = (f + g) + 1 by omega]
    refine ⟨fun h0 => absurd (mem_ready.2 ⟨hun0, ops[i0]'(by omega), Array.getElem?_eq_getElem (by omega), fun e he hbd => hlow _ (hback i0 _ (Array.getElem?_eq_getElem (by omega)) e he hbd)⟩) (by rw [h0]; simp), fun i hi => ?_⟩
    have hin : i < n := by
      rcases Nat.lt_or_ge i n with h | h
      · exact h
      · exact absurd hi (tail_waits hs hc hn inv _ i0 rfl hi0 hun0 i h)
    obtain ⟨hun, o, ho, hall⟩ := mem_ready.1 hi
    have hsz : i < listed.size := by rw [inv.size]; omega
    have hLi : listed.getD i false = false := by simp only [Array.getD, hsz, dite_true] at hun ⊢; exact hun
    have e : (fun j => (listed.setIfInBounds i true).getD j false) = fun j => j == i || listed.getD j false := by
      funext j
      by_cases hj : j = i
      · subst hj; simp [Array.getD, hsz]
      · simp only [Array.getD, Array.size_setIfInBounds]
        by_cases hjs : j < listed.size
        · simp [hjs, hj, Ne.symm hj]
        · simp [hjs, hj]
    refine wpOp_mono (fun a' w' h => wpAny_inv hs hc hn hback hfin hfin1 hstep htail f _ a' w' (inv.set hi hin) ?_ ?_) (wpOp_of_list ho (hstep _ a w i o hin ho hLi hall hI))
    · rw [e]; have := cntL_set (L := fun j => listed.getD j false) hLi n hin; omega
    · rw [e]; exact h
theorem backB_spec {l : List Oper} (h : backB l = true) : ∀ (i : Nat) (o : Oper), l.toArray[i]? = some o → ∀ e ∈ o.after, Region.binds .any e = true → e.on < i := fun i o ho e he hbd => by
  have hi : i < l.length := by
    rcases Nat.lt_or_ge i l.length with h1 | h1
    · exact h1
    · rw [Array.getElem?_eq_none (by simpa using h1)] at ho; cases ho
  have := List.all_eq_true.1 h i (List.mem_range.2 hi)
  simp only [List.getElem?_toArray] at ho
  rw [ho] at this
  have h2 := Array.all_eq_true'.1 this e he
  simpa [hbd] using h2
theorem wpAny_region_inv {Q : Exit → Act → World → Prop} {a : Act} {w : World} {l : List Oper} (n : Nat) (Inv : (Nat → Bool) → Act → World → Prop) (hs : Region.sinkB .any l.toArray n = true) (hc : Region.chainB .any l.toArray n = true) (hb : backB l = true) (hn : n < l.toArray.size)
    (hseq : Region.seqB .any l.toArray (l.drop n).length n ((List.range l.length).map (fun j => decide (j < n))).toArray = true)
    (h0 : Inv (fun _ => false) a { w with drawn := w.drawn + 1 })
    (hstep : ∀ (L : Nat → Bool) a w i o, i < n → l[i]? = some o → L i = false → (∀ e ∈ o.after, Region.binds .any e = true → L e.on = true) → Inv L a w → wpList P l.toArray (onlyN fun a' w' => Inv (fun j => j == i || L j) a' w') [o] a w)
    (htail : ∀ (L : Nat → Bool) a w, (∀ j, j < n → L j = true) → Inv L a w → wpList P l.toArray Q (l.drop n) a w) : wpAny P .any l.toArray Q l.toArray.size (Array.replicate l.toArray.size false) a { w with drawn := w.drawn + 1 } := by
  have inv0 : HeadInv .any l.toArray n (Array.replicate l.toArray.size false) :=
    ⟨by simp, fun j oj _ hl => (by rw [getD_replicate_false] at hl; cases hl), fun t _ ht => getD_in (by simpa using ht) (getD_replicate_false _ _)⟩
  have e0 : (fun j => (Array.replicate l.toArray.size false).getD j false) = fun _ => false := funext fun j => getD_replicate_false _ _
  have h := wpAny_inv (P := P) (ops := l.toArray) (md := .any) (n := n) (g := (l.drop n).length) (Inv := Inv) (Q' := Q) (fin := ((List.range l.length).map (fun j => decide (j < n))).toArray) hs hc hn (backB_spec hb)
    (by simp) (fun j => by simp only [List.getElem?_toArray, List.getElem?_map, List.size_toArray]; split <;> rename_i h1 <;> simp [h1])
    (fun L a w i o hi ho => hstep L a w i o hi (by simpa using ho))
    (fun L a w hL hI => wpAny_of_seq (l.drop n) n _ a w (fun j => by simp) hseq (htail _ a w hL hI)) n (Array.replicate l.toArray.size false) a { w with drawn := w.drawn + 1 } inv0
    (by rw [e0]; exact cntL_false n) (by rw [e0]; exact h0)
  have hlen : n + (l.drop n).length = l.toArray.size := by have := hn; simp at this ⊢; omega
  rwa [hlen] at h
theorem wp_region_inv {id : Nat} {Q : Exit → Act → World → Prop} {a : Act} {w : World} {l : List Oper} (n : Nat) (Inv : (Nat → Bool) → Act → World → Prop) (hm : P.follows .mixedOrders = true)
    (hs : Region.sinkB .any l.toArray n = true) (hc : Region.chainB .any l.toArray n = true) (hb : backB l = true) (hn : n < l.toArray.size)
    (hseq : Region.seqB .any l.toArray (l.drop n).length n ((List.range l.length).map (fun j => decide (j < n))).toArray = true)
    (h0 : Inv (fun _ => false) a { w with drawn := w.drawn + 1 })
    (hstep : ∀ (L : Nat → Bool) a w i o, i < n → l[i]? = some o → L i = false → (∀ e ∈ o.after, Region.binds .any e = true → L e.on = true) → Inv L a w → wpList P l.toArray (onlyN fun a' w' => Inv (fun j => j == i || L j) a' w') [o] a w)
    (htail : ∀ (L : Nat → Bool) a w, (∀ j, j < n → L j = true) → Inv L a w → wpList P l.toArray Q (l.drop n) a w) : (Code.region id l.toArray true).wp P Q a w :=
  wp_region_any hm (wpAny_region_inv n Inv hs hc hb hn hseq h0 hstep htail)
theorem round_region_inv {id rl rn : Nat} {Q : Exit → Act → World → Prop} {a : Act} {w : World} {l : List Oper} (n : Nat) (Inv : (Nat → Bool) → Act → World → Prop) (hm : P.follows .mixedOrders = true)
    (hd : noDefer l = true) (hQ : ¬ LetsOut Q) (hs : Region.sinkB .any l.toArray n = true) (hc : Region.chainB .any l.toArray n = true) (hb : backB l = true) (hn : n < l.toArray.size)
    (hseq : Region.seqB .any l.toArray (l.drop n).length n ((List.range l.length).map (fun j => decide (j < n))).toArray = true)
    (h0 : Inv (fun _ => false) a { w with drawn := w.drawn + 1 })
    (hstep : ∀ (L : Nat → Bool) a w i o, i < n → l[i]? = some o → L i = false → (∀ e ∈ o.after, Region.binds .any e = true → L e.on = true) → Inv L a w → wpList P l.toArray (onlyN fun a' w' => Inv (fun j => j == i || L j) a' w') [o] a w)
    (htail : ∀ (L : Nat → Bool) a w, (∀ j, j < n → L j = true) → Inv L a w → wpList P l.toArray Q (l.drop n) a w) : (Code.region id l.toArray true).wpIn (Fence.wide.inRound rl) rn P Q a w :=
  wpIn_region_any hm (any_in_round hQ (noDefer_spec hd) _ _ _ _ (wpAny_region_inv n Inv hs hc hb hn hseq h0 hstep htail))
end inv
/-- what an iterator owes that hands on rows that lie in memory -/
def SeqR {α : Type} (P : Program) (g : Nat) (lb : Array Value) (encs : α → Array Value) (R : α → World → Prop) (Kp : World → World → Prop) (S Sp : List α → Prop) (N : Nat) (w : World) : Prop :=
  ∀ (l : Nat) (J Jx : List α → World → Prop) (W : World), Below w.heap.size w W →
    (∀ s A B, J s A → Below A.heap.size A B → J s B) → (∀ s A B, Jx s A → Below A.heap.size A B → Jx s B) →
    (∀ m pre x W1, J pre W1 → pre.length < N → R x W1 → YieldAt Fence.wide m P l (encs x) W1 fun e W' =>
      (e = .returned (.bool true) ∧ J (pre ++ [x]) W' ∧ Kp W1 W') ∨ (e = .returned (.bool false) ∧ Jx (pre ++ [x]) W')) →
    J [] W →
    Calls P g (#[.func (.yield l) #[] #[]] ++ lb) W fun e W' => (∃ v, e = .returned v) ∧ ((∃ xs, S xs ∧ J xs W') ∨ (∃ pre, Sp pre ∧ Jx pre W'))
theorem OwnFrom.later {β : Type} {B : Nat} {I : β → World → Prop} (h : OwnFrom B I) {s : β} {A C : World} (hs : I s A) (hb : Below A.heap.size A C) : I s C :=
  h s A C none hs ⟨hb.os, hb.tape, hb.output, hb.size, fun i hi _ => hb.block i hi⟩ (fun _ e => by cases e)
theorem wide_depth {n : Nat} : Fence.wide.depth.isSome = true → 1 ≤ n := fun h => by cases h
theorem wpIn_rangeFunc_R {P : Program} {n : Nat} {α : Type} {g : Operand} {ps : Array Tmp} {assign body : Code} {Q : Exit → Act → World → Prop} {a : Act} {w : World}
    {gf : Nat} {lb : Array Value} (hg : a.eval g = .func (.func gf) #[] lb) (eg : ∀ args w, (callFunc gf args).run P w = .ok (.enter gf args) w)
    {encs : α → Array Value} {R : α → World → Prop} {Kp : World → World → Prop} {S Sp : List α → Prop} {N : Nat} {w0 : World} (hseq : SeqR P gf lb encs R Kp S Sp N w0)
    (hKt : ∀ {A B C : World}, Kp A B → Kp B C → Kp A C) (hKb : ∀ (W : World) (l : Nat) (o o' : Obj), w.heap.size ≤ l → W.heap[l]? = some o → o.isCells = false → Kp W (W.putObj l o'))
    (hRb : ∀ (x : α) (W : World) (l : Nat) (o o' : Obj), w.heap.size ≤ l → W.heap[l]? = some o → o.isCells = false → R x W → R x (W.putObj l o'))
    (hb0 : Below w0.heap.size w0 w) (hps : ∀ x, (encs x).size = ps.size)
    (I : List α → World → Prop) (Ix : Code → List α → World → Prop) (hI : OwnFrom w.heap.size I) (hIx : ∀ c, OwnFrom w.heap.size (Ix c)) (h0 : I [] w) (a₁ : α → Act)
    (hassign : ∀ (l m : Nat) (x : α) (W : World) (K : Act → World → Prop), K (a₁ x) W →
      assign.wpIn (Fence.wide.inRound l) m P (Exit.then K (fun _ _ _ => False)) { tmps := (ps.zip (encs x)).foldl (fun t (p, v) => t.setIfInBounds p v) a.tmps, defers := [] } W)
    (hbody : ∀ (l m : Nat) (pre : List α) (x : α) (W : World), I pre W → pre.length < N → R x W → body.wpIn (Fence.wide.inRound l) m P (ownPostK Kp I Ix (pre ++ [x]) W) (a₁ x) W)
    (hdone : ∀ (D : Nat) (xs : List α) (W : World), w.heap.size ≤ D → S xs → I xs W → W.heap[D]? = some (.deferred (some [])) → Q .normal { a with defers := { target := .collected D, args := #[] } :: a.defers } W)
    (hstop : ∀ (D : Nat) (c : Code) (pre : List α) (W : World), w.heap.size ≤ D → Sp pre → Ix c pre W → W.heap[D]? = some (.deferred (some [])) → c.wpIn Fence.wide n P Q { a with defers := { target := .collected D, args := #[] } :: a.defers } W) :
    (Code.rangeFunc g ps assign body).wpIn Fence.wide n P Q a w := by
  refine wpIn_rangeFunc fun fn _ => ?_
  obtain ⟨rec, hrec⟩ : ∃ rec : LoopState → Option Code → Loop, rec = fun st pe => { state := st, pending := pe, fn, tmps := a.tmps, params := ps, assign, body, defers := w.heap.size } := ⟨_, rfl⟩
  obtain ⟨W1, hW1⟩ : ∃ W1, (w.alloc (.deferred (some []))).alloc (.loop (rec .ready none)) = W1 := ⟨_, rfl⟩
  have hL1 : W1.heap[w.heap.size + 1]? = some (.loop (rec .ready none)) := by
    rw [← hW1]; have := World.alloc_heap_new (w.alloc (.deferred (some []))) (.loop (rec .ready none)); rwa [World.size_alloc] at this
  have hK1 : W1.heap[w.heap.size]? = some (.deferred (some [])) := by
    rw [← hW1]; exact (Below.heap_alloc _ _ _ (by simp)).trans (World.alloc_heap_new w _)
  have hI1 : I [] W1 := by rw [← hW1]; exact hI.alloc _ (hI.alloc _ h0)
  have hb1 : Below w0.heap.size w0 W1 := by
    rw [← hW1]; exact hb0.trans ((((Below.refl _ w).alloc (Nat.le_refl _) _).alloc (by simp) _).mono hb0.size)
  have same : ∀ {A C : World} {k : Nat} {o : Obj}, Below A.heap.size A C → A.heap[k]? = some o → C.heap[k]? = some o := fun hb h => (hb.block _ (Array.getElem?_eq_some_iff.1 h).1).trans h
  refine ⟨w.heap.size + 1, [{ target := .collected w.heap.size, args := #[] }], W1, { target := .fn (.func gf) lb, args := #[.func (.yield (w.heap.size + 1)) #[] #[]] }, W1, gf,
    #[.func (.yield (w.heap.size + 1)) #[] #[]] ++ lb, W1, ?_, ?_, ?_, ?_, wide_depth, callsIn_wide.2 ?_⟩
  · rw [← hW1, hrec]; exact run_enterLoop_outer _ _ _ _ _
  · simp only [resolve, hg]
    simp [go_sem]
  · intro _ _; trivial
  · simp [invoke, go_sem, eg]
  · refine (hseq (w.heap.size + 1)
      (fun pre W => I pre W ∧ W.heap[w.heap.size + 1]? = some (.loop (rec .ready none)) ∧ W.heap[w.heap.size]? = some (.deferred (some [])))
      (fun pre W => ∃ c, Ix c pre W ∧ W.heap[w.heap.size + 1]? = some (.loop (rec .done (some c))) ∧ W.heap[w.heap.size]? = some (.deferred (some [])))
      W1 hb1
      (fun s A B hs hb => ⟨OwnFrom.later hI hs.1 hb, same hb hs.2.1, same hb hs.2.2⟩)
      (fun s A B ⟨c, hc, hl, hk⟩ hb => ⟨c, OwnFrom.later (hIx c) hc hb, same hb hl, same hb hk⟩)
      ?_ ⟨hI1, hL1, hK1⟩).mono ?_
    · rintro m pre x W ⟨hi, hl, hk⟩ hlen hRx
      have hlt : w.heap.size + 1 < W.heap.size := (Array.getElem?_eq_some_iff.1 hl).1
      have hy := run_yield (P := P) (args := encs x) hl (by rw [hrec]; exact hps x)
      rw [hrec] at hy
      refine ⟨fn, _, assign, body, hy, roundIn_of_wpIn trivial (hassign _ _ x W _ ⟨_, run_beginRound hl (by rw [hrec]), ?_⟩)⟩
      have hl2 : (W.putObj (w.heap.size + 1) (.loop { rec .ready none with state := .busy })).heap[w.heap.size + 1]? = some (.loop { rec .ready none with state := .busy }) := World.putObj_heap_same hlt
      have hk2 : (W.putObj (w.heap.size + 1) (.loop { rec .ready none with state := .busy })).heap[w.heap.size]? = some (.deferred (some [])) := (World.putObj_heap_other (by omega)).trans hk
      have hw2 : Kp W (W.putObj (w.heap.size + 1) (.loop { rec .ready none with state := .busy })) := hKb _ _ _ _ (by omega) hl rfl
      refine wpIn_mono (hbody _ _ pre x _ (hI.putObj _ hi (by omega) hl rfl) hlen (hRb x W _ _ _ (by omega) hl rfl hRx)) ?_
      have fin : ∀ (jump : Option Code) (W3 : World), KeepsOthers (W.putObj (w.heap.size + 1) (.loop { rec .ready none with state := .busy })) W3 →
          (Instr.endRound (w.heap.size + 1) jump).run P W3 = .ok (.bool jump.isNone) (W3.putObj (w.heap.size + 1) (.loop (rec (if jump.isNone then .ready else .done) jump))) ∧
          W3.heap[w.heap.size + 1]? = some (.loop { rec .ready none with state := .busy }) ∧
          (W3.putObj (w.heap.size + 1) (.loop (rec (if jump.isNone then .ready else .done) jump))).heap[w.heap.size + 1]? = some (.loop (rec (if jump.isNone then .ready else .done) jump)) ∧
          (W3.putObj (w.heap.size + 1) (.loop (rec (if jump.isNone then .ready else .done) jump))).heap[w.heap.size]? = some (.deferred (some [])) := fun jump W3 hk3 => by
        have hl3 := hk3.same _ _ hl2 rfl
        have := run_endRound (P := P) jump hl3
        rw [hrec] at this ⊢
        exact ⟨this, by rw [hrec] at hl3; exact hl3, World.putObj_heap_same (Array.getElem?_eq_some_iff.1 hl3).1, (World.putObj_heap_other (by omega)).trans (hk3.same _ _ hk2 rfl)⟩
      rintro e a3 W3 hp
      cases e with
      | normal =>
        obtain ⟨hk3, hkp3, hi3⟩ := hp
        obtain ⟨hr, hl3, hl4, hk4⟩ := fin none W3 hk3
        exact ⟨_, _, hr, .inl ⟨rfl, ⟨hI.putObj _ hi3 (by omega) hl3 rfl, hl4, hk4⟩, hKt (hKt hw2 hkp3) (hKb _ _ _ _ (by omega) hl3 rfl)⟩⟩
      | ret =>
        obtain ⟨hk3, hi3⟩ := hp
        obtain ⟨hr, hl3, hl4, hk4⟩ := fin (some .ret) W3 hk3
        exact ⟨_, _, hr, .inr ⟨rfl, .ret, (hIx _).putObj _ hi3 (by omega) hl3 rfl, hl4, hk4⟩⟩
      | exit id =>
        obtain ⟨hk3, hi3⟩ := hp
        obtain ⟨hr, hl3, hl4, hk4⟩ := fin (some (.exit id)) W3 hk3
        exact ⟨_, _, hr, .inr ⟨rfl, .exit id, (hIx _).putObj _ hi3 (by omega) hl3 rfl, hl4, hk4⟩⟩
      | goto t =>
        obtain ⟨hk3, hi3⟩ := hp
        obtain ⟨hr, hl3, hl4, hk4⟩ := fin (some (.goto t)) W3 hk3
        exact ⟨_, _, hr, .inr ⟨rfl, .goto t, (hIx _).putObj _ hi3 (by omega) hl3 rfl, hl4, hk4⟩⟩
      | panic ch => exact hp.elim
      | outgrown => exact hp.elim
    · rintro e W2 ⟨⟨v, rfl⟩, (⟨xs, hS, hi, hl, hk⟩ | ⟨pre, hSp, c, hi, hl, hk⟩)⟩
      · exact ⟨none, _, by have := run_endLoop (P := P) hl (by rw [hrec]; simp); rw [hrec] at this; exact this, hdone _ xs _ (Nat.le_refl _) hS (hI.putObj _ hi (by omega) hl rfl) ((World.putObj_heap_other (by omega)).trans hk)⟩
      · exact ⟨some c, _, by have := run_endLoop (P := P) hl (by rw [hrec]; simp); rw [hrec] at this; exact this, hstop _ c pre _ (Nat.le_refl _) hSp ((hIx c).putObj _ hi (by omega) hl rfl) ((World.putObj_heap_other (by omega)).trans hk)⟩
end W7
namespace W7
open Go Go.RowKit
/-- blocks for the deferred calls of rounds -/
def mkD (D : Nat) : Deferred := { target := .collected D, args := #[] }
def DsOk (N : Nat) (Ds : List Nat) (W : World) : Prop := Ds.Nodup ∧ ∀ D ∈ Ds, N ≤ D ∧ W.heap[D]? = some (.deferred (some []))
/-- what shutting these blocks leaves as it was -/
structure Shut (Ds : List Nat) (W W' : World) : Prop where
  os : W'.os = W.os
  tape : W'.tape = W.tape
  output : W'.output = W.output
  size : W'.heap.size = W.heap.size
  same : ∀ i, i ∉ Ds → W'.heap[i]? = W.heap[i]?
theorem leavesM_all {F : Fence} {n : Nat} {P : Program} {fn : Func} {tmps : Array Value} {R : Ending → World → Prop} {v : Value} (hv : ∀ W', (results fn tmps).run P W' = .ok v W') :
    ∀ (Ds : List Nat) (W : World) (N : Nat), DsOk N Ds W → (∀ W', Shut Ds W W' → R (.returned v) W') → LeavesInM F n P fn tmps R (Ds.map mkD) .returning W
  | [], W, _, _, hR => ⟨v, hv W, hR W ⟨rfl, rfl, rfl, rfl, fun _ _ => rfl⟩⟩
  | D :: Ds, W, N, ⟨hn, hD⟩, hR => by
    rw [List.nodup_cons] at hn
    have h0 := (hD D (by simp)).2
    refine ⟨by simp, .inl ⟨D, _, rfl, run_takeDeferred h0, ?_⟩⟩
    refine leavesM_all hv Ds _ N ⟨hn.2, fun D' h' => ⟨(hD D' (by simp [h'])).1, ?_⟩⟩ fun W' hS => hR W' ⟨hS.os, hS.tape, hS.output, hS.size.trans (by simp), fun i hi => ?_⟩
    · have hne : D' ≠ D := fun e => hn.1 (e ▸ h')
      rw [World.putObj_heap_other hne]
      exact (hD D' (by simp [h'])).2
    · simp only [List.mem_cons, not_or] at hi
      rw [hS.same i hi.2, World.putObj_heap_other hi.1]
theorem own_shut {W W' : World} {Ds : List Nat} {N base e size n : Nat} {v : Value} {xs : List Value} (hS : Shut Ds W W') (hD : DsOk N Ds W) (h : W.ownsRow base e size v n xs) : W'.ownsRow base e size v n xs := by
  rcases h.2 with ⟨rfl, h0⟩ | ⟨g, cap, cur, rfl, hb, hc, hrest⟩
  · exact ⟨h.1, .inl ⟨rfl, h0⟩⟩
  · have hg : g ∉ Ds := fun hg => by
      have := (hD.2 g hg).2
      rw [hc] at this; cases this
    exact ⟨h.1, .inr ⟨g, cap, cur, rfl, hb, (hS.same g hg).trans hc, hrest⟩⟩
theorem below_shut {A W W' : World} {Ds : List Nat} {B N : Nat} (hS : Shut Ds W W') (hD : DsOk N Ds W) (h : Below B A W) (hN : B ≤ N) : Below B A W' :=
  ⟨hS.os.trans h.os, hS.tape.trans h.tape, hS.output.trans h.output, by have := h.size; have := hS.size; omega, fun i hi => (hS.same i fun hm => by have := (hD.2 i hm).1; omega).trans (h.block i hi)⟩
theorem DsOk.below {Ds : List Nat} {N : Nat} {W W' : World} (h : DsOk N Ds W) (hb : Below W.heap.size W W') : DsOk N Ds W' :=
  ⟨h.1, fun D hD => ⟨(h.2 D hD).1, (hb.block D (Array.getElem?_eq_some_iff.1 (h.2 D hD).2).1).trans (h.2 D hD).2⟩⟩
theorem DsOk.cons {Ds : List Nat} {N B D : Nat} {W W' : World} (h : DsOk N Ds W) (hb : Below B W W') (hW : W.heap.size ≤ B) (hD : W.heap.size ≤ D) (hN : N ≤ W.heap.size) (hk : W'.heap[D]? = some (.deferred (some []))) : DsOk N (D :: Ds) W' := by
  refine ⟨List.nodup_cons.2 ⟨fun hm => ?_, h.1⟩, fun D' hD' => ?_⟩
  · have := (Array.getElem?_eq_some_iff.1 (h.2 D hm).2).1; omega
  · rcases List.mem_cons.1 hD' with rfl | hm
    · exact ⟨by omega, hk⟩
    · have := (Array.getElem?_eq_some_iff.1 (h.2 D' hm).2).1
      exact ⟨(h.2 D' hm).1, (hb.block D' (by omega)).trans (h.2 D' hm).2⟩
/-- rows that do not lie in one block -/
def Sep (a b : Value) : Prop := ∀ k, a.ownBlock = some k → b.ownBlock ≠ some k
theorem own_other {w w' : World} {base e size n : Nat} {a b : Value} {xs : List Value} (h : w.ownsRow base e size b n xs) (hg : w.grownBy w' a.ownBlock) (hs : Sep a b) : w'.ownsRow base e size b n xs :=
  h.kept hg (by
    cases hb : b.ownBlock with
    | none => exact .inl rfl
    | some k => exact .inr fun e => hs k e.symm hb)
theorem Sep.symm {a b : Value} (h : Sep a b) : Sep b a := fun k h1 h2 => h k h2 h1
theorem Sep.grow {w : World} {base e size n : Nat} {a a' b : Value} {xs : List Value} (h : Sep a b) (hb : w.ownsRow base e size b n xs) (ha : a'.ownBlock = a.ownBlock ∨ ∃ k, a'.ownBlock = some k ∧ w.heap.size ≤ k) : Sep a' b := by
  intro k h1 h2
  rcases ha with h3 | ⟨k', h3, h4⟩
  · exact h k (h3 ▸ h1) h2
  · rw [h3] at h1; cases h1
    rcases hb.2 with ⟨rfl, _⟩ | ⟨g, cap, cur, rfl, _, hc, _⟩
    · simp [Value.ownBlock] at h2
    · simp [Value.ownBlock] at h2
      subst h2
      have := (Array.getElem?_eq_some_iff.1 hc).1; omega
end W7
