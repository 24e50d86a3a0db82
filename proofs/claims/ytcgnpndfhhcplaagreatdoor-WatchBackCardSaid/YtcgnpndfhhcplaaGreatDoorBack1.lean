/-
  Plain: the text of a valid plan is parsed as that plan. No program.
-/
import Derived.Test.YtcgnpndfhhcplaaGreatDoorTxt
namespace Go.Proofs.YtcgnpndfhhcplaaGreatDoor
open Go.RowKit W7 Go.Lib
theorem join_two (x y : List UInt8) (r : List (List UInt8)) : join (x :: y :: r) [32] = x ++ 32 :: join (y :: r) [32] := by
  rw [join_cons, join_cons]
  simp [joinTail]
theorem parts_join : ∀ (ws : List (List UInt8)), ws ≠ [] → (∀ w ∈ ws, (32 : UInt8) ∉ w) → parts 32 (join ws [32]) = ws
  | [], h, _ => absurd rfl h
  | [w], _, h => by rw [join_one, parts_none (h w (by simp))]
  | x :: y :: r, _, h => by
    rw [join_two, parts_hit (h x (by simp)), parts_join (y :: r) (by simp) (fun w hw => h w (List.mem_cons_of_mem _ hw))]
theorem join_notin {c : UInt8} (hc : c ≠ 32) : ∀ (ws : List (List UInt8)), (∀ w ∈ ws, c ∉ w) → c ∉ join ws [32]
  | [], _ => by simp [join, List.intercalate]
  | [w], h => by rw [join_one]; exact h w (by simp)
  | x :: y :: r, h => by
    rw [join_two]
    have h1 := join_notin hc (y :: r) (fun w hw => h w (List.mem_cons_of_mem _ hw))
    have h2 := h x (by simp)
    simp only [List.mem_append, List.mem_cons, not_or]
    exact ⟨h2, hc, h1⟩
/-- lines, each with its line feed -/
def flatL (ls : List (List UInt8)) : List UInt8 := (ls.map (· ++ [10])).flatten
theorem flatL_app (a b : List (List UInt8)) : flatL (a ++ b) = flatL a ++ flatL b := by simp [flatL]
theorem flatL_cons (a : List UInt8) (b : List (List UInt8)) : flatL (a :: b) = a ++ 10 :: flatL b := by simp [flatL]
theorem lines_flat : ∀ ls : List (List UInt8), (∀ l ∈ ls, (10 : UInt8) ∉ l) → linesL (flatL ls) = ls
  | [], _ => lines_end
  | l :: r, h => by
    rw [flatL_cons, lines_hit (h l (by simp)), lines_flat r (fun x hx => h x (List.mem_cons_of_mem _ hx))]
/-- a word that may stand in a line -/
def okW (w : List UInt8) : Prop := w ≠ [] ∧ (32 : UInt8) ∉ w ∧ (10 : UInt8) ∉ w
theorem okW_name {s : ByteArray} (h : nameB s = true) : okW s.data.toList := by
  unfold nameB at h
  simp only [Bool.and_eq_true, decide_eq_true_eq] at h
  obtain ⟨⟨⟨h1, _⟩, _⟩, h4⟩ := h
  rw [List.all_eq_true] at h4
  refine ⟨fun e => ?_, fun e => absurd (h4 _ e) (by decide), fun e => absurd (h4 _ e) (by decide)⟩
  have h0 : s.size = 0 := by rw [Go.Lib.size_eq, e]; rfl
  omega
theorem okW_itoa (n : Int) : okW (itoa n) := by
  have hd : ∀ u c, c ∈ decDigits u → isDig c = true := fun u c hc => List.all_eq_true.1 (val_dec u).2.1 c hc
  have hn : ∀ u, decDigits u ≠ [] := fun u e => by
    have := (val_dec u).2.2.2
    rw [e] at this
    simp at this
  unfold itoa
  split
  · refine ⟨by simp, fun e => ?_, fun e => ?_⟩
    · rcases List.mem_cons.1 e with e | e
      · exact absurd e (by decide)
      · exact absurd (hd _ _ e) (by decide)
    · rcases List.mem_cons.1 e with e | e
      · exact absurd e (by decide)
      · exact absurd (hd _ _ e) (by decide)
  · exact ⟨hn _, fun e => absurd (hd _ _ e) (by decide), fun e => absurd (hd _ _ e) (by decide)⟩
theorem okW_word {w : List UInt8} (h : w = wQ ∨ w = wG ∨ w = wM ∨ w = wA) : okW w := by
  rcases h with rfl | rfl | rfl | rfl <;> exact ⟨by decide, by decide, by decide⟩
/-- what lines do to a plan that is being read -/
def RunTo (p : Plan) (last : List UInt8) (ls : List (List UInt8)) (p' : Plan) (last' : List UInt8) : Prop := ∀ i r, runL p last i (ls ++ r) = runL p' last' (i + ls.length) r
theorem RunTo.nil (p : Plan) (last : List UInt8) : RunTo p last [] p last := fun _ _ => rfl
theorem RunTo.trans {p p' p'' : Plan} {l l' l'' : List UInt8} {a b : List (List UInt8)} (h : RunTo p l a p' l') (k : RunTo p' l' b p'' l'') : RunTo p l (a ++ b) p'' l'' := fun i r => by
  rw [List.append_assoc, h, k, List.length_append, Nat.add_assoc]
theorem RunTo.one {p p' : Plan} {last : List UInt8} {ws : List (List UInt8)} (hn : ws ≠ []) (hw : ∀ w ∈ ws, okW w) (h : stepW p last ws = (0, p')) : RunTo p last [join ws [32]] p' (ws.headD []) := fun i r => by
  show runL p last i (join ws [32] :: r) = _
  rw [runL, parts_join ws hn (fun w hx => (hw w hx).2.1), h, if_pos rfl]
  rfl
theorem none_empty {ws : List (List UInt8)} (hw : ∀ w ∈ ws, okW w) : ¬ (ws.any (·.isEmpty) = true) := by
  rw [List.any_eq_true]
  rintro ⟨x, hx, he⟩
  exact (hw x hx).1 (by simpa using he)
theorem numsB_itoa : ∀ ns : List Int, (∀ n ∈ ns, -10000000000 < n ∧ n < 10000000000) → numsB (ns.map itoa) = some ns
  | [], _ => rfl
  | n :: r, h => by
    have h1 : numB (itoa n) = some n := numB_iff.2 ⟨rfl, h n (by simp)⟩
    rw [List.map_cons, numsB, h1, numsB_itoa r (fun x hx => h x (List.mem_cons_of_mem _ hx))]
theorem itB_data (n : Int) : (itB n).data.toList = itoa n := by simp [itB]
def Val9 (n : Int) : Prop := -1000000000 ≤ n ∧ n ≤ 1000000000
theorem bst_of (x : ByteArray) : bst x.data.toList = x := by cases x; rfl
def qL (q : Quantity) : List (List UInt8) := [wQ, q.name.data.toList, itoa q.lo, itoa q.hi, itoa q.rise, itoa q.fall, itoa q.bad]
def gL (g : Gauge) : List (List UInt8) := [wG, g.name.data.toList, itoa g.acc, itoa g.drift, itoa g.since]
def mL (m : Measure) : List (List UInt8) := [wM, m.name.data.toList, m.crew.data.toList, itoa m.rank, itoa m.lag, itoa m.takes]
def aL (p : Plan) (a : Alarm) : List (List UInt8) := [wA, (p.qs.getD a.q.toNat default).name.data.toList, itoa a.level, itoa a.limit, (p.ms.getD a.m.toNat default).name.data.toList]
theorem qL_eq (q : Quantity) : lineT (qWs q) = join (qL q) [32] ++ [10] := by
  unfold lineT qL
  simp only [qWs, List.map_cons, List.map_nil, itB_data]
  rfl
theorem gL_eq (g : Gauge) : lineT (gWs g) = join (gL g) [32] ++ [10] := by
  unfold lineT gL
  simp only [gWs, List.map_cons, List.map_nil, itB_data]
  rfl
theorem mL_eq (m : Measure) : lineT (mWs m) = join (mL m) [32] ++ [10] := by
  unfold lineT mL
  simp only [mWs, List.map_cons, List.map_nil, itB_data]
  rfl
theorem aL_eq (p : Plan) (a : Alarm) : lineT (aWs p a) = join (aL p a) [32] ++ [10] := by
  unfold lineT aL
  simp only [aWs, List.map_cons, List.map_nil, itB_data]
  rfl
def lsQ (q : Quantity) : List (List UInt8) := join (qL q) [32] :: q.gs.map fun g => join (gL g) [32]
def lsP (p : Plan) : List (List UInt8) := (p.qs.map lsQ).flatten ++ (p.ms.map fun m => join (mL m) [32]) ++ (p.al.map fun a => join (aL p a) [32])
theorem flat_map {α : Type} (f g : α → List UInt8) (h : ∀ x, f x = g x ++ [10]) : ∀ l : List α, (l.map f).flatten = flatL (l.map g)
  | [] => rfl
  | x :: r => by
    rw [List.map_cons, List.flatten_cons, flat_map f g h r, List.map_cons, flatL_cons, h x]
    simp
theorem qTxt_eq (q : Quantity) : qTxt q = flatL (lsQ q) := by
  unfold qTxt lsQ
  rw [flatL_cons, qL_eq, flat_map _ _ gL_eq]
  simp
theorem qsTxt_eq : ∀ l : List Quantity, qsTxt l = flatL (l.map lsQ).flatten
  | [] => rfl
  | q :: r => by
    unfold qsTxt
    rw [List.map_cons, List.flatten_cons, List.map_cons, List.flatten_cons, flatL_app, qTxt_eq]
    exact congrArg _ (qsTxt_eq r)
theorem txt_eq (p : Plan) : txt p = flatL (lsP p) := by
  unfold txt lsP
  rw [flatL_app, flatL_app, qsTxt_eq]
  unfold msTxt asTxt
  rw [flat_map _ _ mL_eq, flat_map _ _ (aL_eq p)]
theorem len_l5 {l : List Int} (h : l.length = 5) : ∃ a b c d e, l = [a, b, c, d, e] := by
  match l, h with
  | [a, b, c, d, e], _ => exact ⟨a, b, c, d, e, rfl⟩
theorem len_l3 {l : List Int} (h : l.length = 3) : ∃ a b c, l = [a, b, c] := by
  match l, h with
  | [a, b, c], _ => exact ⟨a, b, c, rfl⟩
theorem len_l2 {l : List Int} (h : l.length = 2) : ∃ a b, l = [a, b] := by
  match l, h with
  | [a, b], _ => exact ⟨a, b, rfl⟩
/-- a quantity line -/
theorem run_q {p : Plan} {last : List UInt8} {q : Quantity} (hm : p.ms = []) (ha : p.al = []) (hn : nameB q.name = true) (h : Val9 q.lo ∧ Val9 q.hi ∧ Val9 q.rise ∧ Val9 q.fall ∧ Val9 q.bad) :
    RunTo p last [join (qL q) [32]] { p with qs := p.qs ++ [⟨q.name, q.lo, q.hi, q.rise, q.fall, q.bad, none, 0, []⟩] } wQ := by
  have hw : ∀ w ∈ qL q, okW w := by
    simp only [qL, List.forall_mem_cons, List.not_mem_nil, false_imp_iff, implies_true, and_true]
    exact ⟨okW_word (.inl rfl), okW_name hn, okW_itoa _, okW_itoa _, okW_itoa _, okW_itoa _, okW_itoa _⟩
  refine RunTo.one (ws := qL q) (by simp [qL]) hw ?_
  unfold stepW
  rw [if_neg (none_empty hw), if_pos (show (qL q).headD [] = wQ from rfl), if_pos ⟨rfl, by rw [hm]; rfl, by rw [ha]; rfl⟩]
  have h1 : numsB ((qL q).drop 2) = some [q.lo, q.hi, q.rise, q.fall, q.bad] := numsB_itoa [q.lo, q.hi, q.rise, q.fall, q.bad] (by
    simp only [List.forall_mem_cons, List.not_mem_nil, false_imp_iff, implies_true, and_true]
    unfold Val9 at h
    omega)
  rw [h1]
  show ((0 : Int), _) = _
  rw [show (qL q).getD 1 [] = q.name.data.toList from rfl, bst_of]
  rfl
theorem run_g {p : Plan} {last : List UInt8} {g : Gauge} {qi : List Quantity} {q : Quantity} (hq : p.qs = qi ++ [q]) (hl : last = wQ ∨ last = wG) (hn : nameB g.name = true) (h : Val9 g.acc ∧ Val9 g.drift ∧ Val9 g.since) :
    RunTo p last [join (gL g) [32]] { p with qs := qi ++ [{ q with gs := q.gs ++ [g] }] } wG := by
  have hw : ∀ w ∈ gL g, okW w := by
    simp only [gL, List.forall_mem_cons, List.not_mem_nil, false_imp_iff, implies_true, and_true]
    exact ⟨okW_word (.inr (.inl rfl)), okW_name hn, okW_itoa _, okW_itoa _, okW_itoa _⟩
  refine RunTo.one (ws := gL g) (by simp [gL]) hw ?_
  unfold stepW
  rw [if_neg (none_empty hw), if_neg (show ¬ ((gL g).headD [] = wQ) by show ¬ (wG = wQ); decide), if_pos (show (gL g).headD [] = wG from rfl), if_pos ⟨rfl, hl⟩]
  have h1 : numsB ((gL g).drop 2) = some [g.acc, g.drift, g.since] := numsB_itoa [g.acc, g.drift, g.since] (by
    simp only [List.forall_mem_cons, List.not_mem_nil, false_imp_iff, implies_true, and_true]
    unfold Val9 at h
    omega)
  rw [h1]
  show ((0 : Int), _) = _
  rw [show (gL g).getD 1 [] = g.name.data.toList from rfl, bst_of, hq]
  simp [addG]
theorem run_m {p : Plan} {last : List UInt8} {m : Measure} (ha : p.al = []) (hn : nameB m.name = true) (hc : nameB m.crew = true) (h : Val9 m.rank ∧ Val9 m.lag ∧ Val9 m.takes) :
    RunTo p last [join (mL m) [32]] { p with ms := p.ms ++ [m] } wM := by
  have hw : ∀ w ∈ mL m, okW w := by
    simp only [mL, List.forall_mem_cons, List.not_mem_nil, false_imp_iff, implies_true, and_true]
    exact ⟨okW_word (.inr (.inr (.inl rfl))), okW_name hn, okW_name hc, okW_itoa _, okW_itoa _, okW_itoa _⟩
  refine RunTo.one (ws := mL m) (by simp [mL]) hw ?_
  unfold stepW
  rw [if_neg (none_empty hw), if_neg (show ¬ ((mL m).headD [] = wQ) by show ¬ (wM = wQ); decide), if_neg (show ¬ ((mL m).headD [] = wG) by show ¬ (wM = wG); decide), if_pos (show (mL m).headD [] = wM from rfl), if_pos ⟨rfl, by rw [ha]; rfl⟩]
  have h1 : numsB ((mL m).drop 3) = some [m.rank, m.lag, m.takes] := numsB_itoa [m.rank, m.lag, m.takes] (by
    simp only [List.forall_mem_cons, List.not_mem_nil, false_imp_iff, implies_true, and_true]
    unfold Val9 at h
    omega)
  rw [h1]
  show ((0 : Int), _) = _
  rw [show (mL m).getD 1 [] = m.name.data.toList from rfl, show (mL m).getD 2 [] = m.crew.data.toList from rfl, bst_of, bst_of]
  rfl
theorem firstAt_hit {α : Type} (nm : α → ByteArray) (w : List UInt8) : ∀ (xs : List α) (i : Nat) (h : i < xs.length), (nm xs[i]).data.toList = w → (∀ j (hj : j < i), (nm (xs[j]'(by omega))).data.toList ≠ w) → firstAt nm w xs = some i
  | [], i, h, _, _ => absurd h (by simp)
  | x :: r, 0, _, h1, _ => by unfold firstAt; exact if_pos h1
  | x :: r, i + 1, h, h1, h2 => by
    unfold firstAt
    rw [if_neg (show ¬ (nm x).data.toList = w from h2 0 (by omega)), firstAt_hit nm w r i (by simpa using h) h1 (fun j hj => h2 (j + 1) (by omega))]
    rfl
theorem firstAt_at {α : Type} (nm : α → ByteArray) (w : List UInt8) : ∀ (xs : List α) (i : Nat), firstAt nm w xs = some i → ∃ h : i < xs.length, (nm xs[i]).data.toList = w
  | [], i, h => by cases h
  | x :: r, i, h => by
    unfold firstAt at h
    split at h
    · rename_i hx
      cases h
      exact ⟨by simp, hx⟩
    · cases hr : firstAt nm w r with
      | none => rw [hr] at h; cases h
      | some k =>
        rw [hr] at h
        cases h
        obtain ⟨h1, h2⟩ := firstAt_at nm w r k hr
        exact ⟨by simp; omega, h2⟩
theorem run_a {p o : Plan} {last : List UInt8} {a : Alarm} (hq0 : 0 ≤ a.q ∧ a.q < (p.qs.length : Int)) (hm0 : 0 ≤ a.m ∧ a.m < (p.ms.length : Int)) (hn : nameB (p.qs.getD a.q.toNat default).name = true) (hc : nameB (p.ms.getD a.m.toNat default).name = true) (h : Val9 a.level ∧ Val9 a.limit)
    (hfq : firstAt Quantity.name (p.qs.getD a.q.toNat default).name.data.toList o.qs = some a.q.toNat) (hfm : firstAt Measure.name (p.ms.getD a.m.toNat default).name.data.toList o.ms = some a.m.toNat) :
    RunTo o last [join (aL p a) [32]] { o with al := o.al ++ [a] } wA := by
  have hw : ∀ w ∈ aL p a, okW w := by
    simp only [aL, List.forall_mem_cons, List.not_mem_nil, false_imp_iff, implies_true, and_true]
    exact ⟨okW_word (.inr (.inr (.inr rfl))), okW_name hn, okW_itoa _, okW_itoa _, okW_name hc⟩
  refine RunTo.one (ws := aL p a) (by simp [aL]) hw ?_
  unfold stepW
  rw [if_neg (none_empty hw), if_neg (show ¬ ((aL p a).headD [] = wQ) by show ¬ (wA = wQ); decide), if_neg (show ¬ ((aL p a).headD [] = wG) by show ¬ (wA = wG); decide), if_neg (show ¬ ((aL p a).headD [] = wM) by show ¬ (wA = wM); decide), if_pos (show (aL p a).headD [] = wA from rfl), if_pos (show (aL p a).length = 5 from rfl)]
  have h1 : numsB (((aL p a).drop 2).take 2) = some [a.level, a.limit] := numsB_itoa [a.level, a.limit] (by
    simp only [List.forall_mem_cons, List.not_mem_nil, false_imp_iff, implies_true, and_true]
    unfold Val9 at h
    omega)
  rw [h1]
  show (match firstAt Quantity.name (p.qs.getD a.q.toNat default).name.data.toList o.qs, firstAt Measure.name (p.ms.getD a.m.toNat default).name.data.toList o.ms with
    | some x, some y => ((0 : Int), ({ o with al := o.al ++ [(⟨x, a.level, a.limit, y⟩ : Alarm)] } : Plan))
    | _, _ => (7, o)) = _
  rw [hfq, hfm]
  have e1 : ((a.q.toNat : Nat) : Int) = a.q := by omega
  have e2 : ((a.m.toNat : Nat) : Int) = a.m := by omega
  simp only [e1, e2]
end Go.Proofs.YtcgnpndfhhcplaaGreatDoor
