/-
  Plain: a text that is parsed as a valid plan is that plan's text, but for a last line feed. No program.
-/
import Derived.Test.YtcgnpndfhhcplaaGreatDoorBack1
namespace Go.Proofs.YtcgnpndfhhcplaaGreatDoor
open Go.RowKit W7 Go.Lib
theorem join_cons_head (x : UInt8) (y : List UInt8) (s : List (List UInt8)) : join ((x :: y) :: s) [32] = x :: join (y :: s) [32] := by
  rw [join_cons, join_cons]
  rfl
theorem join_parts : ∀ l : List UInt8, join (parts 32 l) [32] = l
  | [] => by show join [[]] [32] = []; rw [join_one]
  | x :: r => by
    have ih := join_parts r
    obtain ⟨y, s, hp⟩ : ∃ y s, parts 32 r = y :: s := by
      cases hh : parts 32 r with
      | nil => exact absurd hh (parts_ne _ _)
      | cons y s => exact ⟨y, s, rfl⟩
    unfold parts
    by_cases hx : x = 32
    · subst hx
      rw [if_pos rfl]
      rw [hp] at ih ⊢
      rw [join_two, ih]
      rfl
    · rw [if_neg hx]
      rw [hp] at ih ⊢
      show join ((x :: y) :: s) [32] = _
      rw [join_cons_head, ih]
/-- a text whose last line ends -/
def endLF (s : List UInt8) : List UInt8 := if s = [] ∨ s.getLast? = some 10 then s else s ++ [10]
theorem endLF_app {a b : List UInt8} : endLF (a ++ 10 :: b) = a ++ 10 :: endLF b := by
  unfold endLF
  by_cases hb : b = []
  · subst hb
    rw [if_pos (.inr (by simp)), if_pos (.inl rfl)]
  · have h1 : (a ++ 10 :: b).getLast? = b.getLast? := by
      obtain ⟨x, r, rfl⟩ : ∃ x r, b = x :: r := by cases b with | nil => exact absurd rfl hb | cons x r => exact ⟨x, r, rfl⟩
      rw [List.getLast?_append, List.getLast?_cons_cons]
      cases h : (x :: r).getLast? with
      | none => simp at h
      | some y => rfl
    by_cases h : b.getLast? = some 10
    · rw [if_pos (.inr (by rw [h1]; exact h)), if_pos (.inr h)]
    · rw [if_neg (by rw [h1]; rintro (e | e); simp at e; exact h e), if_neg (by rintro (e | e); exact hb e; exact h e)]
      simp
theorem flat_lines : ∀ (n : Nat) (s : List UInt8), s.length ≤ n → flatL (linesL s) = endLF s := by
  intro n
  induction n with
  | zero =>
    intro s hs
    obtain rfl := List.length_eq_zero_iff.1 (Nat.le_zero.1 hs)
    rfl
  | succ n ih =>
    intro s hs
    rcases index1 10 s with ⟨h1, _⟩ | ⟨a, b, h1, h2, _⟩
    · rw [lines_none h1]
      by_cases h0 : s = []
      · subst h0; rfl
      · rw [if_neg h0]
        unfold endLF
        rw [if_neg]
        · simp [flatL]
        · rintro (e | e)
          · exact h0 e
          · exact h1 (List.mem_of_getLast? e)
    · subst h1
      rw [lines_hit h2, flatL_cons, ih b (by simp at hs; omega), endLF_app]
theorem numsB_eq : ∀ {l : List (List UInt8)} {ns : List Int}, numsB l = some ns → l = ns.map itoa
  | [], ns, h => by cases h; rfl
  | w :: r, ns, h => by
    unfold numsB at h
    split at h
    · cases h
    · rename_i n hn
      split at h
      · cases h
      · rename_i ms hr
        cases h
        rw [List.map_cons, ← numsB_eq hr, ← (numB_iff.1 hn).1]
/-- what holds of a plan behind lines -/
def ReadI (p : Plan) (last : List UInt8) : Prop := last = wQ ∨ last = wG → p.qs ≠ [] ∧ p.ms = [] ∧ p.al = []
theorem bst_to (x : List UInt8) : (bst x).data.toList = x := by simp [bst]
theorem txt_q {p : Plan} (hm : p.ms = []) (ha : p.al = []) (q : Quantity) : txt { p with qs := p.qs ++ [q] } = txt p ++ qTxt q := by
  unfold txt qsTxt msTxt asTxt
  simp [hm, ha]
theorem step_txt {p : Plan} {last l : List UInt8} (hI : ReadI p last) (h : (stepW p last (parts 32 l)).1 = 0) :
    txt (stepW p last (parts 32 l)).2 = txt p ++ (l ++ [10]) ∧ ReadI (stepW p last (parts 32 l)).2 ((parts 32 l).headD []) := by
  have hj := join_parts l
  generalize parts 32 l = w at h hj ⊢
  unfold stepW at h ⊢
  split
  · rename_i h1; rw [if_pos h1] at h; cases h
  rename_i h1; rw [if_neg h1] at h
  split
  · rename_i h2; rw [if_pos h2] at h
    split
    · rename_i h3; rw [if_pos h3] at h
      split
      · rename_i h4; rw [h4] at h; cases h
      · rename_i n h4
        have hm : p.ms = [] := List.length_eq_zero_iff.1 h3.2.1
        have ha : p.al = [] := List.length_eq_zero_iff.1 h3.2.2
        obtain ⟨w0, w1, w2, w3, w4, w5, w6, rfl⟩ : ∃ a b c d e f g, w = [a, b, c, d, e, f, g] := by
          match w, h3.1 with
          | [a, b, c, d, e, f, g], _ => exact ⟨a, b, c, d, e, f, g, rfl⟩
        obtain ⟨n0, n1, n2, n3, n4, rfl⟩ := len_l5 (show n.length = 5 from by rw [numsB_len h4]; rfl)
        have h5 := numsB_eq h4
        simp only [List.drop_succ_cons, List.drop_zero, List.map_cons, List.map_nil, List.cons.injEq, and_true] at h5
        obtain ⟨rfl, rfl, rfl, rfl, rfl⟩ := h5
        obtain rfl : w0 = wQ := h2
        refine ⟨?_, fun _ => ⟨by simp, hm, ha⟩⟩
        refine (txt_q hm ha _).trans ?_
        rw [qTxt_eq, lsQ, flatL_cons]
        show _ ++ (join (qL _) [32] ++ 10 :: flatL []) = _
        unfold qL
        simp only [List.getD_cons_zero, List.getD_cons_succ, bst_to]
        rw [hj]
        rfl
    · rename_i h3; rw [if_neg h3] at h; cases h
  rename_i h2; rw [if_neg h2] at h
  split
  · rename_i h2'; rw [if_pos h2'] at h
    split
    · rename_i h3; rw [if_pos h3] at h
      split
      · rename_i h4; rw [h4] at h; cases h
      · rename_i n h4
        obtain ⟨hne, hm, ha⟩ := hI h3.2
        obtain ⟨qi, q0, hp⟩ : ∃ qi q, p.qs = qi ++ [q] := ⟨p.qs.dropLast, p.qs.getLast hne, (List.dropLast_concat_getLast hne).symm⟩
        have hd : p.qs.dropLast = qi := by rw [hp]; simp
        have hl : p.qs.getLastD default = q0 := by rw [hp]; simp
        obtain ⟨w0, w1, w2, w3, w4, rfl⟩ : ∃ a b c d e, w = [a, b, c, d, e] := by
          match w, h3.1 with
          | [a, b, c, d, e], _ => exact ⟨a, b, c, d, e, rfl⟩
        obtain ⟨n0, n1, n2, rfl⟩ := len_l3 (show n.length = 3 from by rw [numsB_len h4]; rfl)
        have h5 := numsB_eq h4
        simp only [List.drop_succ_cons, List.drop_zero, List.map_cons, List.map_nil, List.cons.injEq, and_true] at h5
        obtain ⟨rfl, rfl, rfl⟩ := h5
        obtain rfl : w0 = wG := h2'
        refine ⟨?_, fun _ => ⟨by simp, hm, ha⟩⟩
        rw [hd, hl]
        unfold txt qsTxt msTxt asTxt
        simp only [hp, hm, ha, addG, List.map_append, List.map_cons, List.map_nil, List.flatten_append, List.flatten_cons, List.flatten_nil, List.append_nil]
        rw [qTxt_eq, qTxt_eq]
        unfold lsQ
        rw [List.map_append, ← List.cons_append, flatL_app, List.append_assoc]
        congr 2
        show flatL [join (gL _) [32]] = _
        unfold gL
        simp only [List.getD_cons_zero, List.getD_cons_succ, bst_to]
        rw [hj]
        simp [flatL]
    · rename_i h3; rw [if_neg h3] at h; cases h
  rename_i h2'; rw [if_neg h2'] at h
  have hl : ∀ q, ReadI q (w.headD []) := fun q e => absurd e (by rintro (e | e); exact h2 e; exact h2' e)
  split
  · rename_i h2''; rw [if_pos h2''] at h
    split
    · rename_i h3; rw [if_pos h3] at h
      split
      · rename_i h4; rw [h4] at h; cases h
      · rename_i n h4
        refine ⟨?_, hl _⟩
        have ha : p.al = [] := List.length_eq_zero_iff.1 h3.2
        obtain ⟨w0, w1, w2, w3, w4, w5, rfl⟩ : ∃ a b c d e f, w = [a, b, c, d, e, f] := by
          match w, h3.1 with
          | [a, b, c, d, e, f], _ => exact ⟨a, b, c, d, e, f, rfl⟩
        obtain ⟨n0, n1, n2, rfl⟩ := len_l3 (show n.length = 3 from by rw [numsB_len h4]; rfl)
        have h5 := numsB_eq h4
        simp only [List.drop_succ_cons, List.drop_zero, List.map_cons, List.map_nil, List.cons.injEq, and_true] at h5
        obtain ⟨rfl, rfl, rfl⟩ := h5
        obtain rfl : w0 = wM := h2''
        unfold txt qsTxt msTxt asTxt
        simp only [ha, List.map_append, List.map_cons, List.map_nil, List.flatten_append, List.flatten_cons, List.flatten_nil, List.append_nil]
        rw [mL_eq, List.append_assoc]
        congr 2
        unfold mL
        simp only [List.getD_cons_zero, List.getD_cons_succ, bst_to]
        rw [hj]
    · rename_i h3; rw [if_neg h3] at h; cases h
  rename_i h2''; rw [if_neg h2''] at h
  split
  · rename_i h5; rw [if_pos h5] at h
    split
    · rename_i h3; rw [if_pos h3] at h
      split
      · rename_i h4; rw [h4] at h; cases h
      · rename_i n h4; rw [h4] at h
        obtain ⟨w0, w1, w2, w3, w4, rfl⟩ : ∃ a b c d e, w = [a, b, c, d, e] := by
          match w, h3 with
          | [a, b, c, d, e], _ => exact ⟨a, b, c, d, e, rfl⟩
        obtain ⟨n0, n1, rfl⟩ := len_l2 (show n.length = 2 from by rw [numsB_len h4]; rfl)
        have h5' := numsB_eq h4
        simp only [List.drop_succ_cons, List.drop_zero, List.take_succ_cons, List.take_zero, List.map_cons, List.map_nil, List.cons.injEq, and_true] at h5'
        obtain ⟨rfl, rfl⟩ := h5'
        obtain rfl : w0 = wA := h5
        split
        · rename_i a b ha hb
          refine ⟨?_, hl _⟩
          obtain ⟨ha1, ha2⟩ := firstAt_at _ _ _ _ ha
          obtain ⟨hb1, hb2⟩ := firstAt_at _ _ _ _ hb
          unfold txt qsTxt msTxt asTxt
          simp only [List.map_append, List.map_cons, List.map_nil, List.flatten_append, List.flatten_cons, List.flatten_nil, List.append_nil]
          rw [aL_eq, ← List.append_assoc]
          congr 1
          rw [aL]
          simp only [Int.toNat_natCast]
          rw [getD_mem _ _ ha1, getD_mem _ _ hb1, ha2, hb2]
          simp only [List.getD_cons_zero, List.getD_cons_succ]
          rw [hj]
        · rename_i h6
          exfalso
          revert h
          show (match firstAt Quantity.name ([wA, w1, itoa n0, itoa n1, w4].getD 1 []) p.qs, firstAt Measure.name ([wA, w1, itoa n0, itoa n1, w4].getD 4 []) p.ms with
            | some a, some b => ((0 : Int), ({ p with al := p.al ++ [(⟨a, [n0, n1].getD 0 0, [n0, n1].getD 1 0, b⟩ : Alarm)] } : Plan))
            | _, _ => (7, p)).1 = 0 → False
          split
          · rename_i a b ha hb; exact absurd hb (h6 a b ha)
          · intro h; cases h
    · rename_i h3; rw [if_neg h3] at h; cases h
  · rename_i h5; rw [if_neg h5] at h; cases h
theorem run_txt : ∀ (ls : List (List UInt8)) (p : Plan) (last : List UInt8) (i : Nat), ReadI p last → (runL p last i ls).1 = 0 → txt (runL p last i ls).2.2 = txt p ++ flatL ls
  | [], p, _, _, _, _ => by simp [runL, flatL]
  | s :: r, p, last, i, hI, h => by
    unfold runL at h ⊢
    split
    · rename_i h1
      rw [if_pos h1] at h
      obtain ⟨h2, h3⟩ := step_txt hI h1
      rw [run_txt r _ _ _ h3 h, h2, flatL_cons]
      simp
    · rename_i h1
      rw [if_neg h1] at h
      exact absurd h h1
/-- a text that is parsed is the text of its plan -/
theorem print_parse {s : List UInt8} (h : parE s = 0) : txt (parP s) = endLF s ∧ planErr (parP s) = 0 := by
  have hP : parP s = (runL emptyP [] 0 (linesL s)).2.2 := by unfold parP; rw [if_pos h]
  unfold parE at h
  split at h
  case isFalse => exact absurd h (by decide)
  split at h
  case isFalse h0 => exact absurd h h0
  rename_i h1
  rw [hP]
  refine ⟨?_, h⟩
  rw [run_txt _ _ _ _ (fun e => by rcases e with e | e <;> exact absurd e (by decide)) h1, flat_lines _ s (Nat.le_refl _)]
  rfl
end Go.Proofs.YtcgnpndfhhcplaaGreatDoor
