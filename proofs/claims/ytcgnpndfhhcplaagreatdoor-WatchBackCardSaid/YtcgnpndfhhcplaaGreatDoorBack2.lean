/-
  Plain: the text of a valid plan is parsed as that plan: all of its lines. No program.
-/
import Derived.Test.YtcgnpndfhhcplaaGreatDoorBack1
namespace Go.Proofs.YtcgnpndfhhcplaaGreatDoor
open Go.RowKit W7 Go.Lib
/-- what a valid plan's names satisfy -/
structure PlanNames (p : Plan) : Prop where
  q : ∀ i (h : i < p.qs.length), nameB p.qs[i].name = true ∧ (∀ j (hj : j < i), (p.qs[j]'(by omega)).name.data.toList ≠ p.qs[i].name.data.toList) ∧ ∀ g ∈ p.qs[i].gs, nameB g.name = true
  m : ∀ i (h : i < p.ms.length), nameB p.ms[i].name = true ∧ nameB p.ms[i].crew = true ∧ ∀ j (hj : j < i), (p.ms[j]'(by omega)).name.data.toList ≠ p.ms[i].name.data.toList
theorem no_earlier {α : Type} (nm : α → ByteArray) {l : List α} {i : Nat} (hi : i < l.length) (h : ¬ ((l.take i).any (fun x => strEq (nm x) (nm l[i])) = true)) : ∀ j (hj : j < i), (nm (l[j]'(by omega))).data.toList ≠ (nm l[i]).data.toList := by
  intro j hj he
  refine h (List.any_eq_true.2 ⟨l[j]'(by omega), ?_, ?_⟩)
  · rw [List.mem_take_iff_getElem]
    exact ⟨j, by omega, rfl⟩
  · unfold strEq
    rw [Go.Lib.toList_data, Go.Lib.toList_data, he]
    simp
theorem gsNames {q : Quantity} (h : checkQB q = 0) : ∀ g ∈ q.gs, nameB g.name = true := by
  intro g hg
  unfold checkQB at h
  split at h
  case isFalse => exact absurd h (by decide)
  split at h
  case isFalse => exact absurd h (by decide)
  split at h
  case isFalse => exact absurd h (by decide)
  split at h
  case isFalse => exact absurd h (by decide)
  obtain ⟨i, hi, rfl⟩ := List.mem_iff_getElem.1 hg
  have h5 := firstErr_zero.1 h i hi
  unfold gErrAt at h5
  rw [getD_mem _ _ hi] at h5
  split at h5
  case isFalse => exact absurd h5 (by decide)
  rename_i h6
  exact h6
theorem planNames {p : Plan} (h : planErr p = 0) : PlanNames p := by
  unfold planErr at h
  split at h
  case isFalse h0 => exact absurd h h0
  rename_i h1
  split at h
  case isFalse h0 => exact absurd h h0
  rename_i h2
  unfold qsErr at h1
  split at h1
  case isFalse => exact absurd h1 (by decide)
  unfold msErr at h2
  split at h2
  case isFalse => exact absurd h2 (by decide)
  refine ⟨fun i hi => ?_, fun i hi => ?_⟩
  · have h5 := firstErr_zero.1 h1 i hi
    unfold qErrAt at h5
    rw [getD_mem _ _ hi] at h5
    split at h5
    case isFalse => exact absurd h5 (by decide)
    rename_i hn
    split at h5
    case isTrue => exact absurd h5 (by decide)
    rename_i hu
    exact ⟨hn, no_earlier Quantity.name hi hu, gsNames h5⟩
  · have h5 := firstErr_zero.1 h2 i hi
    unfold mErrAt at h5
    rw [getD_lt hi] at h5
    split at h5
    case isFalse => exact absurd h5 (by decide)
    rename_i hn
    unfold mNameB at hn
    rw [Bool.and_eq_true] at hn
    split at h5
    case isTrue => exact absurd h5 (by decide)
    rename_i hu
    exact ⟨hn.1, hn.2, no_earlier Measure.name hi hu⟩
theorem run_gs {qi : List Quantity} : ∀ (rest : List Gauge) (p : Plan) (q : Quantity) (last : List UInt8), p.qs = qi ++ [q] → (last = wQ ∨ last = wG) → (∀ g ∈ rest, nameB g.name = true ∧ Val9 g.acc ∧ Val9 g.drift ∧ Val9 g.since) →
    ∃ last', RunTo p last (rest.map fun g => join (gL g) [32]) { p with qs := qi ++ [{ q with gs := q.gs ++ rest }] } last'
  | [], p, q, last, hq, _, _ => ⟨last, by
    have e : ({ p with qs := qi ++ [{ q with gs := q.gs ++ [] }] } : Plan) = p := by
      rw [List.append_nil]
      show ({ p with qs := qi ++ [q] } : Plan) = p
      rw [← hq]
    rw [e]
    exact RunTo.nil p last⟩
  | g :: r, p, q, last, hq, hl, h => by
    obtain ⟨h1, h2⟩ := h g (by simp)
    have r1 := run_g hq hl h1 h2
    obtain ⟨l', r2⟩ := run_gs r { p with qs := qi ++ [{ q with gs := q.gs ++ [g] }] } { q with gs := q.gs ++ [g] } wG rfl (.inr rfl) (fun x hx => h x (List.mem_cons_of_mem _ hx))
    refine ⟨l', ?_⟩
    have r3 := r1.trans r2
    simp only [List.append_assoc, List.singleton_append] at r3
    exact r3
/-- what a quantity's words satisfy -/
def GoodQ (q : Quantity) : Prop := nameB q.name = true ∧ (Val9 q.lo ∧ Val9 q.hi ∧ Val9 q.rise ∧ Val9 q.fall ∧ Val9 q.bad) ∧ ∀ g ∈ q.gs, nameB g.name = true ∧ Val9 g.acc ∧ Val9 g.drift ∧ Val9 g.since
theorem run_qs : ∀ (qs : List Quantity) (p : Plan) (last : List UInt8), p.ms = [] → p.al = [] → (∀ q ∈ qs, GoodQ q) → ∃ last', RunTo p last (qs.map lsQ).flatten { p with qs := p.qs ++ qs.map absQ } last'
  | [], p, last, _, _, _ => ⟨last, by
    have e : ({ p with qs := p.qs ++ ([] : List Quantity).map absQ } : Plan) = p := by rw [List.map_nil, List.append_nil]
    rw [e]
    exact RunTo.nil p last⟩
  | q :: r, p, last, hm, ha, h => by
    obtain ⟨h1, h2, h3⟩ := h q (by simp)
    have r1 := run_q (last := last) hm ha h1 h2
    obtain ⟨l1, r2⟩ := run_gs q.gs { p with qs := p.qs ++ [⟨q.name, q.lo, q.hi, q.rise, q.fall, q.bad, none, 0, []⟩] } ⟨q.name, q.lo, q.hi, q.rise, q.fall, q.bad, none, 0, []⟩ wQ rfl (.inl rfl) h3
    obtain ⟨l2, r3⟩ := run_qs r { p with qs := p.qs ++ [absQ q] } l1 hm ha (fun x hx => h x (List.mem_cons_of_mem _ hx))
    refine ⟨l2, ?_⟩
    have r4 := (r1.trans r2).trans r3
    simp only [List.append_assoc, List.singleton_append] at r4
    exact r4
theorem run_ms : ∀ (ms : List Measure) (p : Plan) (last : List UInt8), p.al = [] → (∀ m ∈ ms, nameB m.name = true ∧ nameB m.crew = true ∧ Val9 m.rank ∧ Val9 m.lag ∧ Val9 m.takes) → ∃ last', RunTo p last (ms.map fun m => join (mL m) [32]) { p with ms := p.ms ++ ms } last'
  | [], p, last, _, _ => ⟨last, by
    have e : ({ p with ms := p.ms ++ [] } : Plan) = p := by rw [List.append_nil]
    rw [e]
    exact RunTo.nil p last⟩
  | m :: r, p, last, ha, h => by
    obtain ⟨h1, h2, h3⟩ := h m (by simp)
    have r1 := run_m (last := last) ha h1 h2 h3
    obtain ⟨l1, r2⟩ := run_ms r { p with ms := p.ms ++ [m] } wM ha (fun x hx => h x (List.mem_cons_of_mem _ hx))
    refine ⟨l1, ?_⟩
    have r4 := r1.trans r2
    simp only [List.append_assoc, List.singleton_append] at r4
    exact r4
theorem run_as (p : Plan) : ∀ (zs : List Alarm) (o : Plan) (last : List UInt8), (∀ a ∈ zs, (0 ≤ a.q ∧ a.q < (p.qs.length : Int)) ∧ (0 ≤ a.m ∧ a.m < (p.ms.length : Int)) ∧ nameB (p.qs.getD a.q.toNat default).name = true ∧ nameB (p.ms.getD a.m.toNat default).name = true ∧ (Val9 a.level ∧ Val9 a.limit) ∧
      firstAt Quantity.name (p.qs.getD a.q.toNat default).name.data.toList o.qs = some a.q.toNat ∧ firstAt Measure.name (p.ms.getD a.m.toNat default).name.data.toList o.ms = some a.m.toNat) →
    ∃ last', RunTo o last (zs.map fun a => join (aL p a) [32]) { o with al := o.al ++ zs } last'
  | [], o, last, _ => ⟨last, by
    have e : ({ o with al := o.al ++ [] } : Plan) = o := by rw [List.append_nil]
    rw [e]
    exact RunTo.nil o last⟩
  | a :: r, o, last, h => by
    obtain ⟨h1, h2, h3, h4, h5, h6, h7⟩ := h a (by simp)
    have r1 := run_a (last := last) h1 h2 h3 h4 h5 h6 h7
    obtain ⟨l1, r2⟩ := run_as p r { o with al := o.al ++ [a] } wA (fun x hx => h x (List.mem_cons_of_mem _ hx))
    refine ⟨l1, ?_⟩
    have r4 := r1.trans r2
    simp only [List.append_assoc, List.singleton_append] at r4
    exact r4
theorem run_all {p : Plan} (h : planErr p = 0) : ∃ last', RunTo emptyP [] (lsP p) (absP p) last' := by
  have hF := planFull h
  have hN := planNames h
  have hQ : ∀ q ∈ p.qs, GoodQ q := fun q hq => by
    obtain ⟨_, _, a1, a2⟩ := hF.q q hq
    obtain ⟨i, hi, rfl⟩ := List.mem_iff_getElem.1 hq
    obtain ⟨b1, _, b3⟩ := hN.q i hi
    exact ⟨b1, a1, fun g hg => ⟨b3 g hg, (a2 g hg).2⟩⟩
  have hM : ∀ m ∈ p.ms, nameB m.name = true ∧ nameB m.crew = true ∧ Val9 m.rank ∧ Val9 m.lag ∧ Val9 m.takes := fun m hm => by
    obtain ⟨_, _, a1⟩ := hF.m m hm
    obtain ⟨i, hi, rfl⟩ := List.mem_iff_getElem.1 hm
    obtain ⟨b1, b2, _⟩ := hN.m i hi
    exact ⟨b1, b2, a1⟩
  obtain ⟨l1, r1⟩ := run_qs p.qs emptyP [] rfl rfl hQ
  obtain ⟨l2, r2⟩ := run_ms p.ms { emptyP with qs := emptyP.qs ++ p.qs.map absQ } l1 rfl hM
  obtain ⟨l3, r3⟩ := run_as p p.al { emptyP with qs := emptyP.qs ++ p.qs.map absQ, ms := emptyP.ms ++ p.ms } l2 (fun a ha => by
    obtain ⟨a1, a2, a3⟩ := hF.a a ha
    have hq : a.q.toNat < p.qs.length := by omega
    have hm : a.m.toNat < p.ms.length := by omega
    rw [getD_mem _ _ hq, getD_mem _ _ hm]
    obtain ⟨b1, b2, _⟩ := hN.q _ hq
    obtain ⟨c1, _, c3⟩ := hN.m _ hm
    refine ⟨a1, a2, b1, c1, a3, ?_, ?_⟩
    · show firstAt Quantity.name p.qs[a.q.toNat].name.data.toList ([] ++ p.qs.map absQ) = _
      rw [List.nil_append, firstAt_abs]
      exact firstAt_hit _ _ _ _ hq rfl b2
    · exact firstAt_hit _ _ _ _ hm rfl c3)
  refine ⟨l3, ?_⟩
  have r4 := (r1.trans r2).trans r3
  exact r4
theorem lsP_lf {p : Plan} (h : planErr p = 0) : ∀ l ∈ lsP p, (10 : UInt8) ∉ l := by
  have hF := planFull h
  have hN := planNames h
  have key : ∀ ws : List (List UInt8), (∀ w ∈ ws, okW w) → (10 : UInt8) ∉ join ws [32] := fun ws hw => join_notin (by decide) ws (fun w hx => (hw w hx).2.2)
  intro l hl
  unfold lsP at hl
  rw [List.mem_append, List.mem_append] at hl
  rcases hl with (hl | hl) | hl
  · obtain ⟨x, hx, hl⟩ := List.mem_flatten.1 hl
    obtain ⟨q, hq, rfl⟩ := List.mem_map.1 hx
    obtain ⟨i, hi, rfl⟩ := List.mem_iff_getElem.1 hq
    obtain ⟨b1, _, b3⟩ := hN.q i hi
    unfold lsQ at hl
    rcases List.mem_cons.1 hl with rfl | hl
    · refine key _ ?_
      simp only [qL, List.forall_mem_cons, List.not_mem_nil, false_imp_iff, implies_true, and_true]
      exact ⟨okW_word (.inl rfl), okW_name b1, okW_itoa _, okW_itoa _, okW_itoa _, okW_itoa _, okW_itoa _⟩
    · obtain ⟨g, hg, rfl⟩ := List.mem_map.1 hl
      refine key _ ?_
      simp only [gL, List.forall_mem_cons, List.not_mem_nil, false_imp_iff, implies_true, and_true]
      exact ⟨okW_word (.inr (.inl rfl)), okW_name (b3 g hg), okW_itoa _, okW_itoa _, okW_itoa _⟩
  · obtain ⟨m, hm, rfl⟩ := List.mem_map.1 hl
    obtain ⟨i, hi, rfl⟩ := List.mem_iff_getElem.1 hm
    obtain ⟨b1, b2, _⟩ := hN.m i hi
    refine key _ ?_
    simp only [mL, List.forall_mem_cons, List.not_mem_nil, false_imp_iff, implies_true, and_true]
    exact ⟨okW_word (.inr (.inr (.inl rfl))), okW_name b1, okW_name b2, okW_itoa _, okW_itoa _, okW_itoa _⟩
  · obtain ⟨a, ha, rfl⟩ := List.mem_map.1 hl
    obtain ⟨a1, a2, a3⟩ := hF.a a ha
    have hq : a.q.toNat < p.qs.length := by omega
    have hm : a.m.toNat < p.ms.length := by omega
    refine key _ ?_
    simp only [aL, List.forall_mem_cons, List.not_mem_nil, false_imp_iff, implies_true, and_true]
    rw [getD_mem _ _ hq, getD_mem _ _ hm]
    exact ⟨okW_word (.inr (.inr (.inr rfl))), okW_name (hN.q _ hq).1, okW_itoa _, okW_itoa _, okW_name (hN.m _ hm).1⟩
/-- the text of a valid plan is parsed as that plan -/
theorem parse_txt {p : Plan} (h : planErr p = 0) : parE (txt p) = 0 ∧ parN (txt p) = 0 ∧ parP (txt p) = absP p := by
  obtain ⟨l', hr⟩ := run_all h
  have hl := (planFull h).txt_le
  have hrun : runL emptyP [] 0 (linesL (txt p)) = (0, 0 + (lsP p).length, absP p) := by
    have h1 := hr 0 []
    rw [List.append_nil] at h1
    rw [txt_eq, lines_flat _ (lsP_lf h), h1]
    rfl
  have hle : (txt p).length ≤ 65536 := by omega
  have hE : parE (txt p) = 0 := by
    unfold parE
    rw [if_pos hle, hrun, if_pos rfl, planErr_abs, h]
  refine ⟨hE, ?_, ?_⟩
  · unfold parN
    rw [if_pos hle, hrun, if_pos rfl]
  · unfold parP
    rw [hE, if_pos rfl, hrun]
end Go.Proofs.YtcgnpndfhhcplaaGreatDoor
