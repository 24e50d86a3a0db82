/-
  Plain: the text of a plan, line by line, and how long it is. No program.
  Plain: which texts are numbers of at most 10 digits; they are the numerals of their values. No program.
  Plain: lines and words of a text; the plan of a text, or its first wrong line. No program.
  Plain: a line of a plan, by the words that the program and the specification see: the plan without its addresses. No program.
  Plain: what holds of a plan whose lines are being read; the lines one by one. No program.
-/
import Derived.Test.YtcgnpndfhhcplaaGreatDoorGood
import Derived.Test.YtcgnpndfhhcplaaGreatDoorChkQ
import Derived.Lib.Join
import Derived.Lib.ItoaNum
import Derived.Lib.AtoiAll
import Derived.Lib.Strings
import Derived.Lib.Split
import Derived.Lib.SplitLaws
namespace Go.Proofs.YtcgnpndfhhcplaaGreatDoor
open Go.RowKit W7
def itB (n : Int) : ByteArray := ⟨(Go.Lib.itoa n).toArray⟩
def sp1 : ByteArray := ⟨#[32]⟩
/-- a line of words -/
def lineT (ws : List ByteArray) : List UInt8 := Go.Lib.join (ws.map (·.data.toList)) sp1.data.toList ++ [10]
def qWs (q : Quantity) : List ByteArray := [⟨#[113, 117, 97, 110, 116, 105, 116, 121]⟩, q.name, itB q.lo, itB q.hi, itB q.rise, itB q.fall, itB q.bad]
def gWs (g : Gauge) : List ByteArray := [⟨#[103, 97, 117, 103, 101]⟩, g.name, itB g.acc, itB g.drift, itB g.since]
def mWs (m : Measure) : List ByteArray := [⟨#[109, 101, 97, 115, 117, 114, 101]⟩, m.name, m.crew, itB m.rank, itB m.lag, itB m.takes]
def aWs (p : Plan) (a : Alarm) : List ByteArray := [⟨#[97, 108, 97, 114, 109]⟩, (p.qs.getD a.q.toNat default).name, itB a.level, itB a.limit, (p.ms.getD a.m.toNat default).name]
def qTxt (q : Quantity) : List UInt8 := lineT (qWs q) ++ (q.gs.map fun g => lineT (gWs g)).flatten
def qsTxt (l : List Quantity) : List UInt8 := (l.map qTxt).flatten
def msTxt (l : List Measure) : List UInt8 := (l.map fun m => lineT (mWs m)).flatten
def asTxt (p : Plan) (l : List Alarm) : List UInt8 := (l.map fun a => lineT (aWs p a)).flatten
def txt (p : Plan) : List UInt8 := qsTxt p.qs ++ msTxt p.ms ++ asTxt p p.al
theorem flat_take_succ {α : Type} (f : α → List UInt8) {l : List α} {k : Nat} (h : k < l.length) : ((l.take (k + 1)).map f).flatten = ((l.take k).map f).flatten ++ f l[k] := by
  rw [List.take_succ_eq_append_getElem h, List.map_append, List.flatten_append]
  simp
theorem flat_le {α : Type} (f : α → List UInt8) (c : Nat) : ∀ (l : List α), (∀ x ∈ l, (f x).length ≤ c) → ((l.map f).flatten).length ≤ c * l.length
  | [], _ => by simp
  | x :: l, h => by
    have h1 := h x (by simp)
    have h2 := flat_le f c l (fun y hy => h y (by simp [hy]))
    simp only [List.map_cons, List.flatten_cons, List.length_append, List.length_cons, Nat.mul_add]
    omega
theorem flat_take_le {α : Type} (f : α → List UInt8) (c : Nat) (l : List α) (k : Nat) (h : ∀ x ∈ l, (f x).length ≤ c) : (((l.take k).map f).flatten).length ≤ c * l.length := by
  have h1 := flat_le f c (l.take k) (fun x hx => h x (List.mem_of_mem_take hx))
  have h2 : (l.take k).length ≤ l.length := by rw [List.length_take]; omega
  have := Nat.mul_le_mul_left c h2
  omega
theorem nDigits_le : ∀ (k u : Nat), u < 10 ^ (k + 1) → Go.Lib.nDigits u ≤ k + 1
  | 0, u, h => by rw [Go.Lib.nDigits_small (by simpa using h)]; exact Nat.le_refl _
  | k + 1, u, h => by
    by_cases hu : u < 10
    · rw [Go.Lib.nDigits_small hu]; omega
    · rw [Go.Lib.nDigits_big hu]
      have := nDigits_le k (u / 10) (by rw [Nat.pow_succ] at h; omega)
      omega
theorem itB_size (n : Int) (h0 : -1000000000 ≤ n) (h1 : n ≤ 1000000000) : (itB n).size ≤ 16 := by
  show (Go.Lib.itoa n).toArray.size ≤ 16
  rw [List.size_toArray]
  unfold Go.Lib.itoa
  split
  · rw [List.length_cons, Go.Lib.decDigits_length]
    have := nDigits_le 10 n.natAbs (by omega)
    omega
  · rw [Go.Lib.decDigits_length]
    have := nDigits_le 10 n.toNat (by omega)
    omega
theorem lens_le : ∀ (l : List ByteArray), (∀ x ∈ l, x.size ≤ 16) → Go.Lib.lens (l.map (·.data.toList)) ≤ 16 * l.length
  | [], _ => by simp [Go.Lib.lens]
  | x :: l, h => by
    have h1 := h x (by simp)
    have h2 := lens_le l (fun y hy => h y (by simp [hy]))
    have h3 : x.data.toList.length = x.size := Array.length_toList
    simp only [Go.Lib.lens, List.map_cons, List.sum_cons, List.length_cons, Nat.mul_add] at h2 ⊢
    omega
theorem lineT_le (l : List ByteArray) (n : Nat) (hn : l.length ≤ n) (h : ∀ x ∈ l, x.size ≤ 16) : (lineT l).length ≤ 17 * n + 1 := by
  match l, h with
  | [], _ => simp [lineT, Go.Lib.join]
  | x :: r, h =>
    unfold lineT
    rw [List.length_append, List.map_cons, Go.Lib.join_length, ← List.map_cons (f := fun x : ByteArray => x.data.toList)]
    have h2 := lens_le (x :: r) h
    have h3 : sp1.data.toList.length = 1 := rfl
    rw [h3, List.length_map]
    simp only [List.length_cons, List.length_nil] at h2 hn ⊢
    omega
/-- what a valid plan's words satisfy -/
structure PlanFull (p : Plan) : Prop where
  q16 : p.qs.length ≤ 16
  m16 : p.ms.length ≤ 16
  a16 : p.al.length ≤ 16
  q : ∀ q ∈ p.qs, q.gs.length ≤ 8 ∧ q.name.size ≤ 16 ∧ ((-1000000000 ≤ q.lo ∧ q.lo ≤ 1000000000) ∧ (-1000000000 ≤ q.hi ∧ q.hi ≤ 1000000000) ∧ (-1000000000 ≤ q.rise ∧ q.rise ≤ 1000000000) ∧ (-1000000000 ≤ q.fall ∧ q.fall ≤ 1000000000) ∧ (-1000000000 ≤ q.bad ∧ q.bad ≤ 1000000000))
    ∧ ∀ g ∈ q.gs, g.name.size ≤ 16 ∧ (-1000000000 ≤ g.acc ∧ g.acc ≤ 1000000000) ∧ (-1000000000 ≤ g.drift ∧ g.drift ≤ 1000000000) ∧ (-1000000000 ≤ g.since ∧ g.since ≤ 1000000000)
  m : ∀ m ∈ p.ms, m.name.size ≤ 16 ∧ m.crew.size ≤ 16 ∧ (-1000000000 ≤ m.rank ∧ m.rank ≤ 1000000000) ∧ (-1000000000 ≤ m.lag ∧ m.lag ≤ 1000000000) ∧ (-1000000000 ≤ m.takes ∧ m.takes ≤ 1000000000)
  a : ∀ a ∈ p.al, (0 ≤ a.q ∧ a.q < (p.qs.length : Int)) ∧ (0 ≤ a.m ∧ a.m < (p.ms.length : Int)) ∧ (-1000000000 ≤ a.level ∧ a.level ≤ 1000000000) ∧ (-1000000000 ≤ a.limit ∧ a.limit ≤ 1000000000)
theorem nameB_size {s : ByteArray} (h : nameB s = true) : s.size ≤ 16 := by
  unfold nameB at h
  simp only [Bool.and_eq_true, decide_eq_true_eq] at h
  exact h.1.1.2
theorem gsName {q : Quantity} (h : checkQB q = 0) : ∀ g ∈ q.gs, g.name.size ≤ 16 := by
  intro g hg
  unfold checkQB at h
  split at h
  case isFalse => exact absurd h (by decide)
  split at h
  case isFalse => exact absurd h (by decide)
  split at h
  case isFalse => exact absurd h (by decide)
  split at h
  case isFalse => exact absurd h (by decide)
  obtain ⟨i, hi, rfl⟩ := List.mem_iff_getElem.1 hg
  have h5 := firstErr_zero.1 h i hi
  unfold gErrAt at h5
  rw [getD_mem _ _ hi] at h5
  split at h5
  case isFalse => exact absurd h5 (by decide)
  rename_i h6
  exact nameB_size h6
theorem planFull {p : Plan} (h : planErr p = 0) : PlanFull p := by
  unfold planErr at h
  split at h
  case isFalse h0 => exact absurd h h0
  rename_i h1
  split at h
  case isFalse h0 => exact absurd h h0
  rename_i h2
  split at h
  case isFalse => exact absurd h (by decide)
  rename_i h3
  unfold qsErr at h1
  split at h1
  case isFalse => exact absurd h1 (by decide)
  rename_i hq16
  unfold msErr at h2
  split at h2
  case isFalse => exact absurd h2 (by decide)
  rename_i hm16
  refine ⟨hq16, hm16, h3, fun q hq => ?_, fun m hm => ?_, fun a ha => ?_⟩
  · obtain ⟨i, hi, rfl⟩ := List.mem_iff_getElem.1 hq
    have h5 := firstErr_zero.1 h1 i hi
    unfold qErrAt at h5
    rw [getD_mem _ _ hi] at h5
    split at h5
    case isFalse => exact absurd h5 (by decide)
    rename_i hn
    split at h5
    case isTrue => exact absurd h5 (by decide)
    obtain ⟨a1, a2, a3, a4, a5, a6, a7, a8⟩ := goodQ _ h5
    have hg := gsName h5
    refine ⟨a6, nameB_size hn, ⟨a1, a2, by omega, by omega, by omega⟩, fun g hg1 => ?_⟩
    have := a8 g hg1
    exact ⟨hg g hg1, by omega, by omega, by omega⟩
  · obtain ⟨i, hi, rfl⟩ := List.mem_iff_getElem.1 hm
    have h5 := firstErr_zero.1 h2 i hi
    unfold mErrAt at h5
    rw [getD_lt hi] at h5
    split at h5
    case isFalse => exact absurd h5 (by decide)
    rename_i hn
    unfold mNameB at hn
    rw [Bool.and_eq_true] at hn
    split at h5
    case isTrue => exact absurd h5 (by decide)
    split at h5
    case isFalse => exact absurd h5 (by decide)
    rename_i h6
    unfold mTimeB at h6
    rw [Bool.and_eq_true, Bool.and_eq_true, isTm_true, isTm_true, isTm_true] at h6
    exact ⟨nameB_size hn.1, nameB_size hn.2, by omega, by omega, by omega⟩
  · obtain ⟨i, hi, rfl⟩ := List.mem_iff_getElem.1 ha
    have h5 := firstErr_zero.1 h i hi
    unfold aErrAt at h5
    rw [getD_lt hi] at h5
    split at h5
    case isFalse => exact absurd h5 (by decide)
    rename_i h6
    split at h5
    case isFalse => exact absurd h5 (by decide)
    rename_i h7
    rw [Bool.and_eq_true, withinB_true, withinB_true] at h6
    rw [Bool.and_eq_true, isVal_true, isVal_true] at h7
    omega
theorem gLine_le {g : Gauge} (h : g.name.size ≤ 16 ∧ (-1000000000 ≤ g.acc ∧ g.acc ≤ 1000000000) ∧ (-1000000000 ≤ g.drift ∧ g.drift ≤ 1000000000) ∧ (-1000000000 ≤ g.since ∧ g.since ≤ 1000000000)) : (lineT (gWs g)).length ≤ 100 := by
  have := lineT_le (gWs g) 5 (by simp [gWs]) (by
    simp only [gWs, List.forall_mem_cons, List.not_mem_nil, false_imp_iff, implies_true, and_true]
    exact ⟨by decide, h.1, itB_size _ h.2.1.1 h.2.1.2, itB_size _ h.2.2.1.1 h.2.2.1.2, itB_size _ h.2.2.2.1 h.2.2.2.2⟩)
  omega
theorem PlanFull.gLine {p : Plan} (h : PlanFull p) : ∀ q ∈ p.qs, ∀ g ∈ q.gs, (lineT (gWs g)).length ≤ 100 := fun q hq g hg => gLine_le ((h.q q hq).2.2.2 g hg)
theorem PlanFull.qLine {p : Plan} (h : PlanFull p) : ∀ q ∈ p.qs, (lineT (qWs q)).length ≤ 200 := by
  intro q hq
  obtain ⟨_, h2, ⟨h3, h4, h5, h6, h7⟩, _⟩ := h.q q hq
  have := lineT_le (qWs q) 7 (by simp [qWs]) (by
    simp only [qWs, List.forall_mem_cons, List.not_mem_nil, false_imp_iff, implies_true, and_true]
    exact ⟨by decide, h2, itB_size _ h3.1 h3.2, itB_size _ h4.1 h4.2, itB_size _ h5.1 h5.2, itB_size _ h6.1 h6.2, itB_size _ h7.1 h7.2⟩)
  omega
theorem PlanFull.qTxt {p : Plan} (h : PlanFull p) : ∀ q ∈ p.qs, (qTxt q).length ≤ 1000 := by
  intro q hq
  have h1 := h.qLine q hq
  have h2 := flat_le (fun g => lineT (gWs g)) 100 q.gs (h.gLine q hq)
  have h3 := (h.q q hq).1
  unfold Go.Proofs.YtcgnpndfhhcplaaGreatDoor.qTxt
  rw [List.length_append]
  omega
theorem PlanFull.mLine {p : Plan} (h : PlanFull p) : ∀ m ∈ p.ms, (lineT (mWs m)).length ≤ 200 := by
  intro m hm
  obtain ⟨h1, h2, h3, h4, h5⟩ := h.m m hm
  have := lineT_le (mWs m) 6 (by simp [mWs]) (by
    simp only [mWs, List.forall_mem_cons, List.not_mem_nil, false_imp_iff, implies_true, and_true]
    exact ⟨by decide, h1, h2, itB_size _ h3.1 h3.2, itB_size _ h4.1 h4.2, itB_size _ h5.1 h5.2⟩)
  omega
theorem PlanFull.aLine {p : Plan} (h : PlanFull p) : ∀ a ∈ p.al, (lineT (aWs p a)).length ≤ 200 := by
  intro a ha
  obtain ⟨h1, h2, h3, h4⟩ := h.a a ha
  have hq : (p.qs.getD a.q.toNat default).name.size ≤ 16 := by
    rw [getD_mem _ _ (by omega)]; exact (h.q _ (List.getElem_mem _)).2.1
  have hm : (p.ms.getD a.m.toNat default).name.size ≤ 16 := by
    rw [getD_mem _ _ (by omega)]; exact (h.m _ (List.getElem_mem _)).1
  have := lineT_le (aWs p a) 5 (by simp [aWs]) (by
    simp only [aWs, List.forall_mem_cons, List.not_mem_nil, false_imp_iff, implies_true, and_true]
    exact ⟨by decide, hq, itB_size _ h3.1 h3.2, itB_size _ h4.1 h4.2, hm⟩)
  omega
theorem PlanFull.qs_le {p : Plan} (h : PlanFull p) (k : Nat) : (qsTxt (p.qs.take k)).length ≤ 16000 := by
  have := flat_take_le Go.Proofs.YtcgnpndfhhcplaaGreatDoor.qTxt 1000 p.qs k h.qTxt
  have := h.q16
  unfold qsTxt
  omega
theorem PlanFull.qs_all {p : Plan} (h : PlanFull p) : (qsTxt p.qs).length ≤ 16000 := by
  have := h.qs_le p.qs.length
  rwa [List.take_of_length_le (Nat.le_refl _)] at this
theorem PlanFull.ms_le {p : Plan} (h : PlanFull p) (k : Nat) : (msTxt (p.ms.take k)).length ≤ 3200 := by
  have := flat_take_le (fun m => lineT (mWs m)) 200 p.ms k h.mLine
  have := h.m16
  unfold msTxt
  omega
theorem PlanFull.ms_all {p : Plan} (h : PlanFull p) : (msTxt p.ms).length ≤ 3200 := by
  have := h.ms_le p.ms.length
  rwa [List.take_of_length_le (Nat.le_refl _)] at this
theorem PlanFull.as_le {p : Plan} (h : PlanFull p) (k : Nat) : (asTxt p (p.al.take k)).length ≤ 3200 := by
  have := flat_take_le (fun a => lineT (aWs p a)) 200 p.al k h.aLine
  have := h.a16
  unfold asTxt
  omega
theorem PlanFull.as_all {p : Plan} (h : PlanFull p) : (asTxt p p.al).length ≤ 3200 := by
  have := h.as_le p.al.length
  rwa [List.take_of_length_le (Nat.le_refl _)] at this
theorem PlanFull.txt_le {p : Plan} (h : PlanFull p) : (txt p).length ≤ 22400 := by
  have h1 := h.qs_all
  have h2 := h.ms_all
  have h3 := h.as_all
  unfold txt
  rw [List.length_append, List.length_append]
  omega
theorem PlanFull.gs_le {p : Plan} (h : PlanFull p) (k j : Nat) (hk : k < p.qs.length) : ((((p.qs[k].gs.take j).map fun g => lineT (gWs g)).flatten)).length ≤ 800 := by
  have h1 := flat_take_le (fun g => lineT (gWs g)) 100 p.qs[k].gs j (h.gLine _ (List.getElem_mem _))
  have h2 := (h.q _ (List.getElem_mem hk)).1
  omega
end Go.Proofs.YtcgnpndfhhcplaaGreatDoor
namespace W7
open Go.Lib
def isDig (c : UInt8) : Bool := decide (48 ≤ c.toNat) && decide (c.toNat ≤ 57)
def valD (d : List UInt8) : Nat := d.foldl (fun n c => 10 * n + (c.toNat - 48)) 0
/-- digits without a leading zero, ten at most -/
def okDs (d : List UInt8) : Bool := decide (1 ≤ d.length) && decide (d.length ≤ 10) && (decide (d.length = 1) || decide (d.head? ≠ some 48)) && d.all isDig
/-- the number of a text; none: it is no number -/
def numB (l : List UInt8) : Option Int :=
  if l.head? = some 45 then (if okDs l.tail && decide (l.tail.head? ≠ some 48) then some (-(valD l.tail : Int)) else none)
  else if okDs l then some (valD l : Int) else none
theorem valD_snoc (d : List UInt8) (c : UInt8) : valD (d ++ [c]) = 10 * valD d + (c.toNat - 48) := by simp [valD]
theorem isDig_iff {c : UInt8} : isDig c = true ↔ 48 ≤ c.toNat ∧ c.toNat ≤ 57 := by simp [isDig]
theorem dig_of (c : UInt8) (h : isDig c = true) : UInt8.ofNat (48 + (c.toNat - 48)) = c := by
  have := isDig_iff.1 h
  rw [show 48 + (c.toNat - 48) = c.toNat by omega]
  simp
theorem dig_nat (k : Nat) (h : k < 10) : (UInt8.ofNat (48 + k)).toNat = 48 + k := by
  rw [UInt8.toNat_ofNat_of_lt']
  show 48 + k < 256
  omega
/-- a value's numeral is the digits -/
theorem dec_val : ∀ (n : Nat) (d : List UInt8), d.length = n + 1 → d.all isDig = true → (n = 0 ∨ d.head? ≠ some 48) → decDigits (valD d) = d ∧ (0 < n → 1 ≤ valD d) ∧ (d.head? ≠ some 48 → 1 ≤ valD d) := by
  intro n
  induction n with
  | zero =>
    intro d hl ha _
    match d, hl with
    | [c], _ =>
      simp only [List.all_cons, List.all_nil, Bool.and_true] at ha
      have h1 := isDig_iff.1 ha
      have hv : valD [c] = c.toNat - 48 := by simp [valD]
      rw [hv]
      refine ⟨?_, by omega, fun hh => ?_⟩
      · rw [decDigits_one (by omega), dig_of c ha]
      · have : c ≠ 48 := by simpa using hh
        have : c.toNat ≠ 48 := fun he => this (UInt8.toNat_inj.1 (by rw [he]; rfl))
        omega
  | succ n ih =>
    intro d hl ha hh
    obtain ⟨e, c, rfl⟩ : ∃ e c, d = e ++ [c] := ⟨d.dropLast, d.getLast (by intro h; rw [h] at hl; cases hl), (List.dropLast_concat_getLast _).symm⟩
    rw [List.length_append, List.length_singleton] at hl
    rw [List.all_append, Bool.and_eq_true] at ha
    have hc : isDig c = true := by simpa using ha.2
    have h1 := isDig_iff.1 hc
    have hne : e ≠ [] := by intro h; rw [h] at hl; simp at hl
    have hhd : (e ++ [c]).head? = e.head? := by cases e with | nil => exact absurd rfl hne | cons x y => rfl
    have hh' : e.head? ≠ some 48 := by rw [← hhd]; rcases hh with h | h; omega; exact h
    obtain ⟨i1, _, i3⟩ := ih e (by omega) ha.1 (.inr hh')
    have hp := i3 hh'
    rw [valD_snoc]
    refine ⟨?_, by omega, by omega⟩
    rw [decDigits, dif_neg (by omega), show (10 * valD e + (c.toNat - 48)) / 10 = valD e by omega, i1, show (10 * valD e + (c.toNat - 48)) % 10 = c.toNat - 48 by omega, dig_of c hc]
/-- a numeral's value, its digits and its head -/
theorem val_dec (u : Nat) : valD (decDigits u) = u ∧ (decDigits u).all isDig = true ∧ (u ≠ 0 → (decDigits u).head? ≠ some 48) ∧ 1 ≤ (decDigits u).length := by
  induction u using Nat.strongRecOn with
  | _ u ih =>
    by_cases h : u < 10
    · rw [decDigits_one h]
      have hd := dig_nat u h
      refine ⟨by show 10 * 0 + ((UInt8.ofNat (48 + u)).toNat - 48) = u; rw [hd]; omega, by simp only [List.all_cons, List.all_nil, Bool.and_true]; exact isDig_iff.2 (by omega), fun h0 hh => ?_, by simp⟩
      have h2 : UInt8.ofNat (48 + u) = 48 := by simpa using hh
      rw [h2] at hd
      have : (48 : UInt8).toNat = 48 := rfl
      omega
    · obtain ⟨i1, i2, i3, i4⟩ := ih (u / 10) (by omega)
      rw [decDigits, dif_neg h]
      have hd := dig_nat (u % 10) (by omega)
      refine ⟨by rw [valD_snoc, i1, hd]; omega, by rw [List.all_append, i2]; simp only [List.all_cons, List.all_nil, Bool.and_true, Bool.true_and]; exact isDig_iff.2 (by omega), fun _ => ?_, by simp⟩
      have hne : decDigits (u / 10) ≠ [] := by intro he; rw [he] at i4; simp at i4
      have hhd : (decDigits (u / 10) ++ [UInt8.ofNat (48 + u % 10)]).head? = (decDigits (u / 10)).head? := by
        cases hx : decDigits (u / 10) with
        | nil => exact absurd hx hne
        | cons x y => rfl
      rw [hhd]
      exact i3 (by omega)
theorem nDigits_ge : ∀ (k u : Nat), 10 ^ k ≤ u → k + 1 ≤ nDigits u
  | 0, u, _ => nDigits_pos u
  | k + 1, u, h => by
    rw [Nat.pow_succ] at h
    have h1 : 1 ≤ 10 ^ k := Nat.one_le_pow _ _ (by decide)
    rw [nDigits_big (by omega)]
    have := nDigits_ge k (u / 10) (by omega)
    omega
theorem len_dec (u : Nat) : (decDigits u).length ≤ 10 ↔ u < 10000000000 := by
  rw [decDigits_length]
  constructor
  · intro h
    rcases Nat.lt_or_ge u 10000000000 with h1 | h1
    · exact h1
    · have := nDigits_ge 10 u (by simpa using h1)
      omega
  · intro h
    have h1 := lt_pow_nDigits u
    by_cases h2 : u < 10
    · rw [nDigits_small h2]; decide
    · have := nDigits_len 9 u (by simpa using h)
      omega
where
  nDigits_len : ∀ (k u : Nat), u < 10 ^ (k + 1) → nDigits u ≤ k + 1
    | 0, u, h => by rw [nDigits_small (by simpa using h)]; exact Nat.le_refl _
    | k + 1, u, h => by
      by_cases hu : u < 10
      · rw [nDigits_small hu]; omega
      · rw [nDigits_big hu]
        have := nDigits_len k (u / 10) (by rw [Nat.pow_succ] at h; omega)
        omega
theorem dec_zero : decDigits 0 = [48] := by rw [decDigits_one (by decide)]; rfl
theorem okDs_dec (u : Nat) (h : u < 10000000000) : okDs (decDigits u) = true := by
  obtain ⟨_, h2, h3, h4⟩ := val_dec u
  unfold okDs
  rw [h2, decide_eq_true h4, decide_eq_true ((len_dec u).2 h)]
  by_cases h0 : u = 0
  · subst h0; rw [dec_zero]; rfl
  · rw [decide_eq_true (h3 h0)]; simp
theorem dec_of_ok {d : List UInt8} (h : okDs d = true) : decDigits (valD d) = d ∧ valD d < 10000000000 ∧ (d.head? ≠ some 48 → 1 ≤ valD d) := by
  unfold okDs at h
  simp only [Bool.and_eq_true, Bool.or_eq_true, decide_eq_true_eq] at h
  obtain ⟨⟨⟨h1, h2⟩, h3⟩, h4⟩ := h
  obtain ⟨a1, _, a3⟩ := dec_val (d.length - 1) d (by omega) h4 (by rcases h3 with h | h; left; omega; right; exact h)
  refine ⟨a1, ?_, a3⟩
  rw [← len_dec, a1]
  exact h2
theorem head_dec (u : Nat) : (decDigits u).head? ≠ some 45 := by
  obtain ⟨_, h2, _, h4⟩ := val_dec u
  cases hx : decDigits u with
  | nil => rw [hx] at h4; simp at h4
  | cons c r =>
    rw [hx] at h2
    simp only [List.all_cons, Bool.and_eq_true] at h2
    have := isDig_iff.1 h2.1
    intro hh
    have hc : c = 45 := by simpa using hh
    subst hc
    exact absurd this.1 (by decide)
/-- a text is the number n just if it is its numeral and n has at most ten digits -/
theorem numB_iff {l : List UInt8} {n : Int} : numB l = some n ↔ l = itoa n ∧ -10000000000 < n ∧ n < 10000000000 := by
  constructor
  · intro h
    unfold numB at h
    split at h
    · rename_i hm
      split at h
      · rename_i hk
        rw [Bool.and_eq_true, decide_eq_true_eq] at hk
        obtain ⟨h1, h2, h3⟩ := dec_of_ok hk.1
        have h4 := h3 hk.2
        obtain rfl : n = -(valD l.tail : Int) := (Option.some.inj h).symm
        refine ⟨?_, by omega, by omega⟩
        unfold itoa
        rw [if_pos (by omega), show (-(valD l.tail : Int)).natAbs = valD l.tail by omega, h1]
        cases l with
        | nil => simp at hm
        | cons c r => simp at hm; simp [hm]
      · cases h
    · split at h
      · rename_i hk
        obtain ⟨h1, h2, _⟩ := dec_of_ok hk
        obtain rfl : n = (valD l : Int) := (Option.some.inj h).symm
        refine ⟨?_, by omega, by omega⟩
        unfold itoa
        rw [if_neg (by omega), show ((valD l : Int)).toNat = valD l by omega, h1]
      · cases h
  · rintro ⟨rfl, h1, h2⟩
    unfold itoa
    by_cases hn : n < 0
    · rw [if_pos hn]
      unfold numB
      obtain ⟨v1, _, v3, _⟩ := val_dec n.natAbs
      rw [if_pos (by rfl), List.tail_cons, okDs_dec _ (by omega), decide_eq_true (v3 (by omega)), Bool.and_self, if_pos rfl, v1]
      congr 1
      omega
    · rw [if_neg hn]
      unfold numB
      obtain ⟨v1, _, _, _⟩ := val_dec n.toNat
      rw [if_neg (head_dec _), okDs_dec _ (by omega), if_pos rfl, v1]
      congr 1
      omega
theorem fold_ge : ∀ (d : List UInt8) (acc : Nat), acc ≤ d.foldl (fun n c => 10 * n + (c.toNat - 48)) acc
  | [], acc => Nat.le_refl _
  | c :: r, acc => by
    have := fold_ge r (10 * acc + (c.toNat - 48))
    rw [List.foldl_cons]
    omega
theorem parse_digs : ∀ (d : List UInt8) (acc : Nat), d.all isDig = true → d.foldl (fun n c => 10 * n + (c.toNat - 48)) acc < 1844674407370955162 → parseUint10 acc d = .ok (d.foldl (fun n c => 10 * n + (c.toNat - 48)) acc)
  | [], acc, _, _ => rfl
  | c :: r, acc, ha, hb => by
    simp only [List.all_cons, Bool.and_eq_true] at ha
    have hc := isDig_iff.1 ha.1
    rw [List.foldl_cons] at hb ⊢
    have h1 := fold_ge r (10 * acc + (c.toNat - 48))
    have ih := parse_digs r (10 * acc + (c.toNat - 48)) ha.2 hb
    unfold parseUint10
    rw [if_pos hc, if_neg (by omega), if_neg (by omega), Nat.mul_comm acc 10, ih]
theorem mag_dec (u : Nat) (h : u < 10000000000) : parseMag (decDigits u) = .ok u := by
  obtain ⟨v1, v2, _, v4⟩ := val_dec u
  unfold parseMag
  rw [if_neg (by intro he; rw [he] at v4; simp at v4), parse_digs _ 0 v2 (by show valD (decDigits u) < _; rw [v1]; omega)]
  show NumEnd.ok (valD (decDigits u)) = _
  rw [v1]
/-- Atoi reads the numeral of such a number -/
theorem atoi_itoa (n : Int) (h1 : -10000000000 < n) (h2 : n < 10000000000) : atoiAll (itoa n) = .ok n := by
  unfold itoa
  by_cases hn : n < 0
  · rw [if_pos hn]
    unfold atoiAll
    have h45 : (45 : UInt8).toNat = 45 := rfl
    simp only [h45, or_true, if_true, mag_dec n.natAbs (by omega), not_true, false_and, if_false, true_and]
    rw [if_neg (by omega)]
    congr 1
    omega
  · obtain ⟨_, v2, _, v4⟩ := val_dec n.toNat
    have hm := mag_dec n.toNat (by omega)
    cases hx : decDigits n.toNat with
    | nil => rw [hx] at v4; simp at v4
    | cons c r =>
      rw [hx] at v2 hm
      simp only [List.all_cons, Bool.and_eq_true] at v2
      have hc := isDig_iff.1 v2.1
      have key : ∀ u, parseMag (if c.toNat = 43 ∨ c.toNat = 45 then r else c :: r) = .ok u → atoiAll (c :: r) = (if ¬ (c.toNat = 45) ∧ 9223372036854775808 ≤ u then NumEnd.range else if c.toNat = 45 ∧ 9223372036854775808 < u then .range else .ok (if c.toNat = 45 then -(u : Int) else u)) := fun u hu => by
        unfold atoiAll
        simp only [hu]
      rw [if_neg hn, key n.toNat (by rw [if_neg (by omega)]; exact hm)]
      show (if ¬ (c.toNat = 45) ∧ 9223372036854775808 ≤ n.toNat then NumEnd.range else if c.toNat = 45 ∧ 9223372036854775808 < n.toNat then .range else .ok (if c.toNat = 45 then -(n.toNat : Int) else n.toNat)) = .ok n
      rw [if_neg (by omega), if_neg (by omega), if_neg (by omega)]
      congr 1
      omega
/-- what package watch's number asks of a text -/
theorem num_of {l : List UInt8} {n : Int} : (itoa n = l ∧ -10000000000 < n ∧ n < 10000000000) ↔ numB l = some n := by
  rw [numB_iff]
  exact ⟨fun ⟨a, b, c⟩ => ⟨a.symm, b, c⟩, fun ⟨a, b, c⟩ => ⟨a.symm, b, c⟩⟩
theorem num_none_err {l : List UInt8} (h : ∀ n, atoiAll l ≠ .ok n) : numB l = none := by
  cases hx : numB l with
  | none => rfl
  | some n =>
    obtain ⟨h1, h2, h3⟩ := numB_iff.1 hx
    exact absurd (by rw [h1]; exact atoi_itoa n h2 h3) (h n)
theorem num_none_ne {l : List UInt8} {n : Int} (h : atoiAll l = .ok n) (h2 : ¬ (itoa n = l ∧ -10000000000 < n ∧ n < 10000000000)) : numB l = none := by
  cases hx : numB l with
  | none => rfl
  | some m =>
    obtain ⟨h3, h4, h5⟩ := numB_iff.1 hx
    have h6 : atoiAll l = .ok m := by rw [h3]; exact atoi_itoa m h4 h5
    rw [h] at h6
    obtain rfl := NumEnd.ok.inj h6
    exact absurd ⟨h3.symm, h4, h5⟩ h2
/-- the digits behind the sign are ten at most -/
theorem trim_len (n : Int) : (trimPrefix (itoa n) [45]).length ≤ 10 ↔ (-10000000000 < n ∧ n < 10000000000) := by
  unfold itoa
  by_cases hn : n < 0
  · rw [if_pos hn]
    have h : trimPrefix (45 :: decDigits n.natAbs) [45] = decDigits n.natAbs := by
      unfold trimPrefix hasPrefix
      rw [if_pos (by simp [List.isPrefixOf])]
      rfl
    rw [h, len_dec]; omega
  · rw [if_neg hn]
    have h : trimPrefix (decDigits n.toNat) [45] = decDigits n.toNat := by
      unfold trimPrefix hasPrefix
      rw [if_neg]
      intro hp
      have hh := head_dec n.toNat
      cases hx : decDigits n.toNat with
      | nil => rw [hx] at hp; simp [List.isPrefixOf] at hp
      | cons c r =>
        rw [hx] at hp hh
        simp [List.isPrefixOf] at hp
        exact hh (by simp [hp])
    rw [h, len_dec]; omega
/-- are digits behind a sign (b) or without one those of a number? -/
def okN (d : List UInt8) (b : Bool) : Bool := okDs d && (!b || decide (d.head? ≠ some 48))
theorem numB_of {l d : List UInt8} {b : Bool} (h : (b = true ∧ l = 45 :: d) ∨ (b = false ∧ l = d ∧ l.head? ≠ some 45)) : numB l = if okN d b then some (if b then -(valD d : Int) else valD d) else none := by
  rcases h with ⟨rfl, rfl⟩ | ⟨rfl, rfl, h⟩
  · unfold numB okN
    rw [if_pos (by rfl), List.tail_cons]
    rfl
  · unfold numB okN
    rw [if_neg h]
    simp
theorem okN_len0 {b : Bool} : okN [] b = false := rfl
theorem okN_long {d : List UInt8} {b : Bool} (h : 10 < d.length) : okN d b = false := by
  unfold okN okDs
  rw [show decide (d.length ≤ 10) = false from decide_eq_false (by omega)]
  simp
theorem okN_zero {d : List UInt8} {b : Bool} (h : d.head? = some 48) (h2 : 1 < d.length ∨ b = true) : okN d b = false := by
  unfold okN okDs
  rcases h2 with h2 | rfl
  · rw [show decide (d.length = 1) = false from decide_eq_false (by omega), h]
    simp
  · rw [h]; simp
theorem okN_dig {d : List UInt8} {b : Bool} {c : UInt8} (h : c ∈ d) (h2 : isDig c = false) : okN d b = false := by
  have : d.all isDig = false := List.all_eq_false.2 ⟨c, h, by rw [h2]; decide⟩
  unfold okN okDs
  rw [this]
  simp
theorem okN_ok {d : List UInt8} {b : Bool} (h1 : 1 ≤ d.length) (h2 : d.length ≤ 10) (h3 : d.head? ≠ some 48 ∨ (d.length = 1 ∧ b = false)) (h4 : d.all isDig = true) : okN d b = true := by
  unfold okN okDs
  rw [h4, decide_eq_true h1, decide_eq_true h2]
  rcases h3 with h | ⟨h, rfl⟩
  · rw [decide_eq_true h]; simp
  · rw [decide_eq_true h]; simp
theorem valD_lt : ∀ (n : Nat) (d : List UInt8), d.length = n → d.all isDig = true → valD d < 10 ^ n := by
  intro n
  induction n with
  | zero => intro d h _; rw [List.length_eq_zero_iff.1 h]; decide
  | succ n ih =>
    intro d hl ha
    obtain ⟨e, c, rfl⟩ : ∃ e c, d = e ++ [c] := ⟨d.dropLast, d.getLast (by intro h; rw [h] at hl; cases hl), (List.dropLast_concat_getLast _).symm⟩
    rw [List.length_append, List.length_singleton] at hl
    rw [List.all_append, Bool.and_eq_true] at ha
    have hc := isDig_iff.1 (show isDig c = true by simpa using ha.2)
    have := ih e (by omega) ha.1
    rw [valD_snoc, Nat.pow_succ]
    omega
end W7
namespace W7
open Go.Lib
/-- what stands between separators -/
def parts (c : UInt8) : List UInt8 → List (List UInt8)
  | [] => [[]]
  | x :: r => if x = c then [] :: parts c r else (x :: (parts c r).headD []) :: (parts c r).tail
theorem parts_ne (c : UInt8) : ∀ l, parts c l ≠ []
  | [] => by simp [parts]
  | x :: r => by unfold parts; split <;> simp
theorem parts_none {c : UInt8} : ∀ {l : List UInt8}, c ∉ l → parts c l = [l]
  | [], _ => rfl
  | x :: r, h => by
    have h1 : x ≠ c := fun e => h (by simp [e])
    unfold parts
    rw [if_neg h1, parts_none (fun e => h (by simp [e]))]
    rfl
theorem parts_hit {c : UInt8} : ∀ {a b : List UInt8}, c ∉ a → parts c (a ++ c :: b) = a :: parts c b
  | [], b, _ => by show parts c (c :: b) = _; rw [parts, if_pos rfl]
  | x :: r, b, h => by
    have h1 : x ≠ c := fun e => h (by simp [e])
    show parts c (x :: (r ++ c :: b)) = _
    rw [parts, if_neg h1, parts_hit (fun e => h (by simp [e]))]
    rfl
theorem index1 (c : UInt8) : ∀ l : List UInt8, (c ∉ l ∧ index l [c] = -1) ∨ ∃ a b, l = a ++ c :: b ∧ c ∉ a ∧ index l [c] = (a.length : Int)
  | [] => .inl ⟨by simp, rfl⟩
  | x :: r => by
    by_cases hx : x = c
    · subst hx
      refine .inr ⟨[], r, rfl, by simp, ?_⟩
      unfold index
      simp
    · have hp : ([c] : List UInt8).isPrefixOf (x :: r) = false := by
        simp [List.isPrefixOf]
        exact fun e => hx e.symm
      rcases index1 c r with ⟨h1, h2⟩ | ⟨a, b, h1, h2, h3⟩
      · refine .inl ⟨by simpa [h1] using fun e => hx e.symm, ?_⟩
        unfold index
        rw [hp, h2]
        rfl
      · refine .inr ⟨x :: a, b, by rw [h1]; rfl, by simpa [h2] using fun e => hx e.symm, ?_⟩
        unfold index
        rw [hp, h3]
        have : ((a.length : Int) == -1) = false := beq_false_of_ne (by omega)
        rw [this]
        simp
theorem cut_none {c : UInt8} {l : List UInt8} (h : c ∉ l) : cut l [c] = (l, [], false) := by
  rcases index1 c l with ⟨_, h2⟩ | ⟨a, b, h1, _, _⟩
  · unfold cut; rw [h2]; rfl
  · exact absurd (by rw [h1]; simp) h
theorem notin_unique {c : UInt8} : ∀ {a a' b b' : List UInt8}, c ∉ a → c ∉ a' → a ++ c :: b = a' ++ c :: b' → a = a' ∧ b = b'
  | [], [], _, _, _, _, h => ⟨rfl, by simpa using h⟩
  | [], x :: r, _, _, _, h2, h => by
    simp at h
    exact absurd (by rw [← h.1]; simp) h2
  | x :: r, [], _, _, h1, _, h => by
    simp at h
    exact absurd (by rw [h.1]; simp) h1
  | x :: r, y :: s, _, _, h1, h2, h => by
    simp at h
    obtain ⟨e1, e2⟩ := notin_unique (fun e => h1 (by simp [e])) (fun e => h2 (by simp [e])) h.2
    exact ⟨by rw [h.1, e1], e2⟩
theorem cut_hit {c : UInt8} {a b : List UInt8} (h : c ∉ a) : cut (a ++ c :: b) [c] = (a, b, true) := by
  rcases index1 c (a ++ c :: b) with ⟨h1, _⟩ | ⟨a', b', h1, h2, h3⟩
  · exact absurd (by simp) h1
  · obtain ⟨e1, e2⟩ := notin_unique h h2 h1
    subst e1
    unfold cut
    rw [h3, if_pos (by omega)]
    simp
theorem splitK_parts (c : UInt8) : ∀ (n : Nat) (l : List UInt8), l.length ≤ n → splitK [c] 0 (count l [c]) l = parts c l := by
  intro n
  induction n with
  | zero =>
    intro l hl
    have : l = [] := List.length_eq_zero_iff.1 (by omega)
    subst this
    rfl
  | succ n ih =>
    intro l hl
    rcases index1 c l with ⟨h1, h2⟩ | ⟨a, b, h1, h2, h3⟩
    · rw [count_miss h2, parts_none h1]
      rfl
    · rw [count_hit (by simp) h3, Nat.add_comm 1]
      have hd : l.drop (a.length + [c].length) = b := by rw [h1]; simp
      have ht : l.take (a.length + 0) = a := by rw [h1]; simp
      rw [hd]
      unfold splitK
      have hne : (index l [c] == -1) = false := by rw [h3]; exact beq_false_of_ne (by omega)
      rw [hne, h3]
      simp only [Bool.false_eq_true, if_false]
      rw [show ((a.length : Int)).toNat = a.length by omega, hd, ht, ih b (by rw [h1] at hl; simp at hl; omega), h1, parts_hit h2]
theorem split_parts (s : ByteArray) (c : UInt8) : (splitB ⟨#[c]⟩ 0 (countB s ⟨#[c]⟩) s).map (·.data.toList) = parts c s.data.toList := by
  rw [splitB_data]
  exact splitK_parts c _ _ (Nat.le_refl _)
/-- the lines of a text -/
def dropE (xs : List (List UInt8)) : List (List UInt8) := if xs.getLast? = some [] then xs.dropLast else xs
def linesL (l : List UInt8) : List (List UInt8) := dropE (parts 10 l)
theorem lines_none {l : List UInt8} (h : (10 : UInt8) ∉ l) : linesL l = if l = [] then [] else [l] := by
  unfold linesL dropE
  rw [parts_none h]
  by_cases h0 : l = []
  · subst h0; rfl
  · rw [if_neg h0, if_neg (by simpa using h0)]
theorem lines_hit {a b : List UInt8} (h : (10 : UInt8) ∉ a) : linesL (a ++ 10 :: b) = a :: linesL b := by
  unfold linesL dropE
  rw [parts_hit h]
  obtain ⟨x, r, hx⟩ : ∃ x r, parts 10 b = x :: r := by
    cases hp : parts 10 b with
    | nil => exact absurd hp (parts_ne _ _)
    | cons x r => exact ⟨x, r, rfl⟩
  rw [hx, List.getLast?_cons_cons]
  split
  · rfl
  · rfl
def wQ : List UInt8 := [113, 117, 97, 110, 116, 105, 116, 121]
def wG : List UInt8 := [103, 97, 117, 103, 101]
def wM : List UInt8 := [109, 101, 97, 115, 117, 114, 101]
def wA : List UInt8 := [97, 108, 97, 114, 109]
def bst (w : List UInt8) : ByteArray := ⟨w.toArray⟩
def numsB : List (List UInt8) → Option (List Int)
  | [] => some []
  | w :: r => match numB w with
    | none => none
    | some n => match numsB r with
      | none => none
      | some ns => some (n :: ns)
theorem numsB_len : ∀ {l : List (List UInt8)} {ns : List Int}, numsB l = some ns → ns.length = l.length
  | [], ns, h => by cases h; rfl
  | w :: r, ns, h => by
    unfold numsB at h
    split at h
    · cases h
    · split at h
      · cases h
      · rename_i h2
        cases h
        rw [List.length_cons, List.length_cons, numsB_len h2]
theorem numsB_snoc : ∀ {l : List (List UInt8)} {ns : List Int} {w : List UInt8} {n : Int}, numsB l = some ns → numB w = some n → numsB (l ++ [w]) = some (ns ++ [n])
  | [], ns, w, n, h, hw => by cases h; simp [numsB, hw]
  | x :: r, ns, w, n, h, hw => by
    unfold numsB at h
    split at h
    · cases h
    · rename_i m hx
      split at h
      · cases h
      · rename_i ms hr
        cases h
        have ih := numsB_snoc hr hw
        show numsB (x :: (r ++ [w])) = _
        unfold numsB
        rw [hx, ih]
        rfl
theorem numsB_no : ∀ {l : List (List UInt8)} {w : List UInt8}, w ∈ l → numB w = none → numsB l = none
  | x :: r, w, hm, hw => by
    unfold numsB
    rcases List.mem_cons.1 hm with rfl | h
    · rw [hw]
    · cases numB x with
      | none => rfl
      | some m => rw [numsB_no h hw]
/-- where a thing with a name stands first -/
def firstAt {α : Type} (nm : α → ByteArray) (w : List UInt8) : List α → Option Nat
  | [] => none
  | x :: r => if (nm x).data.toList = w then some 0 else (firstAt nm w r).map (· + 1)
def emptyP : Plan := ⟨none, 0, [], none, 0, [], none, 0, []⟩
def addG (q : Quantity) (g : Gauge) : Quantity := { q with gs := q.gs ++ [g] }
/-- what a line's words do to a plan: an error (0: none), and the plan -/
def stepW (p : Plan) (last : List UInt8) (w : List (List UInt8)) : Int × Plan :=
  if w.any (·.isEmpty) then (4, p)
  else if w.headD [] = wQ then
    (if w.length = 7 ∧ p.ms.length = 0 ∧ p.al.length = 0 then
      match numsB (w.drop 2) with
      | none => (4, p)
      | some n => (0, { p with qs := p.qs ++ [⟨bst (w.getD 1 []), n.getD 0 0, n.getD 1 0, n.getD 2 0, n.getD 3 0, n.getD 4 0, none, 0, []⟩] })
    else (4, p))
  else if w.headD [] = wG then
    (if w.length = 5 ∧ (last = wQ ∨ last = wG) then
      match numsB (w.drop 2) with
      | none => (4, p)
      | some n => (0, { p with qs := p.qs.dropLast ++ [addG (p.qs.getLastD default) ⟨bst (w.getD 1 []), n.getD 0 0, n.getD 1 0, n.getD 2 0⟩] })
    else (4, p))
  else if w.headD [] = wM then
    (if w.length = 6 ∧ p.al.length = 0 then
      match numsB (w.drop 3) with
      | none => (4, p)
      | some n => (0, { p with ms := p.ms ++ [⟨bst (w.getD 1 []), bst (w.getD 2 []), n.getD 0 0, n.getD 1 0, n.getD 2 0⟩] })
    else (4, p))
  else if w.headD [] = wA then
    (if w.length = 5 then
      match numsB ((w.drop 2).take 2) with
      | none => (4, p)
      | some n => match firstAt Quantity.name (w.getD 1 []) p.qs, firstAt Measure.name (w.getD 4 []) p.ms with
        | some a, some b => (0, { p with al := p.al ++ [⟨a, n.getD 0 0, n.getD 1 0, b⟩] })
        | _, _ => (7, p)
    else (4, p))
  else (4, p)
/-- the lines one by one: an error, its line, the plan -/
def runL (p : Plan) (last : List UInt8) (i : Nat) : List (List UInt8) → Int × Nat × Plan
  | [] => (0, i, p)
  | s :: r => if (stepW p last (parts 32 s)).1 = 0 then runL (stepW p last (parts 32 s)).2 ((parts 32 s).headD []) (i + 1) r else ((stepW p last (parts 32 s)).1, i + 1, p)
/-- the error of a text, its line, its plan -/
def parE (t : List UInt8) : Int := if t.length ≤ 65536 then (if (runL emptyP [] 0 (linesL t)).1 = 0 then planErr (runL emptyP [] 0 (linesL t)).2.2 else (runL emptyP [] 0 (linesL t)).1) else 3
def parN (t : List UInt8) : Nat := if t.length ≤ 65536 then (if (runL emptyP [] 0 (linesL t)).1 = 0 then 0 else (runL emptyP [] 0 (linesL t)).2.1) else 0
def parP (t : List UInt8) : Plan := if parE t = 0 then (runL emptyP [] 0 (linesL t)).2.2 else emptyP
end W7
namespace W7
open Go.Lib
/-- a quantity, a plan without addresses -/
def absQ (q : Quantity) : Quantity := { q with gA := none, gc := 0 }
def absP (p : Plan) : Plan := ⟨none, 0, p.qs.map absQ, none, 0, p.ms, none, 0, p.al⟩
def wordsL (ws : List ByteArray) : List (List UInt8) := ws.map (·.data.toList)
/-- a line goes wrong; a line gives a plan -/
def StepBad (p : Plan) (last : ByteArray) (ws : List ByteArray) (k : Int) : Prop := k ≠ 0 ∧ (stepW (absP p) last.data.toList (wordsL ws)).1 = k
def StepOk (p : Plan) (last : ByteArray) (ws : List ByteArray) (p' : Plan) : Prop := stepW (absP p) last.data.toList (wordsL ws) = (0, absP p')
theorem bst_data (x : ByteArray) : bst x.data.toList = x := by cases x; rfl
theorem wordsL_getD (ws : List ByteArray) (i : Nat) (h : i < ws.length) : bst ((wordsL ws).getD i []) = ws.getD i default := by
  unfold wordsL
  rw [List.getD_eq_getElem?_getD, List.getD_eq_getElem?_getD, List.getElem?_map, List.getElem?_eq_getElem h]
  exact bst_data _
theorem wordsL_drop (ws : List ByteArray) (k : Nat) : (wordsL ws).drop k = (ws.drop k).map (·.data.toList) := by
  unfold wordsL
  rw [List.map_drop]
theorem wordsL_len (ws : List ByteArray) : (wordsL ws).length = ws.length := by unfold wordsL; rw [List.length_map]
theorem wordsL_take (ws : List ByteArray) (k m : Nat) : ((wordsL ws).drop k).take m = ((ws.drop k).take m).map (·.data.toList) := by
  rw [wordsL_drop, List.map_take]
variable {p : Plan} {last : ByteArray} {ws : List ByteArray}
theorem step_empty (h : (wordsL ws).any (·.isEmpty) = true) : StepBad p last ws 4 := by
  refine ⟨by decide, ?_⟩
  unfold stepW
  rw [if_pos h]
theorem stepQ_bad (h0 : (wordsL ws).any (·.isEmpty) = false) (hw : (wordsL ws).headD [] = wQ) (h : ¬ (ws.length = 7 ∧ p.ms.length = 0 ∧ p.al.length = 0) ∨ numsB ((ws.drop 2).map (·.data.toList)) = none) : StepBad p last ws 4 := by
  refine ⟨by decide, ?_⟩
  unfold stepW
  rw [if_neg (by rw [h0]; decide), if_pos hw]
  by_cases h1 : ws.length = 7 ∧ p.ms.length = 0 ∧ p.al.length = 0
  · rw [if_pos (by rw [wordsL_len]; exact h1), wordsL_drop, h.resolve_left (not_not_intro h1)]
  · rw [if_neg (by rw [wordsL_len]; exact h1)]
theorem stepQ_ok {ns : List Int} {A : Option Go.Addr} {c : Nat} (h0 : (wordsL ws).any (·.isEmpty) = false) (hw : (wordsL ws).headD [] = wQ) (h : ws.length = 7 ∧ p.ms.length = 0 ∧ p.al.length = 0) (hn : numsB ((ws.drop 2).map (·.data.toList)) = some ns) :
    StepOk p last ws { p with qA := A, qc := c, qs := p.qs ++ [⟨ws.getD 1 default, ns.getD 0 0, ns.getD 1 0, ns.getD 2 0, ns.getD 3 0, ns.getD 4 0, none, 0, []⟩] } := by
  unfold StepOk stepW
  rw [if_neg (by rw [h0]; decide), if_pos hw, if_pos (by rw [wordsL_len]; exact h), wordsL_drop, hn]
  show ((0 : Int), _) = _
  rw [wordsL_getD ws 1 (by omega)]
  simp [absP, absQ]
theorem stepG_bad (h0 : (wordsL ws).any (·.isEmpty) = false) (hw : (wordsL ws).headD [] = wG) (h : ¬ (ws.length = 5 ∧ (last.toList = wQ ∨ last.toList = wG)) ∨ numsB ((ws.drop 2).map (·.data.toList)) = none) : StepBad p last ws 4 := by
  refine ⟨by decide, ?_⟩
  unfold stepW
  rw [if_neg (by rw [h0]; decide), if_neg (by rw [hw]; decide), if_pos hw]
  rw [Go.Lib.toList_data] at h
  by_cases h1 : ws.length = 5 ∧ (last.data.toList = wQ ∨ last.data.toList = wG)
  · rw [if_pos (by rw [wordsL_len]; exact h1), wordsL_drop, h.resolve_left (not_not_intro h1)]
  · rw [if_neg (by rw [wordsL_len]; exact h1)]
theorem stepG_ok {ns : List Int} {A : Option Go.Addr} {c : Nat} {qi : List Quantity} {q : Quantity} (h0 : (wordsL ws).any (·.isEmpty) = false) (hw : (wordsL ws).headD [] = wG) (h : ws.length = 5 ∧ (last.toList = wQ ∨ last.toList = wG)) (hn : numsB ((ws.drop 2).map (·.data.toList)) = some ns) (hp : p.qs = qi ++ [q]) :
    StepOk p last ws { p with qs := qi ++ [{ q with gA := A, gc := c, gs := q.gs ++ [⟨ws.getD 1 default, ns.getD 0 0, ns.getD 1 0, ns.getD 2 0⟩] }] } := by
  unfold StepOk stepW
  rw [Go.Lib.toList_data] at h
  rw [if_neg (by rw [h0]; decide), if_neg (by rw [hw]; decide), if_pos hw, if_pos (by rw [wordsL_len]; exact h), wordsL_drop, hn]
  show ((0 : Int), _) = _
  rw [wordsL_getD ws 1 (by omega)]
  simp [absP, absQ, hp, addG]
theorem stepM_bad (h0 : (wordsL ws).any (·.isEmpty) = false) (hw : (wordsL ws).headD [] = wM) (h : ¬ (ws.length = 6 ∧ p.al.length = 0) ∨ numsB ((ws.drop 3).map (·.data.toList)) = none) : StepBad p last ws 4 := by
  refine ⟨by decide, ?_⟩
  unfold stepW
  rw [if_neg (by rw [h0]; decide), if_neg (by rw [hw]; decide), if_neg (by rw [hw]; decide), if_pos hw]
  by_cases h1 : ws.length = 6 ∧ p.al.length = 0
  · rw [if_pos (by rw [wordsL_len]; exact h1), wordsL_drop, h.resolve_left (not_not_intro h1)]
  · rw [if_neg (by rw [wordsL_len]; exact h1)]
theorem stepM_ok {ns : List Int} {A : Option Go.Addr} {c : Nat} (h0 : (wordsL ws).any (·.isEmpty) = false) (hw : (wordsL ws).headD [] = wM) (h : ws.length = 6 ∧ p.al.length = 0) (hn : numsB ((ws.drop 3).map (·.data.toList)) = some ns) :
    StepOk p last ws { p with mA := A, mc := c, ms := p.ms ++ [⟨ws.getD 1 default, ws.getD 2 default, ns.getD 0 0, ns.getD 1 0, ns.getD 2 0⟩] } := by
  unfold StepOk stepW
  rw [if_neg (by rw [h0]; decide), if_neg (by rw [hw]; decide), if_neg (by rw [hw]; decide), if_pos hw, if_pos (by rw [wordsL_len]; exact h), wordsL_drop, hn]
  show ((0 : Int), _) = _
  rw [wordsL_getD ws 1 (by omega), wordsL_getD ws 2 (by omega)]
  rfl
theorem first_idx {α : Type} (nm : α → ByteArray) (y : ByteArray) : ∀ xs : List α, firstAt nm y.data.toList xs = xs.findIdx? (fun x => strEq (nm x) y)
  | [] => rfl
  | x :: r => by
    rw [firstAt, List.findIdx?_cons]
    have h : strEq (nm x) y = decide ((nm x).data.toList = y.data.toList) := by
      unfold strEq
      rw [Go.Lib.toList_data, Go.Lib.toList_data]
      by_cases hh : (nm x).data.toList = y.data.toList
      · rw [hh]; simp
      · rw [decide_eq_false hh]; exact beq_false_of_ne hh
    rw [h, first_idx nm y r]
    by_cases hh : (nm x).data.toList = y.data.toList
    · rw [if_pos hh, decide_eq_true hh]; rfl
    · rw [if_neg hh, decide_eq_false hh]; rfl
theorem firstAt_abs (w : List UInt8) : ∀ qs : List Quantity, firstAt Quantity.name w (qs.map absQ) = firstAt Quantity.name w qs
  | [] => rfl
  | q :: r => by
    show (if q.name.data.toList = w then some 0 else (firstAt Quantity.name w (r.map absQ)).map (· + 1)) = _
    rw [firstAt_abs w r]
    rfl
theorem idx_some {α : Type} (nm : α → ByteArray) (y : ByteArray) (xs : List α) (h : 0 ≤ idxB (fun x => strEq (nm x) y) xs) : ∃ k : Nat, firstAt nm y.data.toList xs = some k ∧ idxB (fun x => strEq (nm x) y) xs = (k : Int) := by
  rw [first_idx]
  unfold idxB at h ⊢
  cases hf : xs.findIdx? (fun x => strEq (nm x) y) with
  | none => rw [hf] at h; exact absurd h (by decide)
  | some k => exact ⟨k, rfl, rfl⟩
theorem idx_none {α : Type} (nm : α → ByteArray) (y : ByteArray) (xs : List α) (h : ¬ 0 ≤ idxB (fun x => strEq (nm x) y) xs) : firstAt nm y.data.toList xs = none := by
  rw [first_idx]
  unfold idxB at h
  cases hf : xs.findIdx? (fun x => strEq (nm x) y) with
  | none => rfl
  | some k => rw [hf] at h; exact absurd (by simp) h
theorem wordsL_at (ws : List ByteArray) (i : Nat) (h : i < ws.length) : (wordsL ws).getD i [] = (ws.getD i default).data.toList := by
  unfold wordsL
  rw [List.getD_eq_getElem?_getD, List.getD_eq_getElem?_getD, List.getElem?_map, List.getElem?_eq_getElem h]
  rfl
theorem stepA_bad (h0 : (wordsL ws).any (·.isEmpty) = false) (hw : (wordsL ws).headD [] = wA) (h : ws.length ≠ 5 ∨ numsB (((ws.drop 2).take 2).map (·.data.toList)) = none) : StepBad p last ws 4 := by
  refine ⟨by decide, ?_⟩
  unfold stepW
  rw [if_neg (by rw [h0]; decide), if_neg (by rw [hw]; decide), if_neg (by rw [hw]; decide), if_neg (by rw [hw]; decide), if_pos hw]
  by_cases h1 : ws.length = 5
  · rw [if_pos (by rw [wordsL_len]; exact h1), wordsL_take, h.resolve_left (not_not_intro h1)]
  · rw [if_neg (by rw [wordsL_len]; exact h1)]
theorem stepA_none {ns : List Int} (h0 : (wordsL ws).any (·.isEmpty) = false) (hw : (wordsL ws).headD [] = wA) (h : ws.length = 5) (hn : numsB (((ws.drop 2).take 2).map (·.data.toList)) = some ns)
    (hx : ¬ (0 ≤ idxB (fun x : Quantity => strEq x.name (ws.getD 1 default)) p.qs ∧ 0 ≤ idxB (fun x : Measure => strEq x.name (ws.getD 4 default)) p.ms)) : StepBad p last ws 7 := by
  refine ⟨by decide, ?_⟩
  unfold stepW
  rw [if_neg (by rw [h0]; decide), if_neg (by rw [hw]; decide), if_neg (by rw [hw]; decide), if_neg (by rw [hw]; decide), if_pos hw, if_pos (by rw [wordsL_len]; exact h), wordsL_take, hn]
  show (match firstAt Quantity.name ((wordsL ws).getD 1 []) (p.qs.map absQ), firstAt Measure.name ((wordsL ws).getD 4 []) p.ms with
    | some a, some b => ((0 : Int), _)
    | _, _ => (7, absP p)).1 = 7
  rw [firstAt_abs, wordsL_at ws 1 (by omega), wordsL_at ws 4 (by omega)]
  by_cases h1 : 0 ≤ idxB (fun x : Quantity => strEq x.name (ws.getD 1 default)) p.qs
  · rw [idx_none Measure.name _ _ (fun h2 => hx ⟨h1, h2⟩)]
    split <;> simp_all
  · rw [idx_none Quantity.name _ _ h1]
theorem stepA_ok {ns : List Int} {A : Option Go.Addr} {c : Nat} (h0 : (wordsL ws).any (·.isEmpty) = false) (hw : (wordsL ws).headD [] = wA) (h : ws.length = 5) (hn : numsB (((ws.drop 2).take 2).map (·.data.toList)) = some ns)
    (hx : 0 ≤ idxB (fun x : Quantity => strEq x.name (ws.getD 1 default)) p.qs ∧ 0 ≤ idxB (fun x : Measure => strEq x.name (ws.getD 4 default)) p.ms) :
    StepOk p last ws { p with aA := A, ac := c, al := p.al ++ [⟨idxB (fun x : Quantity => strEq x.name (ws.getD 1 default)) p.qs, ns.getD 0 0, ns.getD 1 0, idxB (fun x : Measure => strEq x.name (ws.getD 4 default)) p.ms⟩] } := by
  obtain ⟨a, ha, ha'⟩ := idx_some Quantity.name _ _ hx.1
  obtain ⟨b, hb, hb'⟩ := idx_some Measure.name _ _ hx.2
  unfold StepOk stepW
  rw [if_neg (by rw [h0]; decide), if_neg (by rw [hw]; decide), if_neg (by rw [hw]; decide), if_neg (by rw [hw]; decide), if_pos hw, if_pos (by rw [wordsL_len]; exact h), wordsL_take, hn]
  show (match firstAt Quantity.name ((wordsL ws).getD 1 []) (p.qs.map absQ), firstAt Measure.name ((wordsL ws).getD 4 []) p.ms with
    | some a, some b => ((0 : Int), ({ absP p with al := (absP p).al ++ [(⟨a, ns.getD 0 0, ns.getD 1 0, b⟩ : Alarm)] } : Plan))
    | _, _ => (7, absP p)) = _
  rw [firstAt_abs, wordsL_at ws 1 (by omega), wordsL_at ws 4 (by omega), ha, hb, ha', hb']
  rfl
theorem step_other (h0 : (wordsL ws).any (·.isEmpty) = false) (h1 : (wordsL ws).headD [] ≠ wQ) (h2 : (wordsL ws).headD [] ≠ wG) (h3 : (wordsL ws).headD [] ≠ wM) (h4 : (wordsL ws).headD [] ≠ wA) : StepBad p last ws 4 := by
  refine ⟨by decide, ?_⟩
  unfold stepW
  rw [if_neg (by rw [h0]; decide), if_neg h1, if_neg h2, if_neg h3, if_neg h4]
end W7
namespace W7
open Go.Lib
/-- what holds of a plan behind i lines; names are of at most N bytes -/
structure Inv (N : Nat) (p : Plan) (last : List UInt8) (i : Nat) : Prop where
  q : p.qs.length ≤ i
  g : ∀ q ∈ p.qs, q.gs.length ≤ i
  m : p.ms.length ≤ i
  a : p.al.length ≤ i
  l : last = wQ ∨ last = wG → p.qs ≠ []
  qn : ∀ q ∈ p.qs, q.name.size ≤ N ∧ ∀ g ∈ q.gs, g.name.size ≤ N
  mn : ∀ m ∈ p.ms, m.name.size ≤ N ∧ m.crew.size ≤ N
theorem inv_empty (N : Nat) : Inv N emptyP [] 0 := ⟨Nat.le_refl _, (fun q h => by cases h), Nat.le_refl _, Nat.le_refl _, (fun h => by rcases h with h | h <;> exact absurd h (by decide)), (fun q h => by cases h), (fun q h => by cases h)⟩
theorem inv_abs {N : Nat} {p : Plan} {last : List UInt8} {i : Nat} : Inv N (absP p) last i ↔ Inv N p last i := by
  constructor
  · intro h
    refine ⟨by simpa [absP] using h.q, fun q hq => ?_, h.m, h.a, fun hl hn => h.l hl (by simp [absP, hn]), fun q hq => ?_, h.mn⟩
    · exact h.g (absQ q) (List.mem_map_of_mem hq)
    · exact h.qn (absQ q) (List.mem_map_of_mem hq)
  · intro h
    refine ⟨by simpa [absP] using h.q, fun q hq => ?_, h.m, h.a, fun hl hn => h.l hl (by simpa [absP] using hn), fun q hq => ?_, h.mn⟩
    · obtain ⟨x, hx, rfl⟩ := List.mem_map.1 hq
      exact h.g x hx
    · obtain ⟨x, hx, rfl⟩ := List.mem_map.1 hq
      exact h.qn x hx
theorem getD_len {w : List (List UInt8)} {N : Nat} (h : ∀ x ∈ w, x.length ≤ N) (i : Nat) : (bst (w.getD i [])).size ≤ N := by
  have hs : (bst (w.getD i [])).size = (w.getD i []).length := by simp [bst, ByteArray.size]
  rw [hs, List.getD_eq_getElem?_getD]
  cases hw : w[i]? with
  | none => simp
  | some x => exact h x (List.mem_of_getElem? hw)
theorem stepW_inv {N : Nat} {p : Plan} {last : List UInt8} {i : Nat} {w : List (List UInt8)} (hI : Inv N p last i) (hN : ∀ x ∈ w, x.length ≤ N) (h : (stepW p last w).1 = 0) : Inv N (stepW p last w).2 (w.headD []) (i + 1) := by
  have hN' := getD_len hN
  have hI' : ∀ l, (l = wQ ∨ l = wG → p.qs ≠ []) → Inv N p l (i + 1) := fun l hl => ⟨Nat.le_succ_of_le hI.q, fun q hq => Nat.le_succ_of_le (hI.g q hq), Nat.le_succ_of_le hI.m, Nat.le_succ_of_le hI.a, hl, hI.qn, hI.mn⟩
  unfold stepW at h ⊢
  split
  · rename_i h1; rw [if_pos h1] at h; cases h
  rename_i h1; rw [if_neg h1] at h
  split
  · rename_i h2; rw [if_pos h2] at h
    split
    · rename_i h3; rw [if_pos h3] at h
      split
      · rename_i h4; rw [h4] at h; cases h
      · rename_i n h4
        refine ⟨by simpa using hI.q, fun q hq => ?_, Nat.le_succ_of_le hI.m, Nat.le_succ_of_le hI.a, fun _ => by simp, fun q hq => ?_, hI.mn⟩
        · rcases List.mem_append.1 hq with hq | hq
          · exact Nat.le_succ_of_le (hI.g q hq)
          · obtain rfl := List.mem_singleton.1 hq
            exact Nat.zero_le _
        · rcases List.mem_append.1 hq with hq | hq
          · exact hI.qn q hq
          · obtain rfl := List.mem_singleton.1 hq
            exact ⟨hN' 1, fun g hg => by cases hg⟩
    · rename_i h3; rw [if_neg h3] at h; cases h
  rename_i h2; rw [if_neg h2] at h
  split
  · rename_i h2'; rw [if_pos h2'] at h
    split
    · rename_i h3; rw [if_pos h3] at h
      split
      · rename_i h4; rw [h4] at h; cases h
      · rename_i n h4
        have hne := hI.l h3.2
        obtain ⟨qi, q0, hp⟩ : ∃ qi q, p.qs = qi ++ [q] := ⟨p.qs.dropLast, p.qs.getLast hne, (List.dropLast_concat_getLast hne).symm⟩
        have hq0 : q0 ∈ p.qs := by rw [hp]; simp
        have hd : p.qs.dropLast = qi := by rw [hp]; simp
        have hl : p.qs.getLastD default = q0 := by rw [hp]; simp
        have hmem : ∀ q ∈ qi, q ∈ p.qs := fun q hq => by rw [hp]; exact List.mem_append_left _ hq
        have hlen : qi.length + 1 = p.qs.length := by rw [hp]; simp
        rw [hd, hl]
        refine ⟨?_, fun q hq => ?_, Nat.le_succ_of_le hI.m, Nat.le_succ_of_le hI.a, fun _ => by simp, fun q hq => ?_, hI.mn⟩
        · have := hI.q
          simp; omega
        · rcases List.mem_append.1 hq with hq | hq
          · exact Nat.le_succ_of_le (hI.g q (hmem q hq))
          · obtain rfl := List.mem_singleton.1 hq
            have := hI.g q0 hq0
            simp [addG]; omega
        · rcases List.mem_append.1 hq with hq | hq
          · exact hI.qn q (hmem q hq)
          · obtain rfl := List.mem_singleton.1 hq
            refine ⟨(hI.qn q0 hq0).1, fun g hg => ?_⟩
            rcases List.mem_append.1 hg with hg | hg
            · exact (hI.qn q0 hq0).2 g hg
            · obtain rfl := List.mem_singleton.1 hg
              exact hN' 1
    · rename_i h3; rw [if_neg h3] at h; cases h
  rename_i h2'; rw [if_neg h2'] at h
  have hl : w.headD [] = wQ ∨ w.headD [] = wG → p.qs ≠ [] := fun e => absurd e (by rintro (e | e); exact h2 e; exact h2' e)
  split
  · rename_i h2''; rw [if_pos h2''] at h
    split
    · rename_i h3; rw [if_pos h3] at h
      split
      · rename_i h4; rw [h4] at h; cases h
      · rename_i n h4
        have H := hI' _ hl
        refine ⟨H.q, H.g, by simpa using hI.m, H.a, H.l, H.qn, fun m hm => ?_⟩
        rcases List.mem_append.1 hm with hm | hm
        · exact hI.mn m hm
        · obtain rfl := List.mem_singleton.1 hm
          exact ⟨hN' 1, hN' 2⟩
    · rename_i h3; rw [if_neg h3] at h; cases h
  rename_i h2''; rw [if_neg h2''] at h
  split
  · rename_i h5; rw [if_pos h5] at h
    split
    · rename_i h3; rw [if_pos h3] at h
      split
      · rename_i h4; rw [h4] at h; cases h
      · rename_i n h4; rw [h4] at h
        split
        · have H := hI' _ hl
          exact ⟨H.q, H.g, H.m, by simpa using hI.a, H.l, H.qn, H.mn⟩
        · rename_i h6
          exfalso
          revert h
          show (match firstAt Quantity.name (w.getD 1 []) p.qs, firstAt Measure.name (w.getD 4 []) p.ms with
            | some a, some b => ((0 : Int), ({ p with al := p.al ++ [(⟨a, n.getD 0 0, n.getD 1 0, b⟩ : Alarm)] } : Plan))
            | _, _ => (7, p)).1 = 0 → False
          split
          · rename_i a b ha hb; exact absurd hb (h6 a b ha)
          · intro h; cases h
    · rename_i h3; rw [if_neg h3] at h; cases h
  · rename_i h5; rw [if_neg h5] at h; cases h
/-- one line is cut off -/
theorem cut_step {l : List UInt8} (h : l ≠ []) : linesL l = (cut l [10]).1 :: linesL (cut l [10]).2.1 ∧ (cut l [10]).2.1.length < l.length ∧ ¬ ((cut l [10]).1 = [] ∧ (cut l [10]).2.2 = false) ∧ (cut l [10]).1.length ≤ l.length := by
  rcases index1 10 l with ⟨h1, _⟩ | ⟨a, b, h1, h2, _⟩
  · rw [cut_none h1, lines_none h1, if_neg h]
    exact ⟨rfl, List.length_pos_iff.2 h, fun e => h e.1, Nat.le_refl _⟩
  · rw [h1, cut_hit h2, lines_hit h2]
    exact ⟨rfl, by simp; omega, fun e => by simp at e, by simp⟩
theorem cut_end : cut ([] : List UInt8) [10] = ([], [], false) := cut_none (by simp)
theorem lines_end : linesL [] = [] := rfl
theorem qErr_abs (l : List Quantity) (i : Nat) : qErrAt (l.map absQ) i = qErrAt l i := by
  unfold qErrAt
  have h1 : (l.map absQ).getD i default = absQ (l.getD i default) := by
    rw [List.getD_eq_getElem?_getD, List.getD_eq_getElem?_getD, List.getElem?_map]
    cases l[i]? <;> rfl
  rw [h1, ← List.map_take, List.any_map]
  rfl
theorem planErr_abs (p : Plan) : planErr (absP p) = planErr p := by
  have h1 : qsErr (p.qs.map absQ) = qsErr p.qs := by
    unfold qsErr
    rw [List.length_map, funext (qErr_abs p.qs)]
  have h2 : aErrAt (absP p) = aErrAt p := by
    funext i
    unfold aErrAt
    simp only [absP, List.length_map]
    rfl
  unfold planErr
  rw [h2]
  show (if qsErr (p.qs.map absQ) = 0 then _ else qsErr (p.qs.map absQ)) = _
  rw [h1]
  rfl
theorem runL_ok {p p' : Plan} {last : ByteArray} {s : List UInt8} {ws : List ByteArray} {i : Nat} {r : List (List UInt8)} (hw : wordsL ws = parts 32 s) (h : StepOk p last ws p') (h0 : ws ≠ []) : runL (absP p) last.data.toList i (s :: r) = runL (absP p') (ws.headD default).data.toList (i + 1) r := by
  unfold StepOk at h
  rw [hw] at h
  have hh : (ws.headD default).data.toList = (parts 32 s).headD [] := by
    rw [← hw]
    cases ws with
    | nil => exact absurd rfl h0
    | cons a b => rfl
  rw [runL, h, if_pos rfl, hh]
theorem runL_bad {p : Plan} {last : ByteArray} {s : List UInt8} {ws : List ByteArray} {i : Nat} {k : Int} {r : List (List UInt8)} (hw : wordsL ws = parts 32 s) (h : StepBad p last ws k) : (runL (absP p) last.data.toList i (s :: r)).1 = k ∧ (runL (absP p) last.data.toList i (s :: r)).2.1 = i + 1 := by
  obtain ⟨h0, h1⟩ := h
  rw [hw] at h1
  rw [runL, if_neg (by rw [h1]; exact h0)]
  exact ⟨h1, rfl⟩
end W7
