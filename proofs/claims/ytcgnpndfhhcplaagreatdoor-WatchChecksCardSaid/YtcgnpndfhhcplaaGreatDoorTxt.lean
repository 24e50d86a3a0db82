/-
  Plain: the text of a plan, line by line, and how long it is. No program.
-/
import Derived.Test.YtcgnpndfhhcplaaGreatDoorGood
import Derived.Test.YtcgnpndfhhcplaaGreatDoorPlanD
import Derived.Lib.Join
import Derived.Lib.ItoaNum
namespace Go.Proofs.YtcgnpndfhhcplaaGreatDoor
open Go.RowKit W7
def itB (n : Int) : ByteArray := ⟨(Go.Lib.itoa n).toArray⟩
def sp1 : ByteArray := ⟨#[32]⟩
/-- a line of words -/
def lineT (ws : List ByteArray) : List UInt8 := Go.Lib.join (ws.map (·.data.toList)) sp1.data.toList ++ [10]
def qWs (q : Quantity) : List ByteArray := [⟨#[113, 117, 97, 110, 116, 105, 116, 121]⟩, q.name, itB q.lo, itB q.hi, itB q.rise, itB q.fall, itB q.bad]
def gWs (g : Gauge) : List ByteArray := [⟨#[103, 97, 117, 103, 101]⟩, g.name, itB g.acc, itB g.drift, itB g.since]
def mWs (m : Measure) : List ByteArray := [⟨#[109, 101, 97, 115, 117, 114, 101]⟩, m.name, m.crew, itB m.rank, itB m.lag, itB m.takes]
def aWs (p : Plan) (a : Alarm) : List ByteArray := [⟨#[97, 108, 97, 114, 109]⟩, (p.qs.getD a.q.toNat default).name, itB a.level, itB a.limit, (p.ms.getD a.m.toNat default).name]
def qTxt (q : Quantity) : List UInt8 := lineT (qWs q) ++ (q.gs.map fun g => lineT (gWs g)).flatten
def qsTxt (l : List Quantity) : List UInt8 := (l.map qTxt).flatten
def msTxt (l : List Measure) : List UInt8 := (l.map fun m => lineT (mWs m)).flatten
def asTxt (p : Plan) (l : List Alarm) : List UInt8 := (l.map fun a => lineT (aWs p a)).flatten
def txt (p : Plan) : List UInt8 := qsTxt p.qs ++ msTxt p.ms ++ asTxt p p.al
theorem flat_take_succ {α : Type} (f : α → List UInt8) {l : List α} {k : Nat} (h : k < l.length) : ((l.take (k + 1)).map f).flatten = ((l.take k).map f).flatten ++ f l[k] := by
  rw [List.take_succ_eq_append_getElem h, List.map_append, List.flatten_append]
  simp
theorem flat_le {α : Type} (f : α → List UInt8) (c : Nat) : ∀ (l : List α), (∀ x ∈ l, (f x).length ≤ c) → ((l.map f).flatten).length ≤ c * l.length
  | [], _ => by simp
  | x :: l, h => by
    have h1 := h x (by simp)
    have h2 := flat_le f c l (fun y hy => h y (by simp [hy]))
    simp only [List.map_cons, List.flatten_cons, List.length_append, List.length_cons, Nat.mul_add]
    omega
theorem flat_take_le {α : Type} (f : α → List UInt8) (c : Nat) (l : List α) (k : Nat) (h : ∀ x ∈ l, (f x).length ≤ c) : (((l.take k).map f).flatten).length ≤ c * l.length := by
  have h1 := flat_le f c (l.take k) (fun x hx => h x (List.mem_of_mem_take hx))
  have h2 : (l.take k).length ≤ l.length := by rw [List.length_take]; omega
  have := Nat.mul_le_mul_left c h2
  omega
theorem nDigits_le : ∀ (k u : Nat), u < 10 ^ (k + 1) → Go.Lib.nDigits u ≤ k + 1
  | 0, u, h => by rw [Go.Lib.nDigits_small (by simpa using h)]; exact Nat.le_refl _
  | k + 1, u, h => by
    by_cases hu : u < 10
    · rw [Go.Lib.nDigits_small hu]; omega
    · rw [Go.Lib.nDigits_big hu]
      have := nDigits_le k (u / 10) (by rw [Nat.pow_succ] at h; omega)
      omega
theorem itB_size (n : Int) (h0 : -1000000000 ≤ n) (h1 : n ≤ 1000000000) : (itB n).size ≤ 16 := by
  show (Go.Lib.itoa n).toArray.size ≤ 16
  rw [List.size_toArray]
  unfold Go.Lib.itoa
  split
  · rw [List.length_cons, Go.Lib.decDigits_length]
    have := nDigits_le 10 n.natAbs (by omega)
    omega
  · rw [Go.Lib.decDigits_length]
    have := nDigits_le 10 n.toNat (by omega)
    omega
theorem lens_le : ∀ (l : List ByteArray), (∀ x ∈ l, x.size ≤ 16) → Go.Lib.lens (l.map (·.data.toList)) ≤ 16 * l.length
  | [], _ => by simp [Go.Lib.lens]
  | x :: l, h => by
    have h1 := h x (by simp)
    have h2 := lens_le l (fun y hy => h y (by simp [hy]))
    have h3 : x.data.toList.length = x.size := Array.length_toList
    simp only [Go.Lib.lens, List.map_cons, List.sum_cons, List.length_cons, Nat.mul_add] at h2 ⊢
    omega
theorem lineT_le (l : List ByteArray) (n : Nat) (hn : l.length ≤ n) (h : ∀ x ∈ l, x.size ≤ 16) : (lineT l).length ≤ 17 * n + 1 := by
  match l, h with
  | [], _ => simp [lineT, Go.Lib.join]
  | x :: r, h =>
    unfold lineT
    rw [List.length_append, List.map_cons, Go.Lib.join_length, ← List.map_cons (f := fun x : ByteArray => x.data.toList)]
    have h2 := lens_le (x :: r) h
    have h3 : sp1.data.toList.length = 1 := rfl
    rw [h3, List.length_map]
    simp only [List.length_cons, List.length_nil] at h2 hn ⊢
    omega
/-- what a valid plan's words satisfy -/
structure PlanFull (p : Plan) : Prop where
  q16 : p.qs.length ≤ 16
  m16 : p.ms.length ≤ 16
  a16 : p.al.length ≤ 16
  q : ∀ q ∈ p.qs, q.gs.length ≤ 8 ∧ q.name.size ≤ 16 ∧ ((-1000000000 ≤ q.lo ∧ q.lo ≤ 1000000000) ∧ (-1000000000 ≤ q.hi ∧ q.hi ≤ 1000000000) ∧ (-1000000000 ≤ q.rise ∧ q.rise ≤ 1000000000) ∧ (-1000000000 ≤ q.fall ∧ q.fall ≤ 1000000000) ∧ (-1000000000 ≤ q.bad ∧ q.bad ≤ 1000000000))
    ∧ ∀ g ∈ q.gs, g.name.size ≤ 16 ∧ (-1000000000 ≤ g.acc ∧ g.acc ≤ 1000000000) ∧ (-1000000000 ≤ g.drift ∧ g.drift ≤ 1000000000) ∧ (-1000000000 ≤ g.since ∧ g.since ≤ 1000000000)
  m : ∀ m ∈ p.ms, m.name.size ≤ 16 ∧ m.crew.size ≤ 16 ∧ (-1000000000 ≤ m.rank ∧ m.rank ≤ 1000000000) ∧ (-1000000000 ≤ m.lag ∧ m.lag ≤ 1000000000) ∧ (-1000000000 ≤ m.takes ∧ m.takes ≤ 1000000000)
  a : ∀ a ∈ p.al, (0 ≤ a.q ∧ a.q < (p.qs.length : Int)) ∧ (0 ≤ a.m ∧ a.m < (p.ms.length : Int)) ∧ (-1000000000 ≤ a.level ∧ a.level ≤ 1000000000) ∧ (-1000000000 ≤ a.limit ∧ a.limit ≤ 1000000000)
theorem nameB_size {s : ByteArray} (h : nameB s = true) : s.size ≤ 16 := by
  unfold nameB at h
  simp only [Bool.and_eq_true, decide_eq_true_eq] at h
  exact h.1.1.2
theorem gsName {q : Quantity} (h : checkQB q = 0) : ∀ g ∈ q.gs, g.name.size ≤ 16 := by
  intro g hg
  unfold checkQB at h
  split at h
  case isFalse => exact absurd h (by decide)
  split at h
  case isFalse => exact absurd h (by decide)
  split at h
  case isFalse => exact absurd h (by decide)
  split at h
  case isFalse => exact absurd h (by decide)
  obtain ⟨i, hi, rfl⟩ := List.mem_iff_getElem.1 hg
  have h5 := firstErr_zero.1 h i hi
  unfold gErrAt at h5
  rw [getD_mem _ _ hi] at h5
  split at h5
  case isFalse => exact absurd h5 (by decide)
  rename_i h6
  exact nameB_size h6
theorem planFull {p : Plan} (h : planErr p = 0) : PlanFull p := by
  unfold planErr at h
  split at h
  case isFalse h0 => exact absurd h h0
  rename_i h1
  split at h
  case isFalse h0 => exact absurd h h0
  rename_i h2
  split at h
  case isFalse => exact absurd h (by decide)
  rename_i h3
  unfold qsErr at h1
  split at h1
  case isFalse => exact absurd h1 (by decide)
  rename_i hq16
  unfold msErr at h2
  split at h2
  case isFalse => exact absurd h2 (by decide)
  rename_i hm16
  refine ⟨hq16, hm16, h3, fun q hq => ?_, fun m hm => ?_, fun a ha => ?_⟩
  · obtain ⟨i, hi, rfl⟩ := List.mem_iff_getElem.1 hq
    have h5 := firstErr_zero.1 h1 i hi
    unfold qErrAt at h5
    rw [getD_mem _ _ hi] at h5
    split at h5
    case isFalse => exact absurd h5 (by decide)
    rename_i hn
    split at h5
    case isTrue => exact absurd h5 (by decide)
    obtain ⟨a1, a2, a3, a4, a5, a6, a7, a8⟩ := goodQ _ h5
    have hg := gsName h5
    refine ⟨a6, nameB_size hn, ⟨a1, a2, by omega, by omega, by omega⟩, fun g hg1 => ?_⟩
    have := a8 g hg1
    exact ⟨hg g hg1, by omega, by omega, by omega⟩
  · obtain ⟨i, hi, rfl⟩ := List.mem_iff_getElem.1 hm
    have h5 := firstErr_zero.1 h2 i hi
    unfold mErrAt at h5
    rw [getD_lt hi] at h5
    split at h5
    case isFalse => exact absurd h5 (by decide)
    rename_i hn
    unfold mNameB at hn
    rw [Bool.and_eq_true] at hn
    split at h5
    case isTrue => exact absurd h5 (by decide)
    split at h5
    case isFalse => exact absurd h5 (by decide)
    rename_i h6
    unfold mTimeB at h6
    rw [Bool.and_eq_true, Bool.and_eq_true, isTm_true, isTm_true, isTm_true] at h6
    exact ⟨nameB_size hn.1, nameB_size hn.2, by omega, by omega, by omega⟩
  · obtain ⟨i, hi, rfl⟩ := List.mem_iff_getElem.1 ha
    have h5 := firstErr_zero.1 h i hi
    unfold aErrAt at h5
    rw [getD_lt hi] at h5
    split at h5
    case isFalse => exact absurd h5 (by decide)
    rename_i h6
    split at h5
    case isFalse => exact absurd h5 (by decide)
    rename_i h7
    rw [Bool.and_eq_true, withinB_true, withinB_true] at h6
    rw [Bool.and_eq_true, isVal_true, isVal_true] at h7
    omega
theorem gLine_le {g : Gauge} (h : g.name.size ≤ 16 ∧ (-1000000000 ≤ g.acc ∧ g.acc ≤ 1000000000) ∧ (-1000000000 ≤ g.drift ∧ g.drift ≤ 1000000000) ∧ (-1000000000 ≤ g.since ∧ g.since ≤ 1000000000)) : (lineT (gWs g)).length ≤ 100 := by
  have := lineT_le (gWs g) 5 (by simp [gWs]) (by
    simp only [gWs, List.forall_mem_cons, List.not_mem_nil, false_imp_iff, implies_true, and_true]
    exact ⟨by decide, h.1, itB_size _ h.2.1.1 h.2.1.2, itB_size _ h.2.2.1.1 h.2.2.1.2, itB_size _ h.2.2.2.1 h.2.2.2.2⟩)
  omega
theorem PlanFull.gLine {p : Plan} (h : PlanFull p) : ∀ q ∈ p.qs, ∀ g ∈ q.gs, (lineT (gWs g)).length ≤ 100 := fun q hq g hg => gLine_le ((h.q q hq).2.2.2 g hg)
theorem PlanFull.qLine {p : Plan} (h : PlanFull p) : ∀ q ∈ p.qs, (lineT (qWs q)).length ≤ 200 := by
  intro q hq
  obtain ⟨_, h2, ⟨h3, h4, h5, h6, h7⟩, _⟩ := h.q q hq
  have := lineT_le (qWs q) 7 (by simp [qWs]) (by
    simp only [qWs, List.forall_mem_cons, List.not_mem_nil, false_imp_iff, implies_true, and_true]
    exact ⟨by decide, h2, itB_size _ h3.1 h3.2, itB_size _ h4.1 h4.2, itB_size _ h5.1 h5.2, itB_size _ h6.1 h6.2, itB_size _ h7.1 h7.2⟩)
  omega
theorem PlanFull.qTxt {p : Plan} (h : PlanFull p) : ∀ q ∈ p.qs, (qTxt q).length ≤ 1000 := by
  intro q hq
  have h1 := h.qLine q hq
  have h2 := flat_le (fun g => lineT (gWs g)) 100 q.gs (h.gLine q hq)
  have h3 := (h.q q hq).1
  unfold Go.Proofs.YtcgnpndfhhcplaaGreatDoor.qTxt
  rw [List.length_append]
  omega
theorem PlanFull.mLine {p : Plan} (h : PlanFull p) : ∀ m ∈ p.ms, (lineT (mWs m)).length ≤ 200 := by
  intro m hm
  obtain ⟨h1, h2, h3, h4, h5⟩ := h.m m hm
  have := lineT_le (mWs m) 6 (by simp [mWs]) (by
    simp only [mWs, List.forall_mem_cons, List.not_mem_nil, false_imp_iff, implies_true, and_true]
    exact ⟨by decide, h1, h2, itB_size _ h3.1 h3.2, itB_size _ h4.1 h4.2, itB_size _ h5.1 h5.2⟩)
  omega
theorem PlanFull.aLine {p : Plan} (h : PlanFull p) : ∀ a ∈ p.al, (lineT (aWs p a)).length ≤ 200 := by
  intro a ha
  obtain ⟨h1, h2, h3, h4⟩ := h.a a ha
  have hq : (p.qs.getD a.q.toNat default).name.size ≤ 16 := by
    rw [getD_mem _ _ (by omega)]; exact (h.q _ (List.getElem_mem _)).2.1
  have hm : (p.ms.getD a.m.toNat default).name.size ≤ 16 := by
    rw [getD_mem _ _ (by omega)]; exact (h.m _ (List.getElem_mem _)).1
  have := lineT_le (aWs p a) 5 (by simp [aWs]) (by
    simp only [aWs, List.forall_mem_cons, List.not_mem_nil, false_imp_iff, implies_true, and_true]
    exact ⟨by decide, hq, itB_size _ h3.1 h3.2, itB_size _ h4.1 h4.2, hm⟩)
  omega
theorem PlanFull.qs_le {p : Plan} (h : PlanFull p) (k : Nat) : (qsTxt (p.qs.take k)).length ≤ 16000 := by
  have := flat_take_le Go.Proofs.YtcgnpndfhhcplaaGreatDoor.qTxt 1000 p.qs k h.qTxt
  have := h.q16
  unfold qsTxt
  omega
theorem PlanFull.qs_all {p : Plan} (h : PlanFull p) : (qsTxt p.qs).length ≤ 16000 := by
  have := h.qs_le p.qs.length
  rwa [List.take_of_length_le (Nat.le_refl _)] at this
theorem PlanFull.ms_le {p : Plan} (h : PlanFull p) (k : Nat) : (msTxt (p.ms.take k)).length ≤ 3200 := by
  have := flat_take_le (fun m => lineT (mWs m)) 200 p.ms k h.mLine
  have := h.m16
  unfold msTxt
  omega
theorem PlanFull.ms_all {p : Plan} (h : PlanFull p) : (msTxt p.ms).length ≤ 3200 := by
  have := h.ms_le p.ms.length
  rwa [List.take_of_length_le (Nat.le_refl _)] at this
theorem PlanFull.as_le {p : Plan} (h : PlanFull p) (k : Nat) : (asTxt p (p.al.take k)).length ≤ 3200 := by
  have := flat_take_le (fun a => lineT (aWs p a)) 200 p.al k h.aLine
  have := h.a16
  unfold asTxt
  omega
theorem PlanFull.as_all {p : Plan} (h : PlanFull p) : (asTxt p p.al).length ≤ 3200 := by
  have := h.as_le p.al.length
  rwa [List.take_of_length_le (Nat.le_refl _)] at this
theorem PlanFull.txt_le {p : Plan} (h : PlanFull p) : (txt p).length ≤ 22400 := by
  have h1 := h.qs_all
  have h2 := h.ms_all
  have h3 := h.as_all
  unfold txt
  rw [List.length_append, List.length_append]
  omega
theorem PlanFull.gs_le {p : Plan} (h : PlanFull p) (k j : Nat) (hk : k < p.qs.length) : ((((p.qs[k].gs.take j).map fun g => lineT (gWs g)).flatten)).length ≤ 800 := by
  have h1 := flat_take_le (fun g => lineT (gWs g)) 100 p.qs[k].gs j (h.gLine _ (List.getElem_mem _))
  have h2 := (h.q _ (List.getElem_mem hk)).1
  omega
end Go.Proofs.YtcgnpndfhhcplaaGreatDoor
