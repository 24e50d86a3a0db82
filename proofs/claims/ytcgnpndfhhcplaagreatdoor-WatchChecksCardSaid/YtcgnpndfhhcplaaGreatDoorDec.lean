/-
  Plain: a text that is put together piece by piece. No program.
  Numbers as text: the specification's Decimal gives the decimal numeral. Conditions: the number is at most 1,000,000,000 off 0.
-/
import Derived.Test.YtcgnpndfhhcplaaGreatDoorTxt
import Derived.Laws.Concat
import Derived.Laws.IdiomStrings
namespace Go.Proofs.YtcgnpndfhhcplaaGreatDoor
open Go.RowKit W7
def cat (a : ByteArray) (l : List ByteArray) : ByteArray := l.foldl (· ++ ·) a
theorem cat_mk : ∀ (l : List ByteArray) (t : List UInt8), cat ⟨t.toArray⟩ l = ⟨(t ++ (l.map (·.data.toList)).flatten).toArray⟩
  | [], t => by simp [cat]
  | x :: l, t => by
    have h := cat_mk l (t ++ x.data.toList)
    have hx : (⟨t.toArray⟩ : ByteArray) ++ x = ⟨(t ++ x.data.toList).toArray⟩ := by
      apply ByteArray.ext
      simp [ByteArray.data_append]
    show cat (⟨t.toArray⟩ ++ x) l = _
    rw [hx, h]
    simp
theorem cat_size : ∀ (l : List ByteArray) (a : ByteArray) (n : Nat), a.size ≤ n → (∀ x ∈ l, x.size ≤ 16) → (cat a l).size ≤ n + 16 * l.length
  | [], a, n, h, _ => by simpa [cat] using h
  | x :: l, a, n, h, hl => by
    have h1 := cat_size l (a ++ x) (n + 16) (by have := hl x (by simp); rw [ByteArray.size_append]; omega) (fun y hy => hl y (by simp [hy]))
    have h2 : cat a (x :: l) = cat (a ++ x) l := rfl
    rw [h2, List.length_cons]
    omega
theorem cat_take {l : List ByteArray} {a : ByteArray} (i : Nat) (h : a.size ≤ 30000) (hl : ∀ x ∈ l, x.size ≤ 16) (hn : l.length ≤ 100) : (cat a (l.take i)).size ≤ 40000 := by
  have h1 := cat_size (l.take i) a 30000 h (fun x hx => hl x (List.mem_of_mem_take hx))
  have h2 : (l.take i).length ≤ l.length := by rw [List.length_take]; omega
  omega
def nl1 : ByteArray := ⟨#[10]⟩
def qPs (q : Quantity) : List ByteArray := [⟨#[113, 117, 97, 110, 116, 105, 116, 121, 32]⟩, q.name, ⟨#[32]⟩, itB q.lo, ⟨#[32]⟩, itB q.hi, ⟨#[32]⟩, itB q.rise, ⟨#[32]⟩, itB q.fall, ⟨#[32]⟩, itB q.bad, ⟨#[10]⟩]
def gPs (g : Gauge) : List ByteArray := [⟨#[103, 97, 117, 103, 101, 32]⟩, g.name, ⟨#[32]⟩, itB g.acc, ⟨#[32]⟩, itB g.drift, ⟨#[32]⟩, itB g.since, ⟨#[10]⟩]
def mPs (m : Measure) : List ByteArray := [⟨#[109, 101, 97, 115, 117, 114, 101, 32]⟩, m.name, ⟨#[32]⟩, m.crew, ⟨#[32]⟩, itB m.rank, ⟨#[32]⟩, itB m.lag, ⟨#[32]⟩, itB m.takes, ⟨#[10]⟩]
def aPs (s t : ByteArray) (a : Alarm) : List ByteArray := [⟨#[97, 108, 97, 114, 109, 32]⟩, s, ⟨#[32]⟩, itB a.level, ⟨#[32]⟩, itB a.limit, ⟨#[32]⟩, t, ⟨#[10]⟩]
theorem qPs_line (q : Quantity) : ((qPs q).map (·.data.toList)).flatten = lineT (qWs q) := by
  simp [qPs, lineT, qWs, sp1, Go.Lib.join_cons, Go.Lib.joinTail]
theorem gPs_line (g : Gauge) : ((gPs g).map (·.data.toList)).flatten = lineT (gWs g) := by
  simp [gPs, lineT, gWs, sp1, Go.Lib.join_cons, Go.Lib.joinTail]
theorem mPs_line (m : Measure) : ((mPs m).map (·.data.toList)).flatten = lineT (mWs m) := by
  simp [mPs, lineT, mWs, sp1, Go.Lib.join_cons, Go.Lib.joinTail]
theorem aPs_line (p : Plan) (a : Alarm) : ((aPs (p.qs.getD a.q.toNat default).name (p.ms.getD a.m.toNat default).name a).map (·.data.toList)).flatten = lineT (aWs p a) := by
  simp [aPs, lineT, aWs, sp1, Go.Lib.join_cons, Go.Lib.joinTail]
theorem cat_line {t : List UInt8} {S : ByteArray} {l : List ByteArray} {ln : List UInt8} (hS : S = ⟨t.toArray⟩) (h : (l.map (·.data.toList)).flatten = ln) : cat S l = ⟨(t ++ ln).toArray⟩ := by
  rw [hS, cat_mk, h]
theorem size_mk {t : List UInt8} {S : ByteArray} {n : Nat} (hS : S = ⟨t.toArray⟩) (h : t.length ≤ n) : S.size ≤ n := by
  rw [hS]
  show t.toArray.size ≤ n
  rwa [List.size_toArray]
end Go.Proofs.YtcgnpndfhhcplaaGreatDoor
namespace Go.Proofs.YtcgnpndfhhcplaaGreatDoor
open Go.RowKit W7
theorem digit_run (t s : TypeId) (P : Program) (u : Nat) (w : World) (e : TypeId) (hs : P.underlying t = some (.slice e)) (he : P.underlying e = some (.int .u8)) (hd : P.underlying s = some .string) :
    (convert t s (.slice (some ⟨w.heap.size, 0, none⟩) 1 1)).run P (w.alloc (.cells #[.int .u8 (48 + (u : Int) % 10)] e)) = .ok (.string ⟨[UInt8.ofNat (48 + u % 10)].toArray⟩) (w.alloc (.cells #[.int .u8 (48 + (u : Int) % 10)] e)) := by
  refine run_convert_bytes_back _ t s e ⟨w.heap.size, 0, none⟩ 1 [UInt8.ofNat (48 + u % 10)] hs he hd (fun j hj => ?_)
  have hj0 : j = 0 := by simpa using hj
  subst hj0
  have h1 : (UInt8.ofNat (48 + u % 10)).toNat = 48 + u % 10 := by
    rw [UInt8.toNat_ofNat_of_lt']
    show 48 + u % 10 < 256
    omega
  simp only [List.getElem_cons_zero, h1]
  have h2 : ((48 + u % 10 : Nat) : Int) = 48 + (u : Int) % 10 := by omega
  rw [h2]
  exact cells_new w e _ 0 _ rfl
theorem dec_size (u : Nat) (h : u ≤ 2000000000) : (⟨(Go.Lib.decDigits u).toArray⟩ : ByteArray).size ≤ 16 := by
  show (Go.Lib.decDigits u).toArray.size ≤ 16
  rw [List.size_toArray, Go.Lib.decDigits_length]
  have := nDigits_le 10 u (by omega)
  omega
theorem str_add (l m : List UInt8) : (⟨l.toArray⟩ : ByteArray) ++ ⟨m.toArray⟩ = ⟨(l ++ m).toArray⟩ := by
  apply ByteArray.ext
  simp
set_option maxHeartbeats 2000000 in
set_option maxRecDepth 100000 in
theorem refDecN_any (u : Nat) : ∀ (w : World), u ≤ 2000000000 → Calls Tryz.prog 65 #[.int .i64 (u : Int)] w fun e w' => e = .returned (.string ⟨(Go.Lib.decDigits u).toArray⟩) ∧ Below w.heap.size w w' := by
  induction u using Nat.strongRecOn with
  | _ u ih =>
    intro w hu
    have hcv := digit_run 63 9 Tryz.prog u w 5 Tryz.underlying63 Tryz.underlying5 Tryz.underlying9
    obtain ⟨d, hd⟩ : ∃ d : UInt8, d = UInt8.ofNat (48 + u % 10) := ⟨_, rfl⟩
    rw [← hd] at hcv
    by_cases h10 : u < 10
    · have hneg : decide ((u : Int) < 0) = false := by simp
      have hge : decide ((10 : Int) ≤ (u : Int)) = false := by simp; omega
      have HD := Lib.hid (show Go.Lib.decDigits u = [d] by rw [Go.Lib.decDigits_one h10, hd, show u % 10 = u by omega])
      clear hd
      go_enter Tryz.func65, Tryz.ntmps65
      go_wp2
      go_ret
      exact ⟨by rw [HD.out]; rfl, (Below.refl _ _).alloc (Nat.le_refl _) _⟩
    · have hneg : decide ((u : Int) < 0) = false := by simp
      have hge : decide ((10 : Int) ≤ (u : Int)) = true := by simp; omega
      have HD := Lib.hid (show Go.Lib.decDigits u = Go.Lib.decDigits (u / 10) ++ [d] by rw [hd, Go.Lib.decDigits, dif_neg h10])
      clear hd
      have hsz := dec_size (u / 10) (by omega)
      have hba := str_add (Go.Lib.decDigits (u / 10)) [d]
      have hI := ih (u / 10) (by omega)
      obtain ⟨S, hS⟩ : ∃ S : ByteArray, S = ⟨(Go.Lib.decDigits (u / 10)).toArray⟩ := ⟨_, rfl⟩
      rw [← hS] at hsz hba
      simp only [← hS] at hI
      have HI := Lib.hid hI
      have Hba := Lib.hid hba
      clear hI hba hS
      have Hdiv := Lib.hid (show ((u : Int) / 10) = ((u / 10 : Nat) : Int) by omega)
      obtain ⟨W0, hW0⟩ : ∃ W0, W0 = w.alloc (.cells #[.int .u8 (48 + (u : Int) % 10)] 5) := ⟨_, rfl⟩
      have HB0 := Lib.hid (show Below w.heap.size w W0 by rw [hW0]; exact (Below.refl _ _).alloc (Nat.le_refl _) _)
      have hs0 : w.heap.size ≤ W0.heap.size := by rw [hW0]; simp
      have HW0 := Lib.hid hW0
      clear hW0 ih
      go_enter Tryz.func65, Tryz.ntmps65
      go_wp2_with (go_at_call 65; fail)
      rw [← HW0.out, Hdiv.out]
      refine (HI.out W0 (by omega)).mono ?_
      rintro r w1 ⟨rfl, hb1⟩
      go_wp2
      go_ret
      exact ⟨by rw [HD.out, ← Hba.out]; rfl, HB0.out.trans (hb1.mono hs0)⟩
theorem itB_nat (u : Nat) : itB (u : Int) = ⟨(Go.Lib.decDigits u).toArray⟩ := by
  unfold itB Go.Lib.itoa
  rw [if_neg (by omega)]
  rfl
set_option maxHeartbeats 2000000 in
set_option maxRecDepth 100000 in
theorem refDec_any (n : Int) (w : World) (h0 : -1000000000 ≤ n) (h1 : n ≤ 1000000000) : Calls Tryz.prog 65 #[.int .i64 n] w fun e w' => e = .returned (.string (itB n)) ∧ Below w.heap.size w w' := by
  by_cases hn : n < 0
  · obtain ⟨u, hu⟩ : ∃ u : Nat, -n = (u : Int) := ⟨(-n).toNat, by omega⟩
    have hneg : decide (n < 0) = true := by simp; omega
    have HI := Lib.hid (refDecN_any u w (by omega))
    have HD := Lib.hid (show itB n = ⟨([45] ++ Go.Lib.decDigits u).toArray⟩ by
      unfold itB Go.Lib.itoa
      rw [if_pos hn, show n.natAbs = u by omega]
      rfl)
    have hba := str_add [45] (Go.Lib.decDigits u)
    have hsz := dec_size u (by omega)
    obtain ⟨S, hS⟩ : ∃ S : ByteArray, S = ⟨(Go.Lib.decDigits u).toArray⟩ := ⟨_, rfl⟩
    rw [← hS] at hsz hba HI
    have Hba := Lib.hid hba
    clear hba hS
    go_enter Tryz.func65, Tryz.ntmps65
    go_wp2_with (go_at_call 65; fail)
    refine HI.out.mono ?_
    rintro r w1 ⟨rfl, hb1⟩
    go_wp2
    go_ret
    exact ⟨by rw [HD.out, ← Hba.out]; rfl, hb1⟩
  · obtain ⟨u, rfl⟩ : ∃ u : Nat, n = (u : Int) := ⟨n.toNat, by omega⟩
    rw [itB_nat]
    exact refDecN_any u w (by omega)
end Go.Proofs.YtcgnpndfhhcplaaGreatDoor
