/-
  Which strings are names: package works and the specification say the same of every string. Condition: the string's size is an int. And its layer.
-/
import Derived.BigGuardPart
import Derived.Test.YtjpgnfekbojcaaaGreatWAir6
set_option maxHeartbeats 8000000
set_option maxRecDepth 100000
namespace Go.Proofs.YtjpgnfekbojcaaaGreat
open Go.RowKit W7 W8
theorem all_take_succ (s : ByteArray) (k : Nat) (h : k < s.size) : (s.data.toList.take (k + 1)).all okc = ((s.data.toList.take k).all okc && okc s[k]) := by
 rw [List.take_succ_eq_append_getElem (by simpa using h), List.all_append]
 simp; rfl
theorem all_of_take (s : ByteArray) (k : Nat) (h : k < s.size) (hn : okc s[k] = false) : s.data.toList.all okc = false := by
 rw [List.all_eq_false]
 exact ⟨s[k], by simp [ByteArray.getElem_eq_getElem_data], by simp [hn]⟩
theorem head_at (s : ByteArray) (h : 0 < s.size) : s.data.toList.headD 0 = s[0] := by
 have h' : 0 < s.data.toList.length := by simpa using h
 rw [List.headD_eq_head?_getD, List.head?_eq_getElem?, List.getElem?_eq_getElem h']
 rfl
theorem empty_iff (s : ByteArray) : s.toList.isEmpty = decide (s.size = 0) := by
 rw [ByteArray.toList_eq]
 have : s.data.toList.length = s.size := Array.length_toList
 rw [<- this]
 cases s.data.toList <;> simp
theorem nameB_empty (s : ByteArray) (h : s.size = 0) : nameB s = false := by simp [nameB, h]
theorem nameB_long (s : ByteArray) (h : 16 < s.size) : nameB s = false := by
 have : ¬ s.size <= 16 := by omega
 simp [nameB, this]
theorem nameB_first (s : ByteArray) (h : 0 < s.size) (hf : okFirst s[0] = false) : nameB s = false := by
 rw [nameB, head_at s h, hf]; simp
theorem nameB_all (s : ByteArray) (h0 : 0 < s.size) (h16 : s.size <= 16) (hf : okFirst s[0] = true) : nameB s = s.data.toList.all okc := by
 rw [nameB, head_at s h0, hf]; simp [h16]; intro _; omega
theorem okc_true_1 (c : UInt8) (h1 : (97 : Int) <= (c.toNat : Int)) (h2 : (c.toNat : Int) <= 122) : okc c = true := by simp [okc, h1, h2]
theorem okc_true_2 (c : UInt8) (h1 : (48 : Int) <= (c.toNat : Int)) (h2 : (c.toNat : Int) <= 57) : okc c = true := by simp [okc, h1, h2]
theorem okc_true_3 (c : UInt8) (h1 : (c.toNat : Int) = 45) : okc c = true := by simp [okc, h1]
theorem okc_false (c : UInt8) (h1 : (97 : Int) <= (c.toNat : Int) -> (122 : Int) < (c.toNat : Int)) (h2 : (48 : Int) <= (c.toNat : Int) -> (57 : Int) < (c.toNat : Int)) (h3 : (c.toNat : Int) ≠ 45) : okc c = false := by
 simp [okc]; omega
theorem isName_any (s : ByteArray) (hs : s.size <= maxLen) (w : World) :
  Calls Tryz.prog 106 #[.string s] w fun e w' => e = .returned (.bool (nameB s)) /\ w = w' := by
 unfold maxLen at hs
 have He := hI (empty_iff s)
 by_cases h0 : s.size = 0
 ·have he : s.toList.isEmpty = true := by rw [He.out, h0]; rfl
  have HN := hI (nameB_empty s h0)
  clear h0
  go_enter Tryz.func106, Tryz.ntmps106
  go_wp2
  go_ret
  exact ⟨by rw [HN.out]; rfl, rfl⟩
 have he : s.toList.isEmpty = false := by rw [He.out]; simpa using h0
 have h0' : 0 < s.size := by omega
 clear h0
 by_cases h16 : 16 < s.size
 ·have HN := hI (nameB_long s h16)
  go_enter Tryz.func106, Tryz.ntmps106
  go_wp2
  go_ret
  exact ⟨by rw [HN.out]; rfl, rfl⟩
 by_cases hf1 : ((s[0]'(by omega)).toNat : Int) < 97
 ·have HN := hI (nameB_first s h0' (by simp [okFirst]; omega))
  have hd : decide (((s[0]'(by omega)).toNat : Int) < 97) = true := by simpa using hf1
  go_enter Tryz.func106, Tryz.ntmps106
  go_wp2
  go_ret
  exact ⟨by rw [HN.out]; rfl, rfl⟩
 by_cases hf2 : (122 : Int) < ((s[0]'(by omega)).toNat : Int)
 ·have HN := hI (nameB_first s h0' (by simp [okFirst]; omega))
  have hd0 : decide (((s[0]'(by omega)).toNat : Int) < 97) = false := by simpa using hf1
  have hd : decide ((122 : Int) < ((s[0]'(by omega)).toNat : Int)) = true := by simpa using hf2
  go_enter Tryz.func106, Tryz.ntmps106
  go_wp2
  go_ret
  exact ⟨by rw [HN.out]; rfl, rfl⟩
 have hd2 : decide ((16 : Int) < (s.size : Int)) = false := by simp; omega
 have hd0 : decide (((s[0]'(by omega)).toNat : Int) < 97) = false := by simpa using hf1
 have hd1 : decide ((122 : Int) < ((s[0]'(by omega)).toNat : Int)) = false := by simpa using hf2
 have HN := hI (nameB_all s h0' (by omega) (by simp [okFirst]; omega))
 go_enter Tryz.func106, Tryz.ntmps106
 go_wp2
 go_loop [24] (fun i => ∃ k : Nat, k <= s.size /\ i = .int .i64 k /\ Hid ((s.data.toList.take k).all okc = true)) (fun i => s.size - (intOf i).toNat)
 case atStart => exact ⟨0, by omega, rfl, hI rfl⟩
 case round =>
  obtain ⟨k, hk, rfl, Hall⟩ := hrel
  by_cases hlt : k < s.size
  ·have HT := hI (all_take_succ s k hlt)
   have HF := hI (all_of_take s k hlt)
   by_cases h45 : (s[k].toNat : Int) = 45
   ·have h45b : ((s[k].toNat : Int) == 45) = true := beq_iff_eq.2 h45
    have H45 := hI h45
    clear h45
    go_wp2
    all_goals
     go_round
     case rel => exact ⟨k + 1, by omega, by go_num, hI (by rw [HT.out, Hall.out, okc_true_3 _ H45.out]; rfl)⟩
     case measure => simp [intOf]; omega
   ·have h45b : ((s[k].toNat : Int) == 45) = false := beq_eq_false_iff_ne.2 h45
    have H45 := hI h45
    clear h45
    go_wp2
    all_goals first
     | (go_ret; exact ⟨by rw [HN.out, HF.out (okc_false _ (by omega) (by omega) H45.out)]; rfl, rfl⟩)
     | (go_round; (case rel => exact ⟨k + 1, by omega, by go_num, hI (by rw [HT.out, Hall.out]; first | (rw [okc_true_1 _ (by omega) (by omega)]; rfl) | (rw [okc_true_2 _ (by omega) (by omega)]; rfl))⟩); (case measure => simp [intOf]; omega))
  ·obtain rfl : k = s.size := by omega
   have HA := hI (show s.data.toList.all okc = true by rw [<- Hall.out, List.take_of_length_le]; exact Nat.le_of_eq Array.length_toList)
   go_wp2
   go_ret
   exact ⟨by rw [HN.out, HA.out]; rfl, rfl⟩
theorem refName_any (s : ByteArray) (hs : s.size <= maxLen) (w : World) :
  Calls Tryz.prog 99 #[.string s] w fun e w' => e = .returned (.bool (nameB s)) /\ w = w' := by
 unfold maxLen at hs
 by_cases h0 : s.size = 0
 ·have he : ((s.size : Int) == 0) = true := by rw [h0]; rfl
  have HN := hI (nameB_empty s h0)
  clear h0
  go_enter Tryz.func99, Tryz.ntmps99
  go_wp2
  go_ret
  exact ⟨by rw [HN.out]; rfl, rfl⟩
 have he : ((s.size : Int) == 0) = false := by simp; exact fun h => h0 (by simpa using h)
 have h0' : 0 < s.size := by omega
 clear h0
 by_cases h16 : 16 < s.size
 ·have HN := hI (nameB_long s h16)
  have h16b : decide ((16 : Int) < (s.size : Int)) = true := by simp; omega
  go_enter Tryz.func99, Tryz.ntmps99
  go_wp2
  go_ret
  exact ⟨by rw [HN.out]; rfl, rfl⟩
 have hd2 : decide ((16 : Int) < (s.size : Int)) = false := by simp; omega
 by_cases hf1 : ((s[0]'(by omega)).toNat : Int) < 97
 ·have HN := hI (nameB_first s h0' (by simp [okFirst]; omega))
  have hd : decide (((s[0]'(by omega)).toNat : Int) < 97) = true := by simpa using hf1
  go_enter Tryz.func99, Tryz.ntmps99
  go_wp2
  go_ret
  exact ⟨by rw [HN.out]; rfl, rfl⟩
 by_cases hf2 : (122 : Int) < ((s[0]'(by omega)).toNat : Int)
 ·have HN := hI (nameB_first s h0' (by simp [okFirst]; omega))
  have hd0 : decide (((s[0]'(by omega)).toNat : Int) < 97) = false := by simpa using hf1
  have hd : decide ((122 : Int) < ((s[0]'(by omega)).toNat : Int)) = true := by simpa using hf2
  go_enter Tryz.func99, Tryz.ntmps99
  go_wp2
  go_ret
  exact ⟨by rw [HN.out]; rfl, rfl⟩
 have hd0 : decide (((s[0]'(by omega)).toNat : Int) < 97) = false := by simpa using hf1
 have hd1 : decide ((122 : Int) < ((s[0]'(by omega)).toNat : Int)) = false := by simpa using hf2
 have HN := hI (nameB_all s h0' (by omega) (by simp [okFirst]; omega))
 go_enter Tryz.func99, Tryz.ntmps99
 go_wp2
 go_loop [3] (fun i => ∃ k : Nat, k <= s.size /\ i = .int .i64 k /\ Hid ((s.data.toList.take k).all okc = true)) (fun i => s.size - (intOf i).toNat)
 case atStart => exact ⟨0, by omega, rfl, hI rfl⟩
 case round =>
  obtain ⟨k, hk, rfl, Hall⟩ := hrel
  by_cases hlt : k < s.size
  ·have HT := hI (all_take_succ s k hlt)
   have HF := hI (all_of_take s k hlt)
   by_cases h45 : (s[k].toNat : Int) = 45
   ·have h45b : ((s[k].toNat : Int) == 45) = true := beq_iff_eq.2 h45
    have H45 := hI h45
    clear h45
    go_wp2
    all_goals
     go_round
     case rel => exact ⟨k + 1, by omega, by go_num, hI (by rw [HT.out, Hall.out, okc_true_3 _ H45.out]; rfl)⟩
     case measure => simp [intOf]; omega
   ·have h45b : ((s[k].toNat : Int) == 45) = false := beq_eq_false_iff_ne.2 h45
    have H45 := hI h45
    clear h45
    go_wp2
    all_goals first
     | (go_ret; exact ⟨by rw [HN.out, HF.out (okc_false _ (by omega) (by omega) H45.out)]; rfl, rfl⟩)
     | (go_round; (case rel => exact ⟨k + 1, by omega, by go_num, hI (by rw [HT.out, Hall.out]; first | (rw [okc_true_1 _ (by omega) (by omega)]; rfl) | (rw [okc_true_2 _ (by omega) (by omega)]; rfl))⟩); (case measure => simp [intOf]; omega))
  ·obtain rfl : k = s.size := by omega
   have HA := hI (show s.data.toList.all okc = true by rw [<- Hall.out, List.take_of_length_le]; exact Nat.le_of_eq Array.length_toList)
   go_wp2
   go_ret
   exact ⟨by rw [HN.out, HA.out]; rfl, rfl⟩
end Go.Proofs.YtjpgnfekbojcaaaGreat
namespace Go.Proofs.YtjpgnfekbojcaaaGreat
open Go.RowKit W7 W8
attribute [local go_sem] Oper.semAt_some
def timesB (d : Dive) : Bool := isTm d.pr && isTm d.tin && isTm d.leave && isTm d.out
def diveErr (l : List Dive) (i : Nat) : Int :=
 if nameB (l.getD i default).who then (if timesB (l.getD i default) then (if 0 < i /\ (l.getD i default).tin < (l.getD (i - 1) default).tin then 8 else 0) else 1) else 5
def divesErr (l : List Dive) : Int := firstErr (diveErr l) l.length
def faultsErr (t : Table) (l : List Dive) : Int := if tblErr t ≠ 0 then tblErr t else if 128 < l.length then 3 else divesErr l
def faultAt (t : Table) (l : List Dive) (i : Nat) : Int := faultN t (aheadOf l i (l.getD i default).who) (l.getD i default)
def faultsV (t : Table) (l : List Dive) : List Int := if faultsErr t l = 0 then (List.range l.length).map (faultAt t l) else []
theorem firstErr_zero {f : Nat -> Int} : ∀ {n : Nat}, firstErr f n = 0 -> ∀ i, i < n -> f i = 0
 | 0, _, i, h => absurd h (by omega)
 | n + 1, h0, i, hi => by
  have hn : firstErr f n = 0 := by
   by_cases hz : firstErr f n = 0
   ·exact hz
   ·have h1 : firstErr f (n + 1) = firstErr f n := by simp [firstErr, hz]
    rw [h1] at h0
    exact h0
  rcases Nat.lt_or_ge i n with h | h
  ·exact firstErr_zero hn i h
  ·obtain rfl : i = n := by omega
   rw [<- firstErr_succ hn]
   exact h0
theorem ok_of_times {d : Dive} (h : timesB d = true) : OkDive d := by
 unfold timesB at h
 simp only [Bool.and_eq_true] at h
 obtain ⟨⟨⟨h1, h2⟩, h3⟩, h4⟩ := h
 exact ⟨isTm_true.1 h1, isTm_true.1 h2, isTm_true.1 h3, isTm_true.1 h4⟩
theorem ok_of_dives {l : List Dive} (h : divesErr l = 0) : ∀ d ∈ l, OkDive d := by
 intro d hd
 obtain ⟨i, hi, rfl⟩ := List.getElem_of_mem hd
 have h1 := firstErr_zero h i hi
 unfold diveErr at h1
 rw [getD_lt hi] at h1
 split at h1
 ·split at h1
  ·rename_i h2
   exact ok_of_times h2
  ·cases h1
 ·cases h1
theorem own_none {w : World} {base e size n c m : Nat} {A : Option Addr} {xs : List Value} (h : w.ownsRow base e size (.slice A m c) n xs) (hA : A = none) : m = 0 /\ c = 0 := by
 subst hA
 rcases h.2 with ⟨h1, _⟩ | ⟨g, cap, cur, h1, _⟩
 ·cases h1
  exact ⟨rfl, rfl⟩
 ·cases h1
theorem elemAf : Elem Tryz.prog 79 90 (.int .u8 0) 1 1 := Elem.mk' Tryz.underlying79 (by kernel_rfl) rfl (by decide) (by decide)
theorem Faults_any (t : Table) (l : List Dive) (A : Option Addr) (n c B : Nat) (w : World) (ht : TIn w B t) (htl : t.rows.length <= 1000000000) (hn : n = l.length) (hA : Sl w B 5 encDive A l) (hB : B <= w.heap.size) (hnc : n <= c) (hc : c <= 9223372036854775807) (hw : ∀ d ∈ l, d.who.size <= maxLen) :
  Calls Tryz.prog 46 #[tabV t, .slice A n c] w fun e w' => ∃ v, e = .returned (.tuple #[v, .int .i64 (faultsErr t l)]) /\ w'.ownsRow w.heap.size 90 1 v (faultsV t l).length ((faultsV t l).map (Value.int .u8)) /\ Below w.heap.size w w' := by
 obtain ⟨W0, hW0⟩ : ∃ W0, W0 = w.alloc (.cells #[.slice t.A t.rows.length t.c, .int .i64 t.rest, .int .i64 t.day] 74) := ⟨_, rfl⟩
 have hs0 : W0.heap.size = w.heap.size + 1 := by rw [hW0]; simp
 have HB0 := hI (show Below w.heap.size w W0 by rw [hW0]; exact (Below.refl _ _).alloc (Nat.le_refl _) _)
 have HQ0 := hI (show ∀ (X : World), Below W0.heap.size W0 X -> X.cell? ⟨w.heap.size, 0, none⟩ = some (.slice t.A t.rows.length t.c) /\ X.cell? ⟨w.heap.size, 1, none⟩ = some (.int .i64 t.rest) /\ X.cell? ⟨w.heap.size, 2, none⟩ = some (.int .i64 t.day) from fun X hX =>
  ⟨(hX.cell (p := ⟨w.heap.size, 0, none⟩) (by simp; omega)).trans (by rw [hW0]; exact alloc_cell rfl), (hX.cell (p := ⟨w.heap.size, 1, none⟩) (by simp; omega)).trans (by rw [hW0]; exact alloc_cell rfl), (hX.cell (p := ⟨w.heap.size, 2, none⟩) (by simp; omega)).trans (by rw [hW0]; exact alloc_cell rfl)⟩)
 have HT := hI (fun (X : World) (hX : Below W0.heap.size W0 X) => show TIn X B t /\ Sl X B 5 encDive A l from ⟨ht.below ((HB0.out.mono hB).trans (hX.mono (by omega))), hA.below ((HB0.out.mono hB).trans (hX.mono (by omega)))⟩)
 have HU := hI (fun (X : World) (hX : Below W0.heap.size W0 X) => show Below w.heap.size w X from HB0.out.trans (hX.mono (by omega)))
 have HC := hI (CheckTable_any t B W0 (HT.out _ (Below.refl _ _)).1 (by omega))
 have HW0 := hI hW0
 have Hn := hI hn
 have Hw := hI hw
 obtain ⟨q0, q1, q2⟩ := HQ0.out W0 (Below.refl _ _)
 obtain ⟨te, hte⟩ : ∃ x, x = tblErr t := ⟨_, rfl⟩
 unfold tabV at HC
 rw [<- hte] at HC
 have HF := hI (show faultsErr t l = (if te ≠ 0 then te else if 128 < l.length then 3 else divesErr l) by rw [hte]; rfl)
 have HBad := hI (show ∀ (k : Int) (X : World), faultsErr t l = k -> k ≠ 0 -> Below W0.heap.size W0 X -> ∃ v, Ending.returned (.tuple #[.slice none 0 0, .int .i64 k]) = .returned (.tuple #[v, .int .i64 (faultsErr t l)]) /\ X.ownsRow w.heap.size 90 1 v (faultsV t l).length ((faultsV t l).map (Value.int .u8)) /\ Below w.heap.size w X from fun k X hk h0 hX => by
  have hv : faultsV t l = [] := by unfold faultsV; rw [if_neg (by rw [hk]; exact h0)]
  rw [hv, hk]
  exact ⟨_, rfl, World.ownsRow_nil _ _ _ _, HU.out X hX⟩)
 clear hW0 ht hA hn hw hte
 unfold tabV
 go_enter Tryz.func46, Tryz.ntmps46
 go_wp2_with (go_at_call 44; fail)
 rw [<- HW0.out]
 refine HC.out.mono ?_
 rintro e w1 ⟨rfl, hb1⟩
 have hs1 := hb1.size
 have Hb1 := hI hb1
 clear hb1 q0 q1 q2 HC
 cases h0 : (te == 0)
 ·have h0' : (te != 0) = true := by simp [bne, h0]
  have hne : te ≠ 0 := fun h => by rw [h] at h0; cases h0
  have HE := hI (HBad.out te w1 (by rw [HF.out, if_pos hne]) hne Hb1.out)
  clear hne
  go_wp2
  refine bodyPost_ret (v := .tuple #[.slice none 0 0, .int .i64 te]) (by simp [results, Tryz.results46, go_sem]) rfl HE.out
 have h0' : (te != 0) = false := by simp [bne, h0]
 have Hte := hI (show te = 0 from eq_of_beq h0)
 by_cases h128 : 128 < n
 ·have HE := hI (HBad.out 3 w1 (by rw [HF.out, if_neg (by rw [Hte.out]; decide), if_pos (by rw [<- Hn.out]; exact h128)]) (by decide) Hb1.out)
  go_wp2
  refine bodyPost_ret (v := .tuple #[.slice none 0 0, .int .i64 3]) (by simp [results, Tryz.results46, go_sem]) rfl HE.out
 have HF2 := hI (show faultsErr t l = divesErr l by rw [HF.out, if_neg (by rw [Hte.out]; decide), if_neg (by rw [<- Hn.out]; exact h128)])
 go_wp2
 go_loopw [21] (fun v wr => ∃ i : Nat, i <= n /\ v = .int .i64 i /\ Hid (Below W0.heap.size W0 wr) /\ Hid (firstErr (diveErr l) i = 0)) (fun v _ => n - (intOf v).toNat)
 case atStart => exact ⟨0, by omega, rfl, Hb1, hI rfl⟩
 case round =>
  obtain ⟨i, hi, rfl, Hb, Hf⟩ := hrel
  have hsr := Hb.out.size
  by_cases hlt : i < n
  ·have hil : i < l.length := by have := Hn.out; omega
   obtain ⟨b, off, hbe, hbB, hcells⟩ := (HT.out wr Hb.out).2 (by omega)
   subst hbe
   have hbw : b < wr.heap.size := by omega
   have c0 : wr.cell? ⟨b, off + i * 5, none⟩ = some (.string l[i].who) := hcells i hil 0 _ rfl
   have c1 : wr.cell? ⟨b, off + i * 5 + 1, none⟩ = some (.int .i64 l[i].pr) := hcells i hil 1 _ rfl
   have c2 : wr.cell? ⟨b, off + i * 5 + 2, none⟩ = some (.int .i64 l[i].tin) := hcells i hil 2 _ rfl
   have c3 : wr.cell? ⟨b, off + i * 5 + 3, none⟩ = some (.int .i64 l[i].leave) := hcells i hil 3 _ rfl
   have c4 : wr.cell? ⟨b, off + i * 5 + 4, none⟩ = some (.int .i64 l[i].out) := hcells i hil 4 _ rfl
   have HDv := hI (show diveErr l i = (if nameB l[i].who then (if timesB l[i] then (if 0 < i /\ l[i].tin < (l.getD (i - 1) default).tin then 8 else 0) else 1) else 5) by unfold diveErr; rw [getD_lt hil])
   have Hat := hI (fun h => HF2.out.trans (firstErr_at (f := diveErr l) Hf.out h (by have := Hn.out; omega : i < l.length)))
   have hws := Hw.out _ (List.getElem_mem hil)
   generalize l[i] = x at c0 c1 c2 c3 c4 HDv hws
   go_upto_region 9 with fail
   obtain ⟨W2, hW2⟩ : ∃ W2, W2 = wr.alloc (.cells #[.string x.who, .int .i64 x.pr, .int .i64 x.tin, .int .i64 x.leave, .int .i64 x.out] 84) := ⟨_, rfl⟩
   rw [<- hW2]
   have hs2 : W2.heap.size = wr.heap.size + 1 := by rw [hW2]; simp
   have HB2 := hI (show Below wr.heap.size wr W2 by rw [hW2]; exact (Below.refl _ _).alloc (Nat.le_refl _) _)
   have HA2 := hI (Hb.out.trans (HB2.out.mono hsr))
   have r0 : W2.cell? ⟨wr.heap.size, 0, none⟩ = some (.string x.who) := by rw [hW2]; exact alloc_cell rfl
   have r1 : W2.cell? ⟨wr.heap.size, 1, none⟩ = some (.int .i64 x.pr) := by rw [hW2]; exact alloc_cell rfl
   have r2 : W2.cell? ⟨wr.heap.size, 2, none⟩ = some (.int .i64 x.tin) := by rw [hW2]; exact alloc_cell rfl
   have r3 : W2.cell? ⟨wr.heap.size, 3, none⟩ = some (.int .i64 x.leave) := by rw [hW2]; exact alloc_cell rfl
   have r4 : W2.cell? ⟨wr.heap.size, 4, none⟩ = some (.int .i64 x.out) := by rw [hW2]; exact alloc_cell rfl
   clear hW2 c0 c1 c2 c3 c4
   have Htb := hI (show timesB x = (isTm x.pr && isTm x.tin && isTm x.leave && isTm x.out) from rfl)
   cases hN : nameB x.who
   ·have HV := hI (show diveErr l i = 5 by rw [HDv.out, hN]; rfl)
    have HE := hI (HBad.out 5 W2 (by rw [Hat.out (by rw [HV.out]; decide), HV.out]) (by decide) HA2.out)
    go_wp2_with (go_at_call 106; refine (isName_any x.who hws _).mono ?_; rintro e w' ⟨rfl, rfl⟩)
    refine bodyPost_ret (v := .tuple #[.slice none 0 0, .int .i64 5]) (by simp [results, Tryz.results46, go_sem]) rfl HE.out
   cases h1 : isTm x.pr
   ·have HV := hI (show diveErr l i = 1 by rw [HDv.out, hN, Htb.out, h1]; rfl)
    have HE := hI (HBad.out 1 W2 (by rw [Hat.out (by rw [HV.out]; decide), HV.out]) (by decide) HA2.out)
    go_wp2_with (first | (go_at_call 106; refine (isName_any x.who hws _).mono ?_; rintro e w' ⟨rfl, rfl⟩) | (go_at_call 70; refine (isTime_any _ _).mono ?_; rintro e w' ⟨rfl, rfl⟩))
    refine bodyPost_ret (v := .tuple #[.slice none 0 0, .int .i64 1]) (by simp [results, Tryz.results46, go_sem]) rfl HE.out
   cases h2 : isTm x.tin
   ·have HV := hI (show diveErr l i = 1 by rw [HDv.out, hN, Htb.out, h1, h2]; rfl)
    have HE := hI (HBad.out 1 W2 (by rw [Hat.out (by rw [HV.out]; decide), HV.out]) (by decide) HA2.out)
    go_wp2_with (first | (go_at_call 106; refine (isName_any x.who hws _).mono ?_; rintro e w' ⟨rfl, rfl⟩) | (go_at_call 70; refine (isTime_any _ _).mono ?_; rintro e w' ⟨rfl, rfl⟩))
    refine bodyPost_ret (v := .tuple #[.slice none 0 0, .int .i64 1]) (by simp [results, Tryz.results46, go_sem]) rfl HE.out
   cases h3 : isTm x.leave
   ·have HV := hI (show diveErr l i = 1 by rw [HDv.out, hN, Htb.out, h1, h2, h3]; rfl)
    have HE := hI (HBad.out 1 W2 (by rw [Hat.out (by rw [HV.out]; decide), HV.out]) (by decide) HA2.out)
    go_wp2_with (first | (go_at_call 106; refine (isName_any x.who hws _).mono ?_; rintro e w' ⟨rfl, rfl⟩) | (go_at_call 70; refine (isTime_any _ _).mono ?_; rintro e w' ⟨rfl, rfl⟩))
    refine bodyPost_ret (v := .tuple #[.slice none 0 0, .int .i64 1]) (by simp [results, Tryz.results46, go_sem]) rfl HE.out
   cases h4 : isTm x.out
   ·have HV := hI (show diveErr l i = 1 by rw [HDv.out, hN, Htb.out, h1, h2, h3, h4]; rfl)
    have HE := hI (HBad.out 1 W2 (by rw [Hat.out (by rw [HV.out]; decide), HV.out]) (by decide) HA2.out)
    go_wp2_with (first | (go_at_call 106; refine (isName_any x.who hws _).mono ?_; rintro e w' ⟨rfl, rfl⟩) | (go_at_call 70; refine (isTime_any _ _).mono ?_; rintro e w' ⟨rfl, rfl⟩))
    refine bodyPost_ret (v := .tuple #[.slice none 0 0, .int .i64 1]) (by simp [results, Tryz.results46, go_sem]) rfl HE.out
   have HV := hI (show diveErr l i = (if 0 < i /\ x.tin < (l.getD (i - 1) default).tin then 8 else 0) by rw [HDv.out, hN, Htb.out, h1, h2, h3, h4]; rfl)
   by_cases hi0 : 0 < i
   ·have hil1 : i - 1 < l.length := by omega
    have d2 : W2.cell? ⟨b, off + (i - 1) * 5 + 2, none⟩ = some (.int .i64 l[i - 1].tin) := (HB2.out.cell (p := ⟨b, off + (i - 1) * 5 + 2, none⟩) hbw).trans (hcells (i - 1) hil1 2 _ rfl)
    rw [getD_lt hil1] at HV
    generalize l[i - 1].tin = y at d2 HV
    clear hcells
    cases hc9 : decide (x.tin < y)
    ·have Hnx := hI (show firstErr (diveErr l) (i + 1) = 0 by rw [firstErr_succ Hf.out, HV.out, if_neg (fun h => absurd h.2 (of_decide_eq_false hc9))])
     go_wp2_with (first | (go_at_call 106; refine (isName_any x.who hws _).mono ?_; rintro e w' ⟨rfl, rfl⟩) | (go_at_call 70; refine (isTime_any _ _).mono ?_; rintro e w' ⟨rfl, rfl⟩))
     go_quiet (fail)
     have HB3 := hI (below_drewN (B := W0.heap.size) HA2.out nq)
     go_wp2
     go_roundw
     case rel => exact ⟨i + 1, by omega, by go_num, HB3, Hnx⟩
     case measure => simp [intOf]; omega
    ·have HV8 := hI (show diveErr l i = 8 by rw [HV.out, if_pos ⟨hi0, of_decide_eq_true hc9⟩])
     go_wp2_with (first | (go_at_call 106; refine (isName_any x.who hws _).mono ?_; rintro e w' ⟨rfl, rfl⟩) | (go_at_call 70; refine (isTime_any _ _).mono ?_; rintro e w' ⟨rfl, rfl⟩))
     go_quiet (fail)
     have HE := hI (HBad.out 8 (W2.drewN nq) (by rw [Hat.out (by rw [HV8.out]; decide), HV8.out]) (by decide) (below_drewN HA2.out nq))
     go_wp2
     refine bodyPost_ret (v := .tuple #[.slice none 0 0, .int .i64 8]) (by simp [results, Tryz.results46, go_sem]) rfl HE.out
   ·have Hnx := hI (show firstErr (diveErr l) (i + 1) = 0 by rw [firstErr_succ Hf.out, HV.out, if_neg (fun h => hi0 h.1)])
    obtain rfl : i = 0 := by omega
    clear hcells hi0
    go_wp2_with (first | (go_at_call 106; refine (isName_any x.who hws _).mono ?_; rintro e w' ⟨rfl, rfl⟩) | (go_at_call 70; refine (isTime_any _ _).mono ?_; rintro e w' ⟨rfl, rfl⟩))
    go_quiet (fail)
    have HB3 := hI (below_drewN (B := W0.heap.size) HA2.out nq)
    go_wp2
    go_roundw
    case rel => exact ⟨1, by omega, by go_num, HB3, Hnx⟩
    case measure => simp [intOf]; omega
  ·have hfin : firstErr (diveErr l) l.length = 0 := by
    have h1 : i = l.length := by have := Hn.out; omega
    rw [<- h1]; exact Hf.out
   have HE0 := hI (show faultsErr t l = 0 from HF2.out.trans hfin)
   have HFv := hI (show faultsV t l = (List.range l.length).map (faultAt t l) by unfold faultsV; rw [if_pos HE0.out])
   have Hok := hI (ok_of_dives (l := l) hfin)
   have Hb9 := hI Hb.out
   clear hfin Hf Hb
   go_wp2
   go_loopw [9, 71] (fun v9 v71 wq => ∃ j : Nat, j <= n /\ v71 = .int .i64 j /\ Hid (Below W0.heap.size W0 wq) /\ Hid (wq.ownsRow W0.heap.size 90 1 v9 j (((List.range j).map (faultAt t l)).map (Value.int .u8)))) (fun _ v71 _ => n - (intOf v71).toNat)
   case atStart => exact ⟨0, by omega, rfl, Hb9, hI (World.ownsRow_nil _ _ _ _)⟩
   case round =>
    obtain ⟨j, hj, rfl, Hb, Ho⟩ := hrel
    have hsr9 := Hb.out.size
    by_cases hlt2 : j < n
    ·have hjl : j < l.length := by have := Hn.out; omega
     have hT := (HT.out wr Hb.out)
     have HT9 := hI hT.1
     have HS := hI (stays_any t l A n c j B wr Hn.out hT.2 (by omega) (by omega) hnc hc hlt2)
     unfold tabV at HS
     obtain ⟨q0, q1, q2⟩ := HQ0.out wr Hb.out
     clear hT
     go_wp2_with (go_at_call 108; fail)
     refine HS.out.mono ?_
     rintro e w3 ⟨d, A', m, c', hd, hm, rfl, ho3, hb3⟩
     have hs3 := hb3.size
     have Hm := hI hm
     have hml : m <= 1000000 := by have h1 := ahead_len l j d.who; omega
     have Hd := hI (show l.getD j default = d by rw [getD_lt hjl]; rw [List.getElem?_eq_getElem hjl] at hd; exact Option.some.inj hd)
     have hdm : d ∈ l := List.mem_of_getElem? hd
     have HD := hI (Hok.out d hdm)
     have Hal := hI (show ∀ x ∈ aheadOf l j d.who, OkDive x from fun x hx => Hok.out x (by
      unfold aheadOf at hx
      exact List.mem_of_mem_take (List.mem_filter.1 hx).1))
     have HSl := hI (show Sl w3 w3.heap.size 5 encDive A' (aheadOf l j d.who) from sl_own2 lenDi (base := wr.heap.size) (e := 84) (c := c') (by rw [<- Hm.out]; exact ho3))
     have HFa := hI (fault_any t d (aheadOf l j d.who) A' m c' w3.heap.size w3 ((HT9.out.below (hb3.mono (by omega))).mono (by omega)) htl Hm.out HSl.out (fun h => own_none ho3 h) (Nat.le_refl _) HD.out Hal.out hml)
     have Hv := hI (show faultAt t l j = faultN t (aheadOf l j d.who) d by unfold faultAt; rw [Hd.out])
     rw [<- Hv.out] at HFa
     have Hb3 := hI (Hb.out.trans (hb3.mono hsr9))
     have Ho3 := hI (own_below Ho.out hb3)
     clear hd hm ho3 hb3 hdm HS q0 q1 q2
     go_wp2_with (go_at_call 107; fail)
     refine HFa.out.mono ?_
     rintro e w4 ⟨rfl, hb4⟩
     have hs4 := hb4.size
     have Hb4 := hI (Hb3.out.trans (hb4.mono (by omega)))
     have Ho4 := hI (own_below Ho3.out hb4)
     have hbs : W0.heap.size <= w4.heap.size := by omega
     have Hnx := hI (show ((List.range (j + 1)).map (faultAt t l)).map (Value.int .u8) = ((List.range j).map (faultAt t l)).map (Value.int .u8) ++ [.int .u8 (faultAt t l j)] by rw [List.range_succ]; simp)
     generalize faultAt t l j = fv at Hnx
     clear hb4
     go_wp2_with (at_builtin; refine wpList_append1 rfl _ _ 79 rfl W0.heap.size 90 _ 1 1 elemAf _ _ _ rfl Ho4.out #[.int .u8 fv] 1 _ rfl (by first | simp | omega) rfl (by simp [Value.oneCell']) (by omega) (by omega) ?_; intro v6 w6 hown6 hb6 hsz6 hg6 hblk6; have Ho6 := hI hown6; have Hb6 := hI hb6; clear hown6 hb6 hsz6 hg6 hblk6)
     go_roundw
     case rel => exact ⟨j + 1, by omega, by go_num, hI (Hb4.out.trans Hb6.out), hI (by rw [Hnx.out]; exact Ho6.out)⟩
     case measure => simp [intOf]; omega
    ·have hjn : j = l.length := by have := Hn.out; omega
     have Ho9 := hI (show wr.ownsRow w.heap.size 90 1 u9 (faultsV t l).length ((faultsV t l).map (Value.int .u8)) by
      rw [HFv.out, List.length_map, List.length_range, <- hjn]
      exact own_mono Ho.out (by omega))
     clear hjn
     go_wp2
     refine bodyPost_ret (v := .tuple #[u9, .int .i64 0]) (by simp [results, Tryz.results46, go_sem]) rfl ?_
     exact ⟨u9, by rw [HE0.out], Ho9.out, HU.out wr Hb.out⟩
end Go.Proofs.YtjpgnfekbojcaaaGreat
namespace W7
open Go Go.RowKit
theorem bc {X : World} {g j : Nat} {cs : Array Value} {T : TypeId} {fz : Nat × Nat} {v : Value} (h : X.heap[g]? = some (.cells cs T fz)) (hj : cs[j]? = some v) : X.cell? ⟨g, j, none⟩ = some v := by
 simp only [World.cell?, h]
 exact hj
theorem bf {X : World} {g j : Nat} {cs : Array Value} {T : TypeId} (h : X.heap[g]? = some (.cells cs T (0, 0))) : X.frozen? ⟨g, j, none⟩ = false := by
 simp [World.frozen?, h]
theorem blk_lt {X : World} {g : Nat} {o : Obj} (h : X.heap[g]? = some o) : g < X.heap.size := (Array.getElem?_eq_some_iff.1 h).1
theorem blk_set {X : World} {g j : Nat} {cs : Array Value} {T : TypeId} {fz : Nat × Nat} (h : X.heap[g]? = some (.cells cs T fz)) (v : Value) : (X.setCell ⟨g, j, none⟩ v).heap[g]? = some (.cells (cs.setIfInBounds j v) T fz) := by
 simp [World.setCell, Array.getElem?_modify, h]
theorem blk_set_ne {X : World} {g b j : Nat} (hne : b ≠ g) (v : Value) : (X.setCell ⟨b, j, none⟩ v).heap[g]? = X.heap[g]? := Below.heap_setCell _ _ _ _ (Ne.symm hne)
theorem add_off (g q : Nat) : (⟨g, 0, none⟩ : Addr).add q = ⟨g, q, none⟩ := by unfold Addr.add; split <;> simp_all
theorem BlkAt.src {W X : World} {g size : Nat} {cs : Array Value} (h : BlkAt W X g cs.toList) (hs : cs.size = size) : Src X size (some ⟨g, 0, none⟩) 1 cs.toList :=
 .inr ⟨_, rfl, by simp [hs], fun q u hu => by rw [add_off]; exact h.cell q u hu⟩
theorem boxes1 (w : World) (o : Obj) : ∃ W : World, Hid (W = w.alloc o) /\ W.heap.size = w.heap.size + 1 /\ Hid (Below w.heap.size w W) /\ Hid (∀ X : World, Below W.heap.size W X -> X.heap[w.heap.size]? = some o) /\ Hid (∀ X : World, Below W.heap.size W X -> Below w.heap.size w X) := by
 have hs : (w.alloc o).heap.size = w.heap.size + 1 := by simp
 have hb : Below w.heap.size w (w.alloc o) := (Below.refl _ _).alloc (Nat.le_refl _) _
 exact ⟨_, hI rfl, hs, hI hb, hI (fun X hX => (hX.block _ (by omega)).trans (heap_alloc_new w o)), hI (fun X hX => hb.trans (hX.mono (by omega)))⟩
theorem boxes2 (w : World) (o o' : Obj) : ∃ W : World, Hid (W = (w.alloc o).alloc o') /\ W.heap.size = w.heap.size + 2 /\ Hid (Below w.heap.size w W) /\ Hid (∀ X : World, Below W.heap.size W X -> X.heap[w.heap.size]? = some o) /\ Hid (∀ X : World, Below W.heap.size W X -> X.heap[w.heap.size + 1]? = some o') /\ Hid (∀ X : World, Below W.heap.size W X -> Below w.heap.size w X) := by
 have hs : (w.alloc o).heap.size = w.heap.size + 1 := by simp
 have hs2 : ((w.alloc o).alloc o').heap.size = w.heap.size + 2 := by simp
 have hb : Below w.heap.size w ((w.alloc o).alloc o') := ((Below.refl _ _).alloc (Nat.le_refl _) _).alloc (by omega) _
 exact ⟨_, hI rfl, hs2, hI hb, hI (fun X hX => (hX.block _ (by omega)).trans ((Below.heap_alloc _ _ _ (by omega)).trans (heap_alloc_new w o))), hI (fun X hX => (hX.block _ (by omega)).trans (by have h := heap_alloc_new (w.alloc o) o'; rwa [hs] at h)), hI (fun X hX => hb.trans (hX.mono (by omega)))⟩
end W7
