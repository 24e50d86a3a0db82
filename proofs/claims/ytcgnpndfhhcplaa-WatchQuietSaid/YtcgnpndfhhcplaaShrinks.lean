/-
  The law WatchShrinks answers true. Conditions: how its arguments lie in memory.
-/
import Derived.Test.YtcgnpndfhhcplaaInside
import Derived.Test.YtcgnpndfhhcplaaWakes
namespace Go.Proofs.Ytcgnpndfhhcplaa
open Go.RowKit W7
attribute [local go_sem] Oper.semAt_some
theorem checkedE_sub {q : Quantity} {l l' : List Reading} (h : checkedE q l = 0) (hs : ∀ r ∈ l', r ∈ l) (hl : l'.length ≤ 64) : checkedE q l' = 0 := by
  obtain ⟨h1, _, h3⟩ := checkedE_zero h
  unfold checkedE
  rw [if_pos h1, if_pos hl]
  refine firstErr_zero.2 fun i hi => ?_
  unfold rErrAt
  rw [getD_mem _ _ hi]
  exact h3 _ (hs _ (List.getElem_mem _))
theorem elemR : Elem Try.prog 27 43 (.agg #[.int .i64 0, .int .i64 0, .int .i64 0]) 3 24 := Elem.mk' Try.underlying27 (by kernel_rfl) rfl (by decide) (by decide)
theorem oneR (l : List Reading) : ∀ u ∈ l.flatMap encR, u.oneCell' = true := by
  intro u hu
  simp only [List.mem_flatMap, encR] at hu
  obtain ⟨x, _, hx⟩ := hu
  simp at hx
  rcases hx with rfl | rfl | rfl <;> rfl
theorem addr_add (b o j : Nat) : (⟨b, o, none⟩ : Addr).add j = ⟨b, o + j, none⟩ := by unfold Addr.add; split <;> simp_all
theorem src_sub {w : World} {b off : Nat} {l : List Reading} (hc : ∀ i (h : i < l.length) j v, (encR l[i])[j]? = some v → w.cell? ⟨b, off + i * 3 + j, none⟩ = some v) (i m : Nat) (h : i + m ≤ l.length) :
    Src w 3 (some ⟨b, off + i * 3, none⟩) m (((l.drop i).take m).flatMap encR) := by
  refine .inr ⟨_, rfl, ?_, fun j u hu => ?_⟩
  · rw [flatMap_len (enc := encR) (k := 3) (fun _ => rfl)]; simp; omega
  · have hlen : ((l.drop i).take m).length = m := by simp; omega
    have hj : j < m * 3 := by
      rcases Nat.lt_or_ge j (m * 3) with h1 | h1
      · exact h1
      · rw [List.getElem?_eq_none (by rw [flatMap_len (enc := encR) (k := 3) (fun _ => rfl), hlen]; exact h1)] at hu; cases hu
    have e1 : j = j / 3 * 3 + j % 3 := by omega
    have hd : j / 3 < ((l.drop i).take m).length := by rw [hlen]; omega
    have hg := flatMap_get (enc := encR) (k := 3) (fun _ => rfl) ((l.drop i).take m) (j / 3) (j % 3) hd (by omega)
    rw [← e1, hu] at hg
    have e2 : ((l.drop i).take m)[j / 3] = l[i + j / 3]'(by omega) := by simp
    rw [e2] at hg
    have := hc (i + j / 3) (by omega) (j % 3) u hg.symm
    have e0 : (⟨b, off + i * 3, none⟩ : Addr).add j = ⟨b, off + (i + j / 3) * 3 + j % 3, none⟩ := by
      have e3 : off + i * 3 + j = off + (i + j / 3) * 3 + j % 3 := by omega
      rw [addr_add, e3]
    rw [e0]; exact this
theorem cell_set_off {w : World} {b o o' : Nat} {v : Value} (h : o ≠ o') : (w.setCell ⟨b, o', none⟩ v).cell? ⟨b, o, none⟩ = w.cell? ⟨b, o, none⟩ := World.cell?_setCell_other w _ _ v (by first | (simp; done) | (simp; omega))
theorem elemG : Elem Try.prog 24 45 (.agg #[.string ByteArray.empty, .int .i64 0, .int .i64 0, .int .i64 0]) 4 40 := Elem.mk' Try.underlying24 (by kernel_rfl) rfl (by decide) (by decide)
theorem oneG (l : List Gauge) : ∀ u ∈ l.flatMap encG, u.oneCell' = true := by
  intro u hu
  simp only [List.mem_flatMap, encG] at hu
  obtain ⟨x, _, hx⟩ := hu
  simp at hx
  rcases hx with rfl | rfl | rfl | rfl <;> rfl
/-- a gauge, more accurate -/
def fineG (g : Gauge) (a : Int) : Gauge := ⟨g.name, a, g.drift, g.since⟩
theorem encG_set : ∀ (l : List Gauge) (i : Nat) (hi : i < l.length) (a : Int), (l.flatMap encG).set (i * 4 + 1) (.int .i64 a) = (l.set i (fineG l[i] a)).flatMap encG
  | [], _, h, _ => absurd h (by simp)
  | x :: l, 0, _, a => rfl
  | x :: l, i + 1, h, a => by
    have ih := encG_set l i (by simpa using h) a
    show ([Value.string x.name, .int .i64 x.acc, .int .i64 x.drift, .int .i64 x.since] ++ l.flatMap encG).set ((i + 1) * 4 + 1) _ = [Value.string x.name, .int .i64 x.acc, .int .i64 x.drift, .int .i64 x.since] ++ (l.set i _).flatMap encG
    rw [show (i + 1) * 4 + 1 = (i * 4 + 1) + 1 + 1 + 1 + 1 by omega]
    simp only [List.cons_append, List.nil_append, List.set_cons_succ]
    rw [ih]; rfl
theorem gErrAt_eq {l l' : List Gauge} (hn : l.map (·.name) = l'.map (·.name)) (i : Nat) (hi : i < l.length) (h : gErrAt l i = 0) (hg : gaugeB (l'.getD i default) = true) : gErrAt l' i = 0 := by
  have hlen : l.length = l'.length := by have := congrArg List.length hn; simpa using this
  have hnm : (l.getD i default).name = (l'.getD i default).name := by
    rw [getD_mem _ _ hi, getD_mem _ _ (by omega)]
    have h1 : (l.map (·.name))[i]? = (l'.map (·.name))[i]? := by rw [hn]
    simpa [List.getElem?_eq_getElem hi, List.getElem?_eq_getElem (show i < l'.length by omega)] using h1
  have hany : ∀ (m : List Gauge) (P : ByteArray → Bool), (m.any fun x => P x.name) = (m.map (·.name)).any P := fun m P => by rw [List.any_map]; rfl
  unfold gErrAt at h ⊢
  rw [← hnm]
  split at h
  case isFalse => exact absurd h (by decide)
  rename_i h1
  rw [if_pos h1]
  split at h
  case isTrue => exact absurd h (by decide)
  rename_i h2
  have h3 : ((l'.take i).any fun x => strEq x.name (l.getD i default).name) = false := by
    rw [hany (l'.take i) (fun y => strEq y (l.getD i default).name), List.map_take, ← hn, ← List.map_take, ← hany (l.take i) (fun y => strEq y (l.getD i default).name)]
    simpa using h2
  rw [h3, if_neg (by decide), if_pos hg]
theorem map_name_set (l : List Gauge) (i : Nat) (hi : i < l.length) (a : Int) : (l.set i (fineG l[i] a)).map (·.name) = l.map (·.name) := by
  rw [List.map_set]
  have : (fineG l[i] a).name = (l.map (·.name))[i]'(by simpa using hi) := by simp [fineG]
  rw [this, List.set_getElem_self]
theorem checkQB_of {q q' : Quantity} (hlo : q'.lo = q.lo) (hhi : q'.hi = q.hi) (hr : q'.rise = q.rise) (hf : q'.fall = q.fall) (hl : q'.gs.length = q.gs.length) (hb : 0 ≤ q'.bad ∧ q'.bad ≤ q'.gs.length) (hg : gErr q'.gs = 0) (h : checkQB q = 0) : checkQB q' = 0 := by
  unfold checkQB at h ⊢
  split at h
  case isFalse => exact absurd h (by decide)
  rename_i h1
  split at h
  case isFalse => exact absurd h (by decide)
  rename_i h2
  split at h
  case isFalse => exact absurd h (by decide)
  rename_i h3
  rw [hlo, hhi, hr, hf, hl, if_pos h1, if_pos h2, if_pos h3, if_pos (withinB_true.2 (by rw [hl] at hb; exact hb))]
  exact hg
theorem checkQB_gErr {q : Quantity} (h : checkQB q = 0) : gErr q.gs = 0 := by
  unfold checkQB at h
  split at h
  case isFalse => exact absurd h (by decide)
  split at h
  case isFalse => exact absurd h (by decide)
  split at h
  case isFalse => exact absurd h (by decide)
  split at h
  case isFalse => exact absurd h (by decide)
  exact h
theorem checkedE_of {q q' : Quantity} {l : List Reading} (hn : q'.name = q.name) (hl : q'.gs.length = q.gs.length) (hq : checkQB q = 0 → checkQB q' = 0) (h : checkedE q l = 0) : checkedE q' l = 0 := by
  obtain ⟨h1, h2, h3⟩ := checkedE_zero h
  obtain ⟨h4, h5⟩ := qsErr_zero h1
  unfold checkedE
  rw [if_pos (by rw [qsErr_one, hn, if_pos h4]; exact hq h5), if_pos h2]
  refine firstErr_zero.2 fun i hi => ?_
  unfold rErrAt
  rw [getD_mem _ _ hi]
  have := h3 _ (List.getElem_mem hi)
  unfold rErr at this ⊢
  rw [hl]; exact this
def wideQ (q : Quantity) : Quantity := { q with bad := q.bad + 1 }
def fineQ (q : Quantity) (A : Option Addr) (c i : Nat) (hi : i < q.gs.length) : Quantity := { q with gA := A, gc := c, gs := q.gs.set i (fineG q.gs[i] (q.gs[i].acc.tdiv 2)) }
theorem wide_ok {q : Quantity} {l : List Reading} (hb : q.bad < q.gs.length) (h : checkedE q l = 0) : checkedE (wideQ q) l = 0 :=
  checkedE_of (q := q) (q' := wideQ q) rfl rfl (fun hq => checkQB_of (q := q) (q' := wideQ q) rfl rfl rfl rfl rfl ⟨by have := (goodQ q hq).2.2.2.2.2.2.1; simp only [wideQ]; omega, by simp only [wideQ]; omega⟩ (show gErr (wideQ q).gs = 0 from checkQB_gErr (q := q) hq) hq) h
theorem tdiv2 {a : Int} (h : 0 ≤ a) : 0 ≤ a.tdiv 2 ∧ a.tdiv 2 ≤ a := by
  rw [Int.tdiv_eq_ediv_of_nonneg h]; omega
theorem fine_ok {q : Quantity} {l : List Reading} {A : Option Addr} {c i : Nat} {hi : i < q.gs.length} (h : checkedE q l = 0) : checkedE (fineQ q A c i hi) l = 0 := by
  have hl : (fineQ q A c i hi).gs.length = q.gs.length := by simp [fineQ]
  refine checkedE_of (q := q) (q' := fineQ q A c i hi) rfl hl (fun hq => ?_) h
  obtain ⟨_, _, _, _, _, _, hb, hg⟩ := goodQ q hq
  refine checkQB_of (q := q) (q' := fineQ q A c i hi) rfl rfl rfl rfl hl (by rw [hl]; exact hb) ?_ hq
  refine firstErr_zero.2 fun k hk => ?_
  have hk' : k < q.gs.length := by rw [← hl]; exact hk
  refine gErrAt_eq (l := q.gs) (map_name_set q.gs i hi _).symm k hk' (firstErr_zero.1 (checkQB_gErr hq) k hk') ?_
  show gaugeB ((fineQ q A c i hi).gs.getD k default) = true
  rw [getD_mem _ _ hk]
  have hgk := hg q.gs[k] (List.getElem_mem hk')
  have hgi := hg q.gs[i] (List.getElem_mem hi)
  have ht := tdiv2 hgi.1
  simp only [fineQ, List.getElem_set]
  split
  · simp only [gaugeB, fineG, Bool.and_eq_true, isTm_true, withinB_true]; omega
  · simp only [gaugeB, Bool.and_eq_true, isTm_true, withinB_true]; omega
theorem devi_acc {g : Gauge} {a t : Int} (h : a ≤ g.acc) : devi (fineG g a) t ≤ devi g t := by
  unfold devi fineG; simp only; split <;> omega
theorem fine_devi {q : Quantity} {l : List Reading} {A : Option Addr} {c i : Nat} {hi : i < q.gs.length} (hg : Good q l) : ∀ r ∈ l, devi ((fineQ q A c i hi).gs.getD r.g.toNat default) r.t ≤ devi (q.gs.getD r.g.toNat default) r.t := by
  intro r hr
  have h1 := hg.r r hr
  have hk : r.g.toNat < q.gs.length := by omega
  rw [getD_mem _ _ hk, getD_mem _ _ (by simp [fineQ]; exact hk)]
  simp only [fineQ, List.getElem_set]
  split
  · rename_i e
    subst e
    exact devi_acc (tdiv2 (hg.g _ (List.getElem_mem hk)).1).2
  · exact Int.le_refl _
theorem src_subG {w : World} {b off : Nat} {l : List Gauge} (hc : ∀ i (h : i < l.length) j v, (encG l[i])[j]? = some v → w.cell? ⟨b, off + i * 4 + j, none⟩ = some v) :
    Src w 4 (some ⟨b, off, none⟩) l.length (l.flatMap encG) := by
  refine .inr ⟨_, rfl, flatMap_len (enc := encG) (k := 4) (fun _ => rfl) l, fun j u hu => ?_⟩
  have hj : j < l.length * 4 := by
    rcases Nat.lt_or_ge j (l.length * 4) with h1 | h1
    · exact h1
    · rw [List.getElem?_eq_none (by rw [flatMap_len (enc := encG) (k := 4) (fun _ => rfl)]; exact h1)] at hu; cases hu
  have e1 : j = j / 4 * 4 + j % 4 := by omega
  have hg := flatMap_get (enc := encG) (k := 4) (fun _ => rfl) l (j / 4) (j % 4) (by omega) (by omega)
  rw [← e1, hu] at hg
  have := hc (j / 4) (by omega) (j % 4) u hg.symm
  have e3 : off + j = off + j / 4 * 4 + j % 4 := by omega
  rw [addr_add, e3]; exact this
set_option maxHeartbeats 1000000 in
set_option maxRecDepth 100000 in
theorem Shrinks_any (q : Quantity) (l : List Reading) (t which : Int) (A : Option Addr) (c : Nat) (w : World) (hq : QIn w w.heap.size q) (hA : Sl w w.heap.size 3 encR A l) (hlc : l.length ≤ c) (hc : c ≤ 9223372036854775807) :
    Calls Try.prog 4 #[.agg #[.string q.name, .int .i64 q.lo, .int .i64 q.hi, .int .i64 q.rise, .int .i64 q.fall, .int .i64 q.bad, .slice q.gA q.gs.length q.gc], .slice A l.length c, .int .i64 t, .int .i64 which] w fun e w' => e = .returned (.bool true) ∧ Below w.heap.size w w' := by
  obtain ⟨cs, hcs⟩ : ∃ cs : Array Value, cs = #[.string q.name, .int .i64 q.lo, .int .i64 q.hi, .int .i64 q.rise, .int .i64 q.fall, .int .i64 q.bad, .slice q.gA q.gs.length q.gc] := ⟨_, rfl⟩
  obtain ⟨W0, hW0⟩ : ∃ W0, W0 = w.alloc (.cells cs 26) := ⟨_, rfl⟩
  have HB0 := Lib.hid (show Below w.heap.size w W0 by rw [hW0]; exact (Below.refl w.heap.size w).alloc (Nat.le_refl _) _)
  have Hs0 := Lib.hid (show W0.heap.size = w.heap.size + 1 by rw [hW0]; simp)
  have hs0 : w.heap.size < W0.heap.size := by have := Hs0.out; omega
  have Hc0 := Lib.hid (show ∀ j v, cs[j]? = some v → ∀ X, Below W0.heap.size W0 X → X.cell? ⟨w.heap.size, j, none⟩ = some v from fun j v hv X hX => (hX.cell (p := ⟨w.heap.size, j, none⟩) hs0).trans (by rw [hW0]; exact alloc_cell hv))
  have Hq := Lib.hid (fun (X : World) (hX : Below W0.heap.size W0 X) => hq.below (HB0.out.trans (hX.mono (Nat.le_of_lt hs0))))
  have HA := Lib.hid (fun (X : World) (hX : Below W0.heap.size W0 X) => hA.below (HB0.out.trans (hX.mono (Nat.le_of_lt hs0))))
  have HU := Lib.hid (fun (X : World) (hX : Below W0.heap.size W0 X) => show Below w.heap.size w X from HB0.out.trans (hX.mono (Nat.le_of_lt hs0)))
  have hql := hq.len
  have HM := Lib.hid (much_any q l A c W0 hq.nm hq.len (by omega))
  rw [hcs] at Hc0 hW0
  have HW0 := Lib.hid hW0
  clear hcs hW0 cs hq hA
  have c0 := Hc0.out 0 _ rfl W0 (Below.refl _ _)
  have c1 := Hc0.out 1 _ rfl W0 (Below.refl _ _)
  have c2 := Hc0.out 2 _ rfl W0 (Below.refl _ _)
  have c3 := Hc0.out 3 _ rfl W0 (Below.refl _ _)
  have c4 := Hc0.out 4 _ rfl W0 (Below.refl _ _)
  have c5 := Hc0.out 5 _ rfl W0 (Below.refl _ _)
  have c6 := Hc0.out 6 _ rfl W0 (Below.refl _ _)
  go_enter Try.func4, Try.ntmps4
  go_wp2_with (go_at_call 34; fail)
  rw [← HW0.out]
  refine HM.out.mono ?_
  rintro r w1 ⟨rfl, hb1⟩
  have HB1 := Lib.hid hb1
  have hs1 := hb1.size
  clear hb1 HM c0 c1 c2 c3 c4 c5 c6
  obtain ⟨b0, b1, b2, b3, b4, b5, b6⟩ : w1.cell? ⟨w.heap.size, 0, none⟩ = some (.string q.name) ∧ w1.cell? ⟨w.heap.size, 1, none⟩ = some (.int .i64 q.lo) ∧ w1.cell? ⟨w.heap.size, 2, none⟩ = some (.int .i64 q.hi) ∧ w1.cell? ⟨w.heap.size, 3, none⟩ = some (.int .i64 q.rise) ∧ w1.cell? ⟨w.heap.size, 4, none⟩ = some (.int .i64 q.fall) ∧ w1.cell? ⟨w.heap.size, 5, none⟩ = some (.int .i64 q.bad) ∧ w1.cell? ⟨w.heap.size, 6, none⟩ = some (.slice q.gA q.gs.length q.gc) :=
    ⟨Hc0.out 0 _ rfl w1 HB1.out, Hc0.out 1 _ rfl w1 HB1.out, Hc0.out 2 _ rfl w1 HB1.out, Hc0.out 3 _ rfl w1 HB1.out, Hc0.out 4 _ rfl w1 HB1.out, Hc0.out 5 _ rfl w1 HB1.out, Hc0.out 6 _ rfl w1 HB1.out⟩
  cases hm : muchB q l
  rotate_left
  · go_wp2_with (go_at_call 10; refine (wakes_any _).mono ?_; rintro r w2 ⟨rfl, hb2⟩)
    go_ret
    exact ⟨rfl, (HU.out w1 HB1.out).trans (hb2.mono (by omega))⟩
  cases h0 : ((l.length : Int) == 0)
  rotate_left
  · go_wp2_with (go_at_call 10; refine (wakes_any _).mono ?_; rintro r w2 ⟨rfl, hb2⟩)
    go_ret
    exact ⟨rfl, (HU.out w1 HB1.out).trans (hb2.mono (by omega))⟩
  have Hm := Lib.hid (much_false hm)
  have hl0 : 0 < l.length := by
    simp only [beq_eq_false_iff_ne, ne_eq] at h0
    omega
  have HP1 := Lib.hid (Possible_any q l t A c w.heap.size w1 (Hq.out w1 HB1.out) (HA.out w1 HB1.out) (by omega) hlc hc Hm.out)
  go_wp2_with (go_at_call 34; fail)
  refine HP1.out.mono ?_
  rintro r w2 ⟨va, spa, rfl, hera, hva, hla, hba, howna, hb2⟩
  have HB2 := Lib.hid (HB1.out.trans (hb2.mono hs1))
  have hs2 := hb2.size
  have Hb2 := Lib.hid hb2
  clear hb2 HP1 b0 b1 b2 b3 b4 b5 b6
  obtain ⟨Aa, ca, rfl, hAa⟩ := own_slice howna
  have Howna := Lib.hid howna
  cases he : (possE q l t != 0)
  rotate_left
  · have hsp := hera (by simpa using he)
    subst hsp
    go_wp2_with (go_at_call 10; refine (wakes_any _).mono ?_; rintro r w3 ⟨rfl, hb3⟩)
    go_ret
    exact ⟨rfl, (HU.out w2 HB2.out).trans (hb3.mono (by omega))⟩
  have hE : possE q l t = 0 := by simpa using he
  rw [hE]
  obtain ⟨hce, htm⟩ := possE_zero.1 hE
  have HVa := Lib.hid (hva hE)
  have Hce := Lib.hid hce
  have Htm := Lib.hid htm
  obtain ⟨hgood, h64, hlohi, hbad0, hbadn⟩ := good_of hce
  have HG := Lib.hid hgood
  have h12 := Hm.out h64
  clear he hE hce htm hera hva hgood h0 hm
  have hs2' : W0.heap.size ≤ w2.heap.size := by omega
  have HBx := Lib.hid (fun (X : World) (hX : Below W0.heap.size W0 X) => show X.cell? ⟨w.heap.size, 0, none⟩ = some (.string q.name) ∧ X.cell? ⟨w.heap.size, 1, none⟩ = some (.int .i64 q.lo) ∧ X.cell? ⟨w.heap.size, 2, none⟩ = some (.int .i64 q.hi) ∧ X.cell? ⟨w.heap.size, 3, none⟩ = some (.int .i64 q.rise) ∧ X.cell? ⟨w.heap.size, 4, none⟩ = some (.int .i64 q.fall) ∧ X.cell? ⟨w.heap.size, 5, none⟩ = some (.int .i64 q.bad) ∧ X.cell? ⟨w.heap.size, 6, none⟩ = some (.slice q.gA q.gs.length q.gc) from ⟨Hc0.out 0 _ rfl X hX, Hc0.out 1 _ rfl X hX, Hc0.out 2 _ rfl X hX, Hc0.out 3 _ rfl X hX, Hc0.out 4 _ rfl X hX, Hc0.out 5 _ rfl X hX, Hc0.out 6 _ rfl X hX⟩)
  obtain ⟨kn, hkn, hknl⟩ : ∃ kn : Nat, (wrap64 (which.tmod l.length + l.length)).tmod l.length = (kn : Int) ∧ kn < l.length := by
    have hp : (0 : Int) < l.length := by omega
    have h1 := Int.tmod_lt_of_pos which hp
    have h2 : -(l.length : Int) < which.tmod l.length := Int.lt_tmod_of_pos which hp
    have h3 : wrap64 (which.tmod l.length + l.length) = which.tmod l.length + l.length := IntWalk.wrap64_in _ (by omega)
    have h4 : 0 ≤ (which.tmod l.length + l.length).tmod l.length := Int.tmod_nonneg _ (by omega)
    have h5 := Int.tmod_lt_of_pos (which.tmod l.length + l.length) hp
    rw [h3]
    exact ⟨((which.tmod l.length + l.length).tmod l.length).toNat, by omega, by omega⟩
  obtain ⟨bl, off, rfl, hblw, hlc2⟩ := (HA.out w2 HB2.out) hl0
  have HLc := Lib.hid hlc2
  have hbl2 : bl < w2.heap.size := by omega
  clear hlc2
  go_wp2
  try simp only [hkn]
  have Hkn := Lib.hid hkn
  clear hkn
  obtain ⟨R7, hR7⟩ : ∃ R : (Nat → Bool) → Act → World → Prop, R = fun L a' w' => ∃ (e : Later w2) (v54 v55 v56 v57 v58 v59 v60 v61 v62 : Value), w' = e.w ∧ a' = { tmps := #[.agg #[.string q.name, .int .i64 q.lo, .int .i64 q.hi, .int .i64 q.rise, .int .i64 q.fall, .int .i64 q.bad, .slice q.gA q.gs.length q.gc], .slice (some ⟨bl, off, none⟩) l.length c, .int .i64 t, .int .i64 which, .pointer (some ⟨w.heap.size, 0, none⟩), undef, undef, undef, .bool false, .slice Aa spa.length ca, .int .i64 0, .int .i64 kn, undef, undef, undef, undef, undef, undef, undef, undef, .agg #[.string q.name, .int .i64 q.lo, .int .i64 q.hi, .int .i64 q.rise, .int .i64 q.fall, .int .i64 q.bad, .slice q.gA q.gs.length q.gc], .slice (some ⟨bl, off, none⟩) l.length c, .bool false, .bool false, .slice (some ⟨bl, off, none⟩) l.length c, .int .i64 l.length, .bool false, .bool false, undef, .tuple #[.slice Aa spa.length ca, .int .i64 0], .agg #[.string q.name, .int .i64 q.lo, .int .i64 q.hi, .int .i64 q.rise, .int .i64 q.fall, .int .i64 q.bad, .slice q.gA q.gs.length q.gc], .slice (some ⟨bl, off, none⟩) l.length c, .int .i64 t, .tuple #[.slice Aa spa.length ca, .int .i64 0], .slice Aa spa.length ca, .int .i64 0, .int .i64 0, .bool false, undef, undef, undef, undef, undef, undef, .int .i64 which, .slice (some ⟨bl, off, none⟩) l.length c, .int .i64 l.length, .int .i64 (which.tmod l.length), .slice (some ⟨bl, off, none⟩) l.length c, .int .i64 l.length, .int .i64 (wrap64 (which.tmod l.length + l.length)), .slice (some ⟨bl, off, none⟩) l.length c, .int .i64 l.length, .int .i64 kn, v54, v55, v56, v57, v58, v59, v60, v61, v62, undef, undef, undef, undef, undef, undef, undef, undef, undef, undef, undef, undef, undef, undef, undef, undef, undef, undef, undef, undef, undef, undef, undef, undef, undef, undef, undef, undef, undef, undef, undef, undef, undef, undef, undef, undef, undef, undef, undef, undef, undef, undef, undef, undef, undef, undef, undef, undef, undef, undef, undef, undef, undef, undef, undef, undef, undef, undef, undef, undef, undef, undef, undef, undef, undef, undef, undef, undef, undef, undef, undef, undef, undef, undef, undef, undef, undef, undef, undef, undef, undef, undef], defers := [] } ∧
    (L 0 = true → L 4 = false → Hid (e.w.ownsRow w2.heap.size 43 3 v54 0 [])) ∧ (L 1 = true → v55 = .slice (some ⟨bl, off, none⟩) l.length c) ∧ (L 2 = true → v56 = .int .i64 kn) ∧ (L 3 = true → v57 = .slice (some ⟨bl, off, none⟩) kn c) ∧
    (L 4 = true → Hid (e.w.ownsRow w2.heap.size 43 3 v58 kn ((l.take kn).flatMap encR))) ∧ (L 5 = true → v59 = .slice (some ⟨bl, off, none⟩) l.length c) ∧ (L 6 = true → v60 = .int .i64 kn) ∧ (L 7 = true → v61 = .int .i64 ((kn : Int) + 1)) ∧ (L 8 = true → Hid (∃ A8 c8, v62 = .slice A8 (l.length - (kn + 1)) c8 ∧ Src w2 3 A8 (l.length - (kn + 1)) ((l.drop (kn + 1)).flatMap encR))) := ⟨_, rfl⟩
  have HR := Lib.hid hR7
  clear hR7
  refine wp_region_inv 9 R7 (by kernel_rfl) (by kernel_rfl) (by kernel_rfl) (by kernel_rfl) (by decide) (by kernel_rfl) ?_ ?_ ?_
  · rw [HR.out]
    exact ⟨⟨_, (Below.refl w2.heap.size w2).drew⟩, _, _, _, _, _, _, _, _, _, rfl, rfl, by simp, by simp, by simp, by simp, by simp, by simp, by simp, by simp, by simp⟩
  · rintro L a' w' i o hi ho hLi haf hInv
    rw [HR.out] at hInv
    obtain ⟨e, v54, v55, v56, v57, v58, v59, v60, v61, v62, rfl, rfl, h0, h1, h2, h3, h4, h5, h6, h7, h8⟩ := hInv
    have hse : w2.heap.size ≤ e.w.heap.size := e.b.size
    rcases i with _ | _ | _ | _ | _ | _ | _ | _ | _ | i
    case succ.succ.succ.succ.succ.succ.succ.succ.succ => omega
    all_goals (simp only [List.getElem?_cons_zero, List.getElem?_cons_succ, Option.some.injEq] at ho; subst ho)
    · have Hemp := Lib.hid (World.ownsRow_lit (base := w2.heap.size) (e := 43) (size := 3) e.w #[] 0 hse (by decide) rfl)
      go_wp2
      rw [HR.out]
      exact ⟨⟨_, e.b.alloc hse (.cells #[] 43)⟩, _, _, _, _, _, _, _, _, _, rfl, rfl, fun _ _ => Hemp, fun z => h1 (by simpa using z), fun z => h2 (by simpa using z), fun z => h3 (by simpa using z), fun z => Lib.hid ((h4 (by simpa using z)).out.alloc _), fun z => h5 (by simpa using z), fun z => h6 (by simpa using z), fun z => h7 (by simpa using z), fun z => h8 (by simpa using z)⟩
    · go_wp2
      rw [HR.out]
      exact ⟨e, _, _, _, _, _, _, _, _, _, rfl, rfl, fun z r => h0 (by simpa using z) (by simpa using r), fun _ => rfl, fun z => h2 (by simpa using z), fun z => h3 (by simpa using z), fun z => h4 (by simpa using z), fun z => h5 (by simpa using z), fun z => h6 (by simpa using z), fun z => h7 (by simpa using z), fun z => h8 (by simpa using z)⟩
    · go_wp2
      rw [HR.out]
      exact ⟨e, _, _, _, _, _, _, _, _, _, rfl, rfl, fun z r => h0 (by simpa using z) (by simpa using r), fun z => h1 (by simpa using z), fun _ => rfl, fun z => h3 (by simpa using z), fun z => h4 (by simpa using z), fun z => h5 (by simpa using z), fun z => h6 (by simpa using z), fun z => h7 (by simpa using z), fun z => h8 (by simpa using z)⟩
    · obtain rfl := h1 (haf ⟨1, .data⟩ (by simp) rfl)
      obtain rfl := h2 (haf ⟨2, .data⟩ (by simp) rfl)
      go_wp2
      rw [HR.out]
      exact ⟨e, _, _, _, _, _, _, _, _, _, rfl, rfl, fun z r => h0 (by simpa using z) (by simpa using r), fun _ => rfl, fun _ => rfl, fun _ => rfl, fun z => h4 (by simpa using z), fun z => h5 (by simpa using z), fun z => h6 (by simpa using z), fun z => h7 (by simpa using z), fun z => h8 (by simpa using z)⟩
    · have hown := h0 (haf ⟨0, .data⟩ (by simp) rfl) hLi
      obtain rfl := h3 (haf ⟨3, .data⟩ (by simp) rfl)
      have HS := Lib.hid (show Src e.w 3 (some ⟨bl, off, none⟩) kn ((l.take kn).flatMap encR) by
        have := src_sub (w := e.w) (b := bl) (off := off) (fun i hi j v hv => (e.b.cell (p := ⟨bl, off + i * 3 + j, none⟩) hbl2).trans (HLc.out i hi j v hv)) 0 kn (by omega)
        simpa using this)
      refine wpList_appendL rfl _ _ 27 rfl w2.heap.size 43 _ 3 24 elemR _ _ _ rfl hown.out _ _ _ _ rfl HS.out (oneR _) (by omega) hse ?_
      intro v4 w4 hown4 hb4 hsz4 hg4 hblk4
      rw [HR.out]
      exact ⟨⟨w4, e.b.trans hb4⟩, _, _, _, _, _, _, _, _, _, rfl, rfl, fun z r => (by simp at r), fun z => h1 (by simpa using z), fun z => h2 (by simpa using z), fun _ => rfl, fun _ => Lib.hid (by have h := hown4; rw [Nat.zero_add, List.nil_append] at h; exact h), fun z => h5 (by simpa using z), fun z => h6 (by simpa using z), fun z => h7 (by simpa using z), fun z => h8 (by simpa using z)⟩
    · go_wp2
      rw [HR.out]
      exact ⟨e, _, _, _, _, _, _, _, _, _, rfl, rfl, fun z r => h0 (by simpa using z) (by simpa using r), fun z => h1 (by simpa using z), fun z => h2 (by simpa using z), fun z => h3 (by simpa using z), fun z => h4 (by simpa using z), fun _ => rfl, fun z => h6 (by simpa using z), fun z => h7 (by simpa using z), fun z => h8 (by simpa using z)⟩
    · go_wp2
      rw [HR.out]
      exact ⟨e, _, _, _, _, _, _, _, _, _, rfl, rfl, fun z r => h0 (by simpa using z) (by simpa using r), fun z => h1 (by simpa using z), fun z => h2 (by simpa using z), fun z => h3 (by simpa using z), fun z => h4 (by simpa using z), fun z => h5 (by simpa using z), fun _ => rfl, fun z => h7 (by simpa using z), fun z => h8 (by simpa using z)⟩
    · obtain rfl := h6 (haf ⟨6, .data⟩ (by simp) rfl)
      go_wp2
      rw [HR.out]
      exact ⟨e, _, _, _, _, _, _, _, _, _, rfl, rfl, fun z r => h0 (by simpa using z) (by simpa using r), fun z => h1 (by simpa using z), fun z => h2 (by simpa using z), fun z => h3 (by simpa using z), fun z => h4 (by simpa using z), fun z => h5 (by simpa using z), fun _ => rfl, fun _ => rfl, fun z => h8 (by simpa using z)⟩
    · obtain rfl := h5 (haf ⟨5, .data⟩ (by simp) rfl)
      obtain rfl := h7 (haf ⟨7, .data⟩ (by simp) rfl)
      have HS8 := Lib.hid (show Src w2 3 (some ⟨bl, off + (kn + 1) * 3, none⟩) (l.length - (kn + 1)) ((l.drop (kn + 1)).flatMap encR) by
        have := src_sub (w := w2) (b := bl) (off := off) HLc.out (kn + 1) (l.length - (kn + 1)) (by omega)
        rwa [List.take_of_length_le (by simp)] at this)
      have hb1 : (0 : Int) ≤ (kn : Int) + 1 ∧ (kn : Int) + 1 ≤ (l.length : Int) := by omega
      by_cases hck : c = kn + 1
      · have hl1 : l.length = kn + 1 := by omega
        have HS9 := Lib.hid (show Src w2 3 (some ⟨bl, off, none⟩) (l.length - (kn + 1)) ((l.drop (kn + 1)).flatMap encR) by
          rw [hl1, Nat.sub_self, List.drop_of_length_le (by omega)]; exact .inr ⟨_, rfl, rfl, by simp⟩)
        subst hck
        have Hl1 := Lib.hid hl1
        clear hl1
        go_wp2
        rw [HR.out]
        refine ⟨e, _, _, _, _, _, _, _, _, _, rfl, rfl, fun z r => h0 (by simpa using z) (by simpa using r), fun z => h1 (by simpa using z), fun z => h2 (by simpa using z), fun z => h3 (by simpa using z), fun z => h4 (by simpa using z), fun _ => rfl, fun z => h6 (by simpa using z), fun _ => rfl, fun _ => Lib.hid ⟨some ⟨bl, off, none⟩, 0, by rw [Hl1.out, Nat.sub_self], HS9.out⟩⟩
      · go_wp2
        rw [HR.out]
        refine ⟨e, _, _, _, _, _, _, _, _, _, rfl, rfl, fun z r => h0 (by simpa using z) (by simpa using r), fun z => h1 (by simpa using z), fun z => h2 (by simpa using z), fun z => h3 (by simpa using z), fun z => h4 (by simpa using z), fun _ => rfl, fun z => h6 (by simpa using z), fun _ => rfl, fun _ => Lib.hid ⟨_, _, rfl, HS8.out⟩⟩
  · rintro L a' w' hL hInv
    rw [HR.out] at hInv
    obtain ⟨e, v54, v55, v56, v57, v58, v59, v60, v61, v62, rfl, rfl, h0, h1, h2, h3, h4, h5, h6, h7, h8⟩ := hInv
    have H4 := h4 (hL 4 (by omega))
    obtain ⟨A8, c8, rfl, hs8⟩ := (h8 (hL 8 (by omega))).out
    have HS := Lib.hid (src_later hs8 e.b)
    have hse : w2.heap.size ≤ e.w.heap.size := e.b.size
    clear h0 h1 h2 h3 h4 h5 h6 h7 h8 hL hs8 HR
    refine wpList_appendL rfl _ _ 27 rfl w2.heap.size 43 _ 3 24 elemR _ _ _ rfl H4.out _ _ _ _ rfl HS.out (oneR _) (by omega) hse ?_
    intro v3 w3 hown3 hb3 hsz3 hg3 hblk3
    obtain ⟨l', hl'⟩ : ∃ l' : List Reading, l' = l.take kn ++ l.drop (kn + 1) := ⟨_, rfl⟩
    have hll : kn + (l.length - (kn + 1)) = l'.length := by rw [hl']; simp; omega
    have hown3' : w3.ownsRow w2.heap.size 43 3 v3 l'.length (l'.flatMap encR) := by
      rw [← hll, hl', List.flatMap_append]; exact hown3
    have Hsub := Lib.hid (show ∀ r ∈ l', r ∈ l from fun r hr => by
      rw [hl'] at hr
      rcases List.mem_append.1 hr with h | h
      · exact List.mem_of_mem_take h
      · exact List.mem_of_mem_drop h)
    have hl12 : l'.length ≤ 12 := by omega
    have HB23 := Lib.hid (e.b.trans (hb3.mono (Nat.le_refl _)))
    have HB3 := Lib.hid (HB2.out.trans (HB23.out.mono hs2'))
    have Hown3 := Lib.hid hown3'
    obtain ⟨A3, c3, rfl, hc31, hc32⟩ := own_cap hown3'
    have hs3 := HB23.out.size
    clear hown3 hb3 hsz3 hg3 hblk3 hown3' hl' hll H4 HS
    have HP2 := Lib.hid (Possible_any q l' t A3 c3 w3.heap.size w3 ((Hq.out w3 HB3.out).mono (by omega)) (sl_own (enc := encR) (fun _ => rfl) Hown3.out) (Nat.le_refl _) hc31 hc32 (fun _ => hl12))
    obtain ⟨b0, b1, b2, b3, b4, b5, b6⟩ := HBx.out w3 HB3.out
    go_wp2_with (go_at_call 34; fail)
    have HE2 := Lib.hid (possE_zero.2 ⟨checkedE_sub Hce.out Hsub.out (by omega), Htm.out⟩ : possE q l' t = 0)
    refine HP2.out.mono ?_
    rintro r w4 ⟨vb, spb, rfl, _, hvb, hlb, hbb, hownb, hb4⟩
    rw [HE2.out]
    have HVb := Lib.hid (hvb HE2.out)
    have HB4 := Lib.hid (HB3.out.trans (hb4.mono (by omega)))
    have hs4 := hb4.size
    obtain ⟨Ab, cb, rfl, hcb1, hcb2⟩ := own_cap hownb
    have Hownb := Lib.hid hownb
    have Hb4 := Lib.hid hb4
    clear hownb hvb hb4 HP2 b0 b1 b2 b3 b4 b5 b6
    have HI1 := Lib.hid (show insideB spa spb = true from inside_of HVa.out.1 HVb.out.1 fun x hx => (maybe_iff ((good_of (possE_zero.1 HE2.out).1).1) (isTm_true.1 Htm.out) HVb.out x).2 (maybe_less Hsub.out ((maybe_iff HG.out (isTm_true.1 Htm.out) HVa.out x).1 hx)))
    have HOa4 := Lib.hid (own_below Howna.out (HB23.out.trans (Hb4.out.mono hs3)))
    have HIn1 := Lib.hid (inside_any spa spb Aa Ab ca cb w4.heap.size w4 (sl_own (enc := encSp) (fun _ => rfl) HOa4.out) (sl_own (enc := encSp) (fun _ => rfl) Hownb.out) (Nat.le_refl _) (by omega) (by omega))
    rw [HI1.out] at HIn1
    go_wp2_with (go_at_call 34; fail)
    refine HIn1.out.mono ?_
    rintro r w5 ⟨rfl, hb5⟩
    have HB5 := Lib.hid (HB4.out.trans (hb5.mono (by omega)))
    have HOa5 := Lib.hid (own_below HOa4.out hb5)
    have hs5 := hb5.size
    have Hb5 := Lib.hid hb5
    clear hb5 HIn1
    obtain ⟨b0, b1, b2, b3, b4, b5, b6⟩ := HBx.out w5 HB5.out
    have hws5 : w.heap.size < w5.heap.size := by omega
    cases hbl : decide (q.bad < (q.gs.length : Int))
    · have HsX := Lib.hid (show (w5.alloc (.cells #[.string q.name, .int .i64 q.lo, .int .i64 q.hi, .int .i64 q.rise, .int .i64 q.fall, .int .i64 q.bad, .slice q.gA q.gs.length q.gc] 26)).heap.size = w5.heap.size + 1 by simp)
      have HBX := Lib.hid (show Below W0.heap.size W0 (w5.alloc (.cells #[.string q.name, .int .i64 q.lo, .int .i64 q.hi, .int .i64 q.rise, .int .i64 q.fall, .int .i64 q.bad, .slice q.gA q.gs.length q.gc] 26)) from HB5.out.alloc (by omega) _)
      have HB2X := Lib.hid (show Below w2.heap.size w2 (w5.alloc (.cells #[.string q.name, .int .i64 q.lo, .int .i64 q.hi, .int .i64 q.rise, .int .i64 q.fall, .int .i64 q.bad, .slice q.gA q.gs.length q.gc] 26)) from ((HB23.out.trans (Hb4.out.mono hs3)).trans (Hb5.out.mono (by omega))).alloc (by omega) _)
      have HOaX := Lib.hid (own_below HOa5.out ((Below.refl w5.heap.size w5).alloc (Nat.le_refl _) (.cells #[.string q.name, .int .i64 q.lo, .int .i64 q.hi, .int .i64 q.rise, .int .i64 q.fall, .int .i64 q.bad, .slice q.gA q.gs.length q.gc] 26)))
      have f0 : (w5.alloc (.cells #[.string q.name, .int .i64 q.lo, .int .i64 q.hi, .int .i64 q.rise, .int .i64 q.fall, .int .i64 q.bad, .slice q.gA q.gs.length q.gc] 26)).cell? ⟨bl, off + kn * 3, none⟩ = some (.int .i64 l[kn].g) := (HB2X.out.cell (p := ⟨bl, off + kn * 3 + 0, none⟩) hbl2).trans (HLc.out kn hknl 0 _ rfl)
      have hrg := HG.out.r l[kn] (List.getElem_mem hknl)
      obtain ⟨gn, hgn⟩ : ∃ gn : Nat, l[kn].g = (gn : Int) := ⟨l[kn].g.toNat, by omega⟩
      have hgnl : gn < q.gs.length := by omega
      rw [hgn] at f0
      clear hgn hrg
      obtain ⟨bg, og, hgA, hbgw, hgc⟩ := (Hq.out _ HBX.out).sl (by omega)
      have hgl8 := HG.out.gl
      have Hgc := Lib.hid hgc
      have HgA := Lib.hid hgA
      have hacc := HG.out.g q.gs[gn] (List.getElem_mem hgnl)
      have hsX := HsX.out
      have hwS : w.heap.size < w5.heap.size + 1 := by have := HBX.out.size; omega
      have hbgX : bg < w5.heap.size + 1 := by omega
      have hblX : bl < w5.heap.size + 1 := by have := HB2X.out.size; omega
      have hwS1 : w.heap.size < w5.heap.size + 1 + 1 := by omega
      obtain ⟨B0, B1, B2, B3, B4, B5, B6⟩ := HBx.out _ HBX.out
      clear hgc hgA hsX
      have HEmp : Hid ((((w5.alloc (.cells #[.string q.name, .int .i64 q.lo, .int .i64 q.hi, .int .i64 q.rise, .int .i64 q.fall, .int .i64 q.bad, .slice q.gA q.gs.length q.gc] 26)).alloc (.cells #[.string q.name, .int .i64 q.lo, .int .i64 q.hi, .int .i64 q.rise, .int .i64 q.fall, .int .i64 q.bad, .slice q.gA q.gs.length q.gc] 26)).alloc (.cells #[] 45)).ownsRow (w5.heap.size + 1 + 1) 45 4 (.slice (some ⟨w5.heap.size + 1 + 1, 0, none⟩) 0 0) 0 []) := Lib.hid (by
        have h := World.ownsRow_lit (base := w5.heap.size + 1 + 1) (e := 45) (size := 4) ((w5.alloc (.cells #[.string q.name, .int .i64 q.lo, .int .i64 q.hi, .int .i64 q.rise, .int .i64 q.fall, .int .i64 q.bad, .slice q.gA q.gs.length q.gc] 26)).alloc (.cells #[.string q.name, .int .i64 q.lo, .int .i64 q.hi, .int .i64 q.rise, .int .i64 q.fall, .int .i64 q.bad, .slice q.gA q.gs.length q.gc] 26)) #[] 0 (by rw [World.size_alloc, HsX.out]; omega) (by decide) rfl
        rw [World.size_alloc, HsX.out] at h
        exact h)
      have HbF := Lib.hid (show Below (w5.heap.size + 1) (w5.alloc (.cells #[.string q.name, .int .i64 q.lo, .int .i64 q.hi, .int .i64 q.rise, .int .i64 q.fall, .int .i64 q.bad, .slice q.gA q.gs.length q.gc] 26)) (((w5.alloc (.cells #[.string q.name, .int .i64 q.lo, .int .i64 q.hi, .int .i64 q.rise, .int .i64 q.fall, .int .i64 q.bad, .slice q.gA q.gs.length q.gc] 26)).alloc (.cells #[.string q.name, .int .i64 q.lo, .int .i64 q.hi, .int .i64 q.rise, .int .i64 q.fall, .int .i64 q.bad, .slice q.gA q.gs.length q.gc] 26)).alloc (.cells #[] 45)) from ((Below.refl _ _).alloc (by rw [HsX.out]; omega) _).alloc (by rw [World.size_alloc, HsX.out]; omega) _)
      have HSg := Lib.hid (show Src (((w5.alloc (.cells #[.string q.name, .int .i64 q.lo, .int .i64 q.hi, .int .i64 q.rise, .int .i64 q.fall, .int .i64 q.bad, .slice q.gA q.gs.length q.gc] 26)).alloc (.cells #[.string q.name, .int .i64 q.lo, .int .i64 q.hi, .int .i64 q.rise, .int .i64 q.fall, .int .i64 q.bad, .slice q.gA q.gs.length q.gc] 26)).alloc (.cells #[] 45)) 4 q.gA q.gs.length (q.gs.flatMap encG) by
        have h := src_subG (l := q.gs) (fun i hi j v hv => (HbF.out.cell (p := ⟨bg, og + i * 4 + j, none⟩) hbgX).trans (Hgc.out i hi j v hv))
        rw [← HgA.out] at h
        exact h)
      have HY : Hid ((((w5.alloc (.cells #[.string q.name, .int .i64 q.lo, .int .i64 q.hi, .int .i64 q.rise, .int .i64 q.fall, .int .i64 q.bad, .slice q.gA q.gs.length q.gc] 26)).alloc (.cells #[.string q.name, .int .i64 q.lo, .int .i64 q.hi, .int .i64 q.rise, .int .i64 q.fall, .int .i64 q.bad, .slice q.gA q.gs.length q.gc] 26)).alloc (.cells #[] 45)).cell? ⟨w5.heap.size + 1, 0, none⟩ = some (.string q.name) ∧ (((w5.alloc (.cells #[.string q.name, .int .i64 q.lo, .int .i64 q.hi, .int .i64 q.rise, .int .i64 q.fall, .int .i64 q.bad, .slice q.gA q.gs.length q.gc] 26)).alloc (.cells #[.string q.name, .int .i64 q.lo, .int .i64 q.hi, .int .i64 q.rise, .int .i64 q.fall, .int .i64 q.bad, .slice q.gA q.gs.length q.gc] 26)).alloc (.cells #[] 45)).cell? ⟨w5.heap.size + 1, 1, none⟩ = some (.int .i64 q.lo) ∧ (((w5.alloc (.cells #[.string q.name, .int .i64 q.lo, .int .i64 q.hi, .int .i64 q.rise, .int .i64 q.fall, .int .i64 q.bad, .slice q.gA q.gs.length q.gc] 26)).alloc (.cells #[.string q.name, .int .i64 q.lo, .int .i64 q.hi, .int .i64 q.rise, .int .i64 q.fall, .int .i64 q.bad, .slice q.gA q.gs.length q.gc] 26)).alloc (.cells #[] 45)).cell? ⟨w5.heap.size + 1, 2, none⟩ = some (.int .i64 q.hi) ∧ (((w5.alloc (.cells #[.string q.name, .int .i64 q.lo, .int .i64 q.hi, .int .i64 q.rise, .int .i64 q.fall, .int .i64 q.bad, .slice q.gA q.gs.length q.gc] 26)).alloc (.cells #[.string q.name, .int .i64 q.lo, .int .i64 q.hi, .int .i64 q.rise, .int .i64 q.fall, .int .i64 q.bad, .slice q.gA q.gs.length q.gc] 26)).alloc (.cells #[] 45)).cell? ⟨w5.heap.size + 1, 3, none⟩ = some (.int .i64 q.rise) ∧ (((w5.alloc (.cells #[.string q.name, .int .i64 q.lo, .int .i64 q.hi, .int .i64 q.rise, .int .i64 q.fall, .int .i64 q.bad, .slice q.gA q.gs.length q.gc] 26)).alloc (.cells #[.string q.name, .int .i64 q.lo, .int .i64 q.hi, .int .i64 q.rise, .int .i64 q.fall, .int .i64 q.bad, .slice q.gA q.gs.length q.gc] 26)).alloc (.cells #[] 45)).cell? ⟨w5.heap.size + 1, 4, none⟩ = some (.int .i64 q.fall) ∧ (((w5.alloc (.cells #[.string q.name, .int .i64 q.lo, .int .i64 q.hi, .int .i64 q.rise, .int .i64 q.fall, .int .i64 q.bad, .slice q.gA q.gs.length q.gc] 26)).alloc (.cells #[.string q.name, .int .i64 q.lo, .int .i64 q.hi, .int .i64 q.rise, .int .i64 q.fall, .int .i64 q.bad, .slice q.gA q.gs.length q.gc] 26)).alloc (.cells #[] 45)).cell? ⟨w5.heap.size + 1, 5, none⟩ = some (.int .i64 q.bad) ∧ (((w5.alloc (.cells #[.string q.name, .int .i64 q.lo, .int .i64 q.hi, .int .i64 q.rise, .int .i64 q.fall, .int .i64 q.bad, .slice q.gA q.gs.length q.gc] 26)).alloc (.cells #[.string q.name, .int .i64 q.lo, .int .i64 q.hi, .int .i64 q.rise, .int .i64 q.fall, .int .i64 q.bad, .slice q.gA q.gs.length q.gc] 26)).alloc (.cells #[] 45)).cell? ⟨w5.heap.size + 1, 6, none⟩ = some (.slice q.gA q.gs.length q.gc)) := Lib.hid (by
        have h0 := alloc_cell (w := (w5.alloc (.cells #[.string q.name, .int .i64 q.lo, .int .i64 q.hi, .int .i64 q.rise, .int .i64 q.fall, .int .i64 q.bad, .slice q.gA q.gs.length q.gc] 26))) (cs := #[.string q.name, .int .i64 q.lo, .int .i64 q.hi, .int .i64 q.rise, .int .i64 q.fall, .int .i64 q.bad, .slice q.gA q.gs.length q.gc]) (e := 26) (j := 0) rfl
        have h1 := alloc_cell (w := (w5.alloc (.cells #[.string q.name, .int .i64 q.lo, .int .i64 q.hi, .int .i64 q.rise, .int .i64 q.fall, .int .i64 q.bad, .slice q.gA q.gs.length q.gc] 26))) (cs := #[.string q.name, .int .i64 q.lo, .int .i64 q.hi, .int .i64 q.rise, .int .i64 q.fall, .int .i64 q.bad, .slice q.gA q.gs.length q.gc]) (e := 26) (j := 1) rfl
        have h2 := alloc_cell (w := (w5.alloc (.cells #[.string q.name, .int .i64 q.lo, .int .i64 q.hi, .int .i64 q.rise, .int .i64 q.fall, .int .i64 q.bad, .slice q.gA q.gs.length q.gc] 26))) (cs := #[.string q.name, .int .i64 q.lo, .int .i64 q.hi, .int .i64 q.rise, .int .i64 q.fall, .int .i64 q.bad, .slice q.gA q.gs.length q.gc]) (e := 26) (j := 2) rfl
        have h3 := alloc_cell (w := (w5.alloc (.cells #[.string q.name, .int .i64 q.lo, .int .i64 q.hi, .int .i64 q.rise, .int .i64 q.fall, .int .i64 q.bad, .slice q.gA q.gs.length q.gc] 26))) (cs := #[.string q.name, .int .i64 q.lo, .int .i64 q.hi, .int .i64 q.rise, .int .i64 q.fall, .int .i64 q.bad, .slice q.gA q.gs.length q.gc]) (e := 26) (j := 3) rfl
        have h4 := alloc_cell (w := (w5.alloc (.cells #[.string q.name, .int .i64 q.lo, .int .i64 q.hi, .int .i64 q.rise, .int .i64 q.fall, .int .i64 q.bad, .slice q.gA q.gs.length q.gc] 26))) (cs := #[.string q.name, .int .i64 q.lo, .int .i64 q.hi, .int .i64 q.rise, .int .i64 q.fall, .int .i64 q.bad, .slice q.gA q.gs.length q.gc]) (e := 26) (j := 4) rfl
        have h5 := alloc_cell (w := (w5.alloc (.cells #[.string q.name, .int .i64 q.lo, .int .i64 q.hi, .int .i64 q.rise, .int .i64 q.fall, .int .i64 q.bad, .slice q.gA q.gs.length q.gc] 26))) (cs := #[.string q.name, .int .i64 q.lo, .int .i64 q.hi, .int .i64 q.rise, .int .i64 q.fall, .int .i64 q.bad, .slice q.gA q.gs.length q.gc]) (e := 26) (j := 5) rfl
        have h6 := alloc_cell (w := (w5.alloc (.cells #[.string q.name, .int .i64 q.lo, .int .i64 q.hi, .int .i64 q.rise, .int .i64 q.fall, .int .i64 q.bad, .slice q.gA q.gs.length q.gc] 26))) (cs := #[.string q.name, .int .i64 q.lo, .int .i64 q.hi, .int .i64 q.rise, .int .i64 q.fall, .int .i64 q.bad, .slice q.gA q.gs.length q.gc]) (e := 26) (j := 6) rfl
        rw [HsX.out] at h0 h1 h2 h3 h4 h5 h6
        have hl : ∀ o, (((w5.alloc (.cells #[.string q.name, .int .i64 q.lo, .int .i64 q.hi, .int .i64 q.rise, .int .i64 q.fall, .int .i64 q.bad, .slice q.gA q.gs.length q.gc] 26)).alloc (.cells #[.string q.name, .int .i64 q.lo, .int .i64 q.hi, .int .i64 q.rise, .int .i64 q.fall, .int .i64 q.bad, .slice q.gA q.gs.length q.gc] 26)).alloc (.cells #[] 45)).cell? ⟨w5.heap.size + 1, o, none⟩ = ((w5.alloc (.cells #[.string q.name, .int .i64 q.lo, .int .i64 q.hi, .int .i64 q.rise, .int .i64 q.fall, .int .i64 q.bad, .slice q.gA q.gs.length q.gc] 26)).alloc (.cells #[.string q.name, .int .i64 q.lo, .int .i64 q.hi, .int .i64 q.rise, .int .i64 q.fall, .int .i64 q.bad, .slice q.gA q.gs.length q.gc] 26)).cell? ⟨w5.heap.size + 1, o, none⟩ := fun o => World.cell?_alloc_lt _ _ _ (by rw [World.size_alloc, HsX.out]; simp)
        exact ⟨(hl 0).trans h0, (hl 1).trans h1, (hl 2).trans h2, (hl 3).trans h3, (hl 4).trans h4, (hl 5).trans h5, (hl 6).trans h6⟩)
      have HZ : Hid ((((w5.alloc (.cells #[.string q.name, .int .i64 q.lo, .int .i64 q.hi, .int .i64 q.rise, .int .i64 q.fall, .int .i64 q.bad, .slice q.gA q.gs.length q.gc] 26)).alloc (.cells #[.string q.name, .int .i64 q.lo, .int .i64 q.hi, .int .i64 q.rise, .int .i64 q.fall, .int .i64 q.bad, .slice q.gA q.gs.length q.gc] 26)).alloc (.cells #[] 45)).frozen? ⟨w5.heap.size + 1, 6, none⟩ = false) := Lib.hid (by
        have h := alloc_free (w := (w5.alloc (.cells #[.string q.name, .int .i64 q.lo, .int .i64 q.hi, .int .i64 q.rise, .int .i64 q.fall, .int .i64 q.bad, .slice q.gA q.gs.length q.gc] 26))) (cs := #[.string q.name, .int .i64 q.lo, .int .i64 q.hi, .int .i64 q.rise, .int .i64 q.fall, .int .i64 q.bad, .slice q.gA q.gs.length q.gc]) (e := 26) (j := 6)
        rw [HsX.out] at h
        exact (((Below.refl (w5.heap.size + 1 + 1) _).alloc (by rw [World.size_alloc, HsX.out]; omega) (.cells #[] 45)).frozen (p := ⟨w5.heap.size + 1, 6, none⟩) (by simp)).trans h)
      go_wp2_with (first | (go_at_call 34; fail) | (at_builtin; refine wpList_appendL rfl _ _ 24 rfl (w5.heap.size + 1 + 1) 45 _ 4 40 elemG _ _ _ rfl HEmp.out _ _ _ _ rfl HSg.out (oneG _) (by omega) (by rw [World.size_alloc, World.size_alloc, HsX.out]; omega) ?_; intro v8 w8 hown8 hb8 hsz8 hg8 hblk8; rw [Nat.zero_add, List.nil_append] at hown8; obtain ⟨g8, c8', e8, hg8'⟩ := own_form hown8 (by omega); subst e8; have Hown8 := Lib.hid hown8; have Hb8 := Lib.hid hb8; have hs8 : w5.heap.size + 1 + 2 ≤ w8.heap.size := (by have h := hb8.size; rw [World.size_alloc, World.size_alloc, HsX.out] at h; omega); have hs8' : w5.heap.size + 1 < w8.heap.size := (by omega); have hg8l := (hown8.lt g8 rfl).2; have y0 := (hb8.cell (p := ⟨w5.heap.size + 1, 0, none⟩) (by simp)).trans HY.out.1; have y1 := (hb8.cell (p := ⟨w5.heap.size + 1, 1, none⟩) (by simp)).trans HY.out.2.1; have y2 := (hb8.cell (p := ⟨w5.heap.size + 1, 2, none⟩) (by simp)).trans HY.out.2.2.1; have y3 := (hb8.cell (p := ⟨w5.heap.size + 1, 3, none⟩) (by simp)).trans HY.out.2.2.2.1; have y4 := (hb8.cell (p := ⟨w5.heap.size + 1, 4, none⟩) (by simp)).trans HY.out.2.2.2.2.1; have y5 := (hb8.cell (p := ⟨w5.heap.size + 1, 5, none⟩) (by simp)).trans HY.out.2.2.2.2.2.1; have y6 := (hb8.cell (p := ⟨w5.heap.size + 1, 6, none⟩) (by simp)).trans HY.out.2.2.2.2.2.2; have z6 := (hb8.frozen (p := ⟨w5.heap.size + 1, 6, none⟩) (by simp)).trans HZ.out; clear hown8 hb8 hsz8 hg8 hblk8))
      have y1g := (Hown8.out.cellAt (gn * 4 + 1) (by omega)).trans ((flatMap_get (enc := encG) (k := 4) (fun _ => rfl) q.gs gn 1 hgnl (by omega)).trans rfl)
      obtain ⟨W9, hW9⟩ : ∃ W9, W9 = w8.setCell ⟨w5.heap.size + 1, 6, none⟩ (.slice (some ⟨g8, 0, none⟩) q.gs.length c8') := ⟨_, rfl⟩
      have hs9 : W9.heap.size = w8.heap.size := by rw [hW9]; simp [World.setCell]
      have Hs9 := Lib.hid hs9
      have hne8 : g8 ≠ w5.heap.size + 1 := by omega
      have Hown9 := Lib.hid (show W9.ownsRow (w5.heap.size + 1 + 1) 45 4 (.slice (some ⟨g8, 0, none⟩) q.gs.length c8') q.gs.length (q.gs.flatMap encG) by
        rw [hW9]
        exact Hown8.out.kept (row := some (w5.heap.size + 1)) ⟨rfl, rfl, rfl, by simp [World.setCell], fun i _ hne => Below.heap_setCell _ _ _ i (fun e => hne (by rw [e]))⟩ (.inr fun e => by simp [Value.ownBlock] at e; omega))
      have Hb9 := Lib.hid (show Below (w5.heap.size + 1) (w5.alloc (.cells #[.string q.name, .int .i64 q.lo, .int .i64 q.hi, .int .i64 q.rise, .int .i64 q.fall, .int .i64 q.bad, .slice q.gA q.gs.length q.gc] 26)) W9 by
        rw [hW9]
        refine Below.setCell (p := ⟨w5.heap.size + 1, 6, none⟩) ?_ (Nat.le_refl _) _
        exact (HbF.out).trans (Hb8.out.mono (by omega)))
      have ez : ∀ o, o ≠ 6 → W9.cell? ⟨w5.heap.size + 1, o, none⟩ = w8.cell? ⟨w5.heap.size + 1, o, none⟩ := fun o ho => by rw [hW9]; exact cell_set_off (by simpa using ho)
      have x0 := (ez 0 (by decide)).trans y0
      have x1 := (ez 1 (by decide)).trans y1
      have x2 := (ez 2 (by decide)).trans y2
      have x3 := (ez 3 (by decide)).trans y3
      have x4 := (ez 4 (by decide)).trans y4
      have x5 := (ez 5 (by decide)).trans y5
      have x6 : W9.cell? ⟨w5.heap.size + 1, 6, none⟩ = some (.slice (some ⟨g8, 0, none⟩) q.gs.length c8') := by rw [hW9]; exact World.cell?_setCell_same' _ _ _ (by rw [y6]; rfl)
      have k1 : W9.cell? ⟨g8, gn * 4 + 1, none⟩ = some (.int .i64 q.gs[gn].acc) := (Hown9.out.cellAt (gn * 4 + 1) (by omega)).trans ((flatMap_get (enc := encG) (k := 4) (fun _ => rfl) q.gs gn 1 hgnl (by omega)).trans rfl)
      have hg89 : g8 < W9.heap.size := by omega
      have hS9 : w5.heap.size + 1 < W9.heap.size := by omega
      have m6 := later_cell x6 hS9
      have m1 := later_cell k1 hg89
      have mz := later_free (Hown9.out.frozenAt (gn * 4 + 1)) hg89
      have htd := tdiv2 hacc.1
      rw [← hW9]
      clear hW9 hs9 y0 y1 y2 y3 y4 y5 y6 z6 y1g ez k1 B0 B1 B2 B3 B4 B5 B6 f0
      refine wp_region_later_tail 12 (by kernel_rfl) (by kernel_rfl) ?_
      simp only [List.take_succ_cons, List.take_zero, List.drop_succ_cons, List.drop_zero]
      repeat (any_goals (first | go_big_quiet_step ((fail)) | quiet_step ((fail))))
      refine wpQuiet_nil ?_
      rintro w' ⟨e, rfl⟩
      obtain ⟨W10, hW10⟩ : ∃ W10, W10 = e.w.setCell ⟨g8, gn * 4 + 1, none⟩ (.int .i64 (q.gs[gn].acc.tdiv 2)) := ⟨_, rfl⟩
      have hes := e.b.size
      have hs10 : W10.heap.size = e.w.heap.size := by rw [hW10]; simp [World.setCell]
      have Hs10 := Lib.hid hs10
      have hse10 : W9.heap.size ≤ W10.heap.size := by omega
      have Hown10 := Lib.hid (show W10.ownsRow (w5.heap.size + 1 + 1) 45 4 (.slice (some ⟨g8, 0, none⟩) q.gs.length c8') q.gs.length ((q.gs.set gn (fineG q.gs[gn] (q.gs[gn].acc.tdiv 2))).flatMap encG) by
        rw [hW10, ← encG_set q.gs gn hgnl]
        exact ((own_below Hown9.out e.b).stored (gn * 4 + 1) (.int .i64 (q.gs[gn].acc.tdiv 2))).1)
      have hSX : w5.heap.size + 1 ≤ W9.heap.size := by omega
      have Hb10 := Lib.hid (show Below (w5.heap.size + 1) (w5.alloc (.cells #[.string q.name, .int .i64 q.lo, .int .i64 q.hi, .int .i64 q.rise, .int .i64 q.fall, .int .i64 q.bad, .slice q.gA q.gs.length q.gc] 26)) W10 by
        rw [hW10]
        exact (Hb9.out.trans (e.b.mono hSX)).setCell (p := ⟨g8, gn * 4 + 1, none⟩) (by simp; omega) _)
      have HB10 := Lib.hid (show Below W0.heap.size W0 W10 from HBX.out.trans (Hb10.out.mono (by have := HBX.out.size; rw [HsX.out] at this; exact this)))
      have ew0 : ∀ o v, W9.cell? ⟨w5.heap.size + 1, o, none⟩ = some v → e.w.cell? ⟨w5.heap.size + 1, o, none⟩ = some v := fun o v hv => (e.b.cell (p := ⟨w5.heap.size + 1, o, none⟩) (by simp; omega)).trans hv
      have X0 := ew0 0 _ x0
      have X1 := ew0 1 _ x1
      have X2 := ew0 2 _ x2
      have X3 := ew0 3 _ x3
      have X4 := ew0 4 _ x4
      have X5 := ew0 5 _ x5
      have X6 := ew0 6 _ x6
      clear ew0
      have HW10 := Lib.hid hW10
      have hseS : w5.heap.size + 1 < e.w.heap.size := by omega
      have hg8e : g8 < e.w.heap.size := by omega
      have hneS : w5.heap.size + 1 ≠ g8 := by omega
      have f1 := m1 e
      have fz := mz e
      have hwS10 : w5.heap.size + 1 < W10.heap.size := by omega
      have hq0 := Hq.out W10 HB10.out
      obtain ⟨hcap81, hcap82⟩ := own_cap2 Hown10.out
      have HPf := Lib.hid (show Calls Try.prog 11 #[.agg #[.string q.name, .int .i64 q.lo, .int .i64 q.hi, .int .i64 q.rise, .int .i64 q.fall, .int .i64 q.bad, .slice (some ⟨g8, 0, none⟩) q.gs.length c8'], .slice (some ⟨bl, off, none⟩) l.length c, .int .i64 t] W10 (PossR (fineQ q (some ⟨g8, 0, none⟩) c8' gn hgnl) l t W10) from by
        have el : (q.gs.set gn (fineG q.gs[gn] (q.gs[gn].acc.tdiv 2))).length = q.gs.length := List.length_set
        have h := Possible_any (fineQ q (some ⟨g8, 0, none⟩) c8' gn hgnl) l t (some ⟨bl, off, none⟩) c W10.heap.size W10 ⟨hq0.nm, by simp only [fineQ]; rw [el]; exact hq0.len, by simp only [fineQ]; rw [el]; exact hcap81, hcap82, by
          refine sl_own (enc := encG) (base := w5.heap.size + 1 + 1) (e := 45) (c := c8') (fun _ => rfl) ?_
          simp only [fineQ]
          rw [el]; exact Hown10.out, fun g hg => by
          rcases List.mem_or_eq_of_mem_set hg with h1 | h1
          · exact hq0.gnm g h1
          · subst h1; exact hq0.gnm q.gs[gn] (List.getElem_mem hgnl)⟩ ((HA.out W10 HB10.out).mono (by have := HB10.out.size; omega)) (Nat.le_refl _) hlc hc Hm.out
        simp only [fineQ] at h
        rw [el] at h
        exact h)
      have HFo := Lib.hid (fine_ok (A := some ⟨g8, 0, none⟩) (c := c8') (hi := hgnl) Hce.out)
      clear hW10 hs10 x0 x1 x2 x3 x4 x5 x6 m1 m6 mz hq0 hes
      go_wp2_with (go_at_call 34; fail)
      rw [← HW10.out]
      refine HPf.out.mono ?_
      rintro r w11 ⟨vf, spf, rfl, _, hvf, hlf, hbf, hownf, hb11⟩
      have HEf := Lib.hid (possE_zero.2 ⟨HFo.out, Htm.out⟩ : possE (fineQ q (some ⟨g8, 0, none⟩) c8' gn hgnl) l t = 0)
      rw [HEf.out]
      have HVf := Lib.hid (hvf HEf.out)
      have HB1011 := Lib.hid hb11
      have hs11 := hb11.size
      obtain ⟨Af, cf, rfl, hcf1, hcf2⟩ := own_cap hownf
      have Hownf := Lib.hid hownf
      clear hownf hvf hb11 HPf X0 X1 X2 X3 X4 X5 X6
      have HIf := Lib.hid (show insideB spf spa = true from inside_of HVf.out.1 HVa.out.1 fun x hx => (maybe_iff HG.out (isTm_true.1 Htm.out) HVa.out x).2 (
        maybe_fine (q := q) (q' := fineQ q (some ⟨g8, 0, none⟩) c8' gn hgnl) rfl rfl rfl rfl (by simp [fineQ]) (fine_devi HG.out) ((maybe_iff (good_of HFo.out).1 (isTm_true.1 Htm.out) HVf.out x).1 hx)))
      have HOa10 := Lib.hid (own_below (HOaX.out) (Hb10.out.mono (Nat.le_of_eq HsX.out)))
      have HOa11 := Lib.hid (own_below HOa10.out HB1011.out)
      have HInf := Lib.hid (inside_any spf spa Af Aa cf ca w11.heap.size w11 (sl_own (enc := encSp) (fun _ => rfl) Hownf.out) (sl_own (enc := encSp) (fun _ => rfl) HOa11.out) (Nat.le_refl _) (by omega) (by omega))
      rw [HIf.out] at HInf
      go_wp2_with (go_at_call 34; fail)
      refine HInf.out.mono ?_
      rintro r w12 ⟨rfl, hb12⟩
      have HB12 := Lib.hid (HB10.out.trans ((HB1011.out.trans (hb12.mono hs11)).mono (by have := HB10.out.size; omega)))
      clear hb12 HInf
      go_wp2_with (go_at_call 10; refine (wakes_any _).mono ?_; rintro r w13 ⟨rfl, hb13⟩)
      go_ret
      exact ⟨rfl, (HU.out w12 HB12.out).trans (hb13.mono (by have := (HU.out w12 HB12.out).size; omega))⟩
    · have hgl8 := HG.out.gl
      have hwide : checkedE (wideQ q) l = 0 := wide_ok (by simpa using hbl) Hce.out
      have HW := Lib.hid hwide
      have HPw := Lib.hid (fun (X : World) (hX : Below W0.heap.size W0 X) => show Calls Try.prog 11 #[.agg #[.string q.name, .int .i64 q.lo, .int .i64 q.hi, .int .i64 q.rise, .int .i64 q.fall, .int .i64 (q.bad + 1), .slice q.gA q.gs.length q.gc], .slice (some ⟨bl, off, none⟩) l.length c, .int .i64 t] X (PossR (wideQ q) l t X) from by
        have hqX := Hq.out X hX
        exact Possible_any (wideQ q) l t (some ⟨bl, off, none⟩) c w.heap.size X ⟨hqX.nm, hqX.len, hqX.cap, hqX.cap2, hqX.sl, hqX.gnm⟩ (HA.out X hX) (by have := hX.size; omega) hlc hc Hm.out)
      clear hwide
      go_wp2_with (go_at_call 34; fail)
      have HBw := Lib.hid (HB5.out.alloc (show W0.heap.size ≤ w5.heap.size by omega) (.cells #[.string q.name, .int .i64 q.lo, .int .i64 q.hi, .int .i64 q.rise, .int .i64 q.fall, .int .i64 (q.bad + 1), .slice q.gA q.gs.length q.gc] 26))
      refine (HPw.out _ HBw.out).mono ?_
      rintro r w6 ⟨vc, spc, rfl, _, hvc, hlc6, hbc, hownc, hb6⟩
      have HEw := Lib.hid (possE_zero.2 ⟨HW.out, Htm.out⟩ : possE (wideQ q) l t = 0)
      rw [HEw.out]
      have HVc := Lib.hid (hvc HEw.out)
      have HB56 := Lib.hid (((Below.refl w5.heap.size w5).alloc (Nat.le_refl _) (.cells #[.string q.name, .int .i64 q.lo, .int .i64 q.hi, .int .i64 q.rise, .int .i64 q.fall, .int .i64 (q.bad + 1), .slice q.gA q.gs.length q.gc] 26)).trans (hb6.mono (by simp)))
      have HB6 := Lib.hid (HB5.out.trans (HB56.out.mono (by omega)))
      have hs6 : w5.heap.size ≤ w6.heap.size := HB56.out.size
      obtain ⟨Ac, cc, rfl, hcc1, hcc2⟩ := own_cap hownc
      have Hownc := Lib.hid hownc
      clear hownc hvc hb6 HPw b0 b1 b2 b3 b4 b5 b6
      have HIw := Lib.hid (show insideB spa spc = true from inside_of HVa.out.1 HVc.out.1 fun x hx => (maybe_iff (good_of HW.out).1 (isTm_true.1 Htm.out) HVc.out x).2 (by
        have h := maybe_more (q := q) (q' := wideQ q) rfl rfl rfl rfl rfl (by simp at hbl; omega) ((maybe_iff HG.out (isTm_true.1 Htm.out) HVa.out x).1 hx)
        have e : (wideQ q).bad.toNat = q.bad.toNat + 1 := by simp only [wideQ]; omega
        rw [e]; exact h))
      have HOa6 := Lib.hid (own_below HOa5.out HB56.out)
      have HInw := Lib.hid (inside_any spa spc Aa Ac ca cc w6.heap.size w6 (sl_own (enc := encSp) (fun _ => rfl) HOa6.out) (sl_own (enc := encSp) (fun _ => rfl) Hownc.out) (Nat.le_refl _) (by omega) (by omega))
      rw [HIw.out] at HInw
      go_wp2_with (go_at_call 34; fail)
      refine HInw.out.mono ?_
      rintro r w7 ⟨rfl, hb7⟩
      have HB7 := Lib.hid (HB6.out.trans (hb7.mono (by omega)))
      have HOa7 := Lib.hid (own_below HOa6.out hb7)
      have hs7 := hb7.size
      have HB27 := Lib.hid ((((HB23.out.trans (Hb4.out.mono hs3)).trans (Hb5.out.mono (by omega))).trans (HB56.out.mono (by omega))).trans (hb7.mono (by omega)))
      clear hb7 HInw hgl8
      have HBX := HB7
      have HB2X := HB27
      have HOaX := HOa7
      have f0 : w7.cell? ⟨bl, off + kn * 3, none⟩ = some (.int .i64 l[kn].g) := (HB2X.out.cell (p := ⟨bl, off + kn * 3 + 0, none⟩) hbl2).trans (HLc.out kn hknl 0 _ rfl)
      have hrg := HG.out.r l[kn] (List.getElem_mem hknl)
      obtain ⟨gn, hgn⟩ : ∃ gn : Nat, l[kn].g = (gn : Int) := ⟨l[kn].g.toNat, by omega⟩
      have hgnl : gn < q.gs.length := by omega
      rw [hgn] at f0
      clear hgn hrg
      obtain ⟨bg, og, hgA, hbgw, hgc⟩ := (Hq.out _ HBX.out).sl (by omega)
      have hgl8 := HG.out.gl
      have Hgc := Lib.hid hgc
      have HgA := Lib.hid hgA
      have hacc := HG.out.g q.gs[gn] (List.getElem_mem hgnl)
      have hsX := (rfl : w7.heap.size = w7.heap.size)
      have hwS : w.heap.size < w7.heap.size := by have := HBX.out.size; omega
      have hbgX : bg < w7.heap.size := by omega
      have hblX : bl < w7.heap.size := by have := HB2X.out.size; omega
      have hwS1 : w.heap.size < w7.heap.size + 1 := by omega
      obtain ⟨B0, B1, B2, B3, B4, B5, B6⟩ := HBx.out _ HBX.out
      clear hgc hgA hsX
      have HEmp : Hid (((w7.alloc (.cells #[.string q.name, .int .i64 q.lo, .int .i64 q.hi, .int .i64 q.rise, .int .i64 q.fall, .int .i64 q.bad, .slice q.gA q.gs.length q.gc] 26)).alloc (.cells #[] 45)).ownsRow (w7.heap.size + 1) 45 4 (.slice (some ⟨w7.heap.size + 1, 0, none⟩) 0 0) 0 []) := Lib.hid (by
        have h := World.ownsRow_lit (base := w7.heap.size + 1) (e := 45) (size := 4) (w7.alloc (.cells #[.string q.name, .int .i64 q.lo, .int .i64 q.hi, .int .i64 q.rise, .int .i64 q.fall, .int .i64 q.bad, .slice q.gA q.gs.length q.gc] 26)) #[] 0 (by rw [World.size_alloc, (rfl : w7.heap.size = w7.heap.size)]; omega) (by decide) rfl
        rw [World.size_alloc, (rfl : w7.heap.size = w7.heap.size)] at h
        exact h)
      have HbF := Lib.hid (show Below (w7.heap.size) w7 ((w7.alloc (.cells #[.string q.name, .int .i64 q.lo, .int .i64 q.hi, .int .i64 q.rise, .int .i64 q.fall, .int .i64 q.bad, .slice q.gA q.gs.length q.gc] 26)).alloc (.cells #[] 45)) from ((Below.refl _ _).alloc (by rw [(rfl : w7.heap.size = w7.heap.size)]; omega) _).alloc (by rw [World.size_alloc, (rfl : w7.heap.size = w7.heap.size)]; omega) _)
      have HSg := Lib.hid (show Src ((w7.alloc (.cells #[.string q.name, .int .i64 q.lo, .int .i64 q.hi, .int .i64 q.rise, .int .i64 q.fall, .int .i64 q.bad, .slice q.gA q.gs.length q.gc] 26)).alloc (.cells #[] 45)) 4 q.gA q.gs.length (q.gs.flatMap encG) by
        have h := src_subG (l := q.gs) (fun i hi j v hv => (HbF.out.cell (p := ⟨bg, og + i * 4 + j, none⟩) hbgX).trans (Hgc.out i hi j v hv))
        rw [← HgA.out] at h
        exact h)
      have HY : Hid (((w7.alloc (.cells #[.string q.name, .int .i64 q.lo, .int .i64 q.hi, .int .i64 q.rise, .int .i64 q.fall, .int .i64 q.bad, .slice q.gA q.gs.length q.gc] 26)).alloc (.cells #[] 45)).cell? ⟨w7.heap.size, 0, none⟩ = some (.string q.name) ∧ ((w7.alloc (.cells #[.string q.name, .int .i64 q.lo, .int .i64 q.hi, .int .i64 q.rise, .int .i64 q.fall, .int .i64 q.bad, .slice q.gA q.gs.length q.gc] 26)).alloc (.cells #[] 45)).cell? ⟨w7.heap.size, 1, none⟩ = some (.int .i64 q.lo) ∧ ((w7.alloc (.cells #[.string q.name, .int .i64 q.lo, .int .i64 q.hi, .int .i64 q.rise, .int .i64 q.fall, .int .i64 q.bad, .slice q.gA q.gs.length q.gc] 26)).alloc (.cells #[] 45)).cell? ⟨w7.heap.size, 2, none⟩ = some (.int .i64 q.hi) ∧ ((w7.alloc (.cells #[.string q.name, .int .i64 q.lo, .int .i64 q.hi, .int .i64 q.rise, .int .i64 q.fall, .int .i64 q.bad, .slice q.gA q.gs.length q.gc] 26)).alloc (.cells #[] 45)).cell? ⟨w7.heap.size, 3, none⟩ = some (.int .i64 q.rise) ∧ ((w7.alloc (.cells #[.string q.name, .int .i64 q.lo, .int .i64 q.hi, .int .i64 q.rise, .int .i64 q.fall, .int .i64 q.bad, .slice q.gA q.gs.length q.gc] 26)).alloc (.cells #[] 45)).cell? ⟨w7.heap.size, 4, none⟩ = some (.int .i64 q.fall) ∧ ((w7.alloc (.cells #[.string q.name, .int .i64 q.lo, .int .i64 q.hi, .int .i64 q.rise, .int .i64 q.fall, .int .i64 q.bad, .slice q.gA q.gs.length q.gc] 26)).alloc (.cells #[] 45)).cell? ⟨w7.heap.size, 5, none⟩ = some (.int .i64 q.bad) ∧ ((w7.alloc (.cells #[.string q.name, .int .i64 q.lo, .int .i64 q.hi, .int .i64 q.rise, .int .i64 q.fall, .int .i64 q.bad, .slice q.gA q.gs.length q.gc] 26)).alloc (.cells #[] 45)).cell? ⟨w7.heap.size, 6, none⟩ = some (.slice q.gA q.gs.length q.gc)) := Lib.hid (by
        have h0 := alloc_cell (w := w7) (cs := #[.string q.name, .int .i64 q.lo, .int .i64 q.hi, .int .i64 q.rise, .int .i64 q.fall, .int .i64 q.bad, .slice q.gA q.gs.length q.gc]) (e := 26) (j := 0) rfl
        have h1 := alloc_cell (w := w7) (cs := #[.string q.name, .int .i64 q.lo, .int .i64 q.hi, .int .i64 q.rise, .int .i64 q.fall, .int .i64 q.bad, .slice q.gA q.gs.length q.gc]) (e := 26) (j := 1) rfl
        have h2 := alloc_cell (w := w7) (cs := #[.string q.name, .int .i64 q.lo, .int .i64 q.hi, .int .i64 q.rise, .int .i64 q.fall, .int .i64 q.bad, .slice q.gA q.gs.length q.gc]) (e := 26) (j := 2) rfl
        have h3 := alloc_cell (w := w7) (cs := #[.string q.name, .int .i64 q.lo, .int .i64 q.hi, .int .i64 q.rise, .int .i64 q.fall, .int .i64 q.bad, .slice q.gA q.gs.length q.gc]) (e := 26) (j := 3) rfl
        have h4 := alloc_cell (w := w7) (cs := #[.string q.name, .int .i64 q.lo, .int .i64 q.hi, .int .i64 q.rise, .int .i64 q.fall, .int .i64 q.bad, .slice q.gA q.gs.length q.gc]) (e := 26) (j := 4) rfl
        have h5 := alloc_cell (w := w7) (cs := #[.string q.name, .int .i64 q.lo, .int .i64 q.hi, .int .i64 q.rise, .int .i64 q.fall, .int .i64 q.bad, .slice q.gA q.gs.length q.gc]) (e := 26) (j := 5) rfl
        have h6 := alloc_cell (w := w7) (cs := #[.string q.name, .int .i64 q.lo, .int .i64 q.hi, .int .i64 q.rise, .int .i64 q.fall, .int .i64 q.bad, .slice q.gA q.gs.length q.gc]) (e := 26) (j := 6) rfl
        rw [(rfl : w7.heap.size = w7.heap.size)] at h0 h1 h2 h3 h4 h5 h6
        have hl : ∀ o, ((w7.alloc (.cells #[.string q.name, .int .i64 q.lo, .int .i64 q.hi, .int .i64 q.rise, .int .i64 q.fall, .int .i64 q.bad, .slice q.gA q.gs.length q.gc] 26)).alloc (.cells #[] 45)).cell? ⟨w7.heap.size, o, none⟩ = (w7.alloc (.cells #[.string q.name, .int .i64 q.lo, .int .i64 q.hi, .int .i64 q.rise, .int .i64 q.fall, .int .i64 q.bad, .slice q.gA q.gs.length q.gc] 26)).cell? ⟨w7.heap.size, o, none⟩ := fun o => World.cell?_alloc_lt _ _ _ (by rw [World.size_alloc, (rfl : w7.heap.size = w7.heap.size)]; simp)
        exact ⟨(hl 0).trans h0, (hl 1).trans h1, (hl 2).trans h2, (hl 3).trans h3, (hl 4).trans h4, (hl 5).trans h5, (hl 6).trans h6⟩)
      have HZ : Hid (((w7.alloc (.cells #[.string q.name, .int .i64 q.lo, .int .i64 q.hi, .int .i64 q.rise, .int .i64 q.fall, .int .i64 q.bad, .slice q.gA q.gs.length q.gc] 26)).alloc (.cells #[] 45)).frozen? ⟨w7.heap.size, 6, none⟩ = false) := Lib.hid (by
        have h := alloc_free (w := w7) (cs := #[.string q.name, .int .i64 q.lo, .int .i64 q.hi, .int .i64 q.rise, .int .i64 q.fall, .int .i64 q.bad, .slice q.gA q.gs.length q.gc]) (e := 26) (j := 6)
        rw [(rfl : w7.heap.size = w7.heap.size)] at h
        exact (((Below.refl (w7.heap.size + 1) _).alloc (by rw [World.size_alloc, (rfl : w7.heap.size = w7.heap.size)]; omega) (.cells #[] 45)).frozen (p := ⟨w7.heap.size, 6, none⟩) (by simp)).trans h)
      go_wp2_with (first | (go_at_call 34; fail) | (at_builtin; refine wpList_appendL rfl _ _ 24 rfl (w7.heap.size + 1) 45 _ 4 40 elemG _ _ _ rfl HEmp.out _ _ _ _ rfl HSg.out (oneG _) (by omega) (by rw [World.size_alloc, World.size_alloc, (rfl : w7.heap.size = w7.heap.size)]; omega) ?_; intro v8 w8 hown8 hb8 hsz8 hg8 hblk8; rw [Nat.zero_add, List.nil_append] at hown8; obtain ⟨g8, c8', e8, hg8'⟩ := own_form hown8 (by omega); subst e8; have Hown8 := Lib.hid hown8; have Hb8 := Lib.hid hb8; have hs8 : w7.heap.size + 2 ≤ w8.heap.size := (by have h := hb8.size; rw [World.size_alloc, World.size_alloc, (rfl : w7.heap.size = w7.heap.size)] at h; omega); have hs8' : w7.heap.size < w8.heap.size := (by omega); have hg8l := (hown8.lt g8 rfl).2; have y0 := (hb8.cell (p := ⟨w7.heap.size, 0, none⟩) (by simp)).trans HY.out.1; have y1 := (hb8.cell (p := ⟨w7.heap.size, 1, none⟩) (by simp)).trans HY.out.2.1; have y2 := (hb8.cell (p := ⟨w7.heap.size, 2, none⟩) (by simp)).trans HY.out.2.2.1; have y3 := (hb8.cell (p := ⟨w7.heap.size, 3, none⟩) (by simp)).trans HY.out.2.2.2.1; have y4 := (hb8.cell (p := ⟨w7.heap.size, 4, none⟩) (by simp)).trans HY.out.2.2.2.2.1; have y5 := (hb8.cell (p := ⟨w7.heap.size, 5, none⟩) (by simp)).trans HY.out.2.2.2.2.2.1; have y6 := (hb8.cell (p := ⟨w7.heap.size, 6, none⟩) (by simp)).trans HY.out.2.2.2.2.2.2; have z6 := (hb8.frozen (p := ⟨w7.heap.size, 6, none⟩) (by simp)).trans HZ.out; clear hown8 hb8 hsz8 hg8 hblk8))
      have y1g := (Hown8.out.cellAt (gn * 4 + 1) (by omega)).trans ((flatMap_get (enc := encG) (k := 4) (fun _ => rfl) q.gs gn 1 hgnl (by omega)).trans rfl)
      obtain ⟨W9, hW9⟩ : ∃ W9, W9 = w8.setCell ⟨w7.heap.size, 6, none⟩ (.slice (some ⟨g8, 0, none⟩) q.gs.length c8') := ⟨_, rfl⟩
      have hs9 : W9.heap.size = w8.heap.size := by rw [hW9]; simp [World.setCell]
      have Hs9 := Lib.hid hs9
      have hne8 : g8 ≠ w7.heap.size := by omega
      have Hown9 := Lib.hid (show W9.ownsRow (w7.heap.size + 1) 45 4 (.slice (some ⟨g8, 0, none⟩) q.gs.length c8') q.gs.length (q.gs.flatMap encG) by
        rw [hW9]
        exact Hown8.out.kept (row := some (w7.heap.size)) ⟨rfl, rfl, rfl, by simp [World.setCell], fun i _ hne => Below.heap_setCell _ _ _ i (fun e => hne (by rw [e]))⟩ (.inr fun e => by simp [Value.ownBlock] at e; omega))
      have Hb9 := Lib.hid (show Below (w7.heap.size) w7 W9 by
        rw [hW9]
        refine Below.setCell (p := ⟨w7.heap.size, 6, none⟩) ?_ (Nat.le_refl _) _
        exact (HbF.out).trans (Hb8.out.mono (by omega)))
      have ez : ∀ o, o ≠ 6 → W9.cell? ⟨w7.heap.size, o, none⟩ = w8.cell? ⟨w7.heap.size, o, none⟩ := fun o ho => by rw [hW9]; exact cell_set_off (by simpa using ho)
      have x0 := (ez 0 (by decide)).trans y0
      have x1 := (ez 1 (by decide)).trans y1
      have x2 := (ez 2 (by decide)).trans y2
      have x3 := (ez 3 (by decide)).trans y3
      have x4 := (ez 4 (by decide)).trans y4
      have x5 := (ez 5 (by decide)).trans y5
      have x6 : W9.cell? ⟨w7.heap.size, 6, none⟩ = some (.slice (some ⟨g8, 0, none⟩) q.gs.length c8') := by rw [hW9]; exact World.cell?_setCell_same' _ _ _ (by rw [y6]; rfl)
      have k1 : W9.cell? ⟨g8, gn * 4 + 1, none⟩ = some (.int .i64 q.gs[gn].acc) := (Hown9.out.cellAt (gn * 4 + 1) (by omega)).trans ((flatMap_get (enc := encG) (k := 4) (fun _ => rfl) q.gs gn 1 hgnl (by omega)).trans rfl)
      have hg89 : g8 < W9.heap.size := by omega
      have hS9 : w7.heap.size < W9.heap.size := by omega
      have m6 := later_cell x6 hS9
      have m1 := later_cell k1 hg89
      have mz := later_free (Hown9.out.frozenAt (gn * 4 + 1)) hg89
      have htd := tdiv2 hacc.1
      rw [← hW9]
      clear hW9 hs9 y0 y1 y2 y3 y4 y5 y6 z6 y1g ez k1 B0 B1 B2 B3 B4 B5 B6 f0
      refine wp_region_later_tail 12 (by kernel_rfl) (by kernel_rfl) ?_
      simp only [List.take_succ_cons, List.take_zero, List.drop_succ_cons, List.drop_zero]
      repeat (any_goals (first | go_big_quiet_step ((fail)) | quiet_step ((fail))))
      refine wpQuiet_nil ?_
      rintro w' ⟨e, rfl⟩
      obtain ⟨W10, hW10⟩ : ∃ W10, W10 = e.w.setCell ⟨g8, gn * 4 + 1, none⟩ (.int .i64 (q.gs[gn].acc.tdiv 2)) := ⟨_, rfl⟩
      have hes := e.b.size
      have hs10 : W10.heap.size = e.w.heap.size := by rw [hW10]; simp [World.setCell]
      have Hs10 := Lib.hid hs10
      have hse10 : W9.heap.size ≤ W10.heap.size := by omega
      have Hown10 := Lib.hid (show W10.ownsRow (w7.heap.size + 1) 45 4 (.slice (some ⟨g8, 0, none⟩) q.gs.length c8') q.gs.length ((q.gs.set gn (fineG q.gs[gn] (q.gs[gn].acc.tdiv 2))).flatMap encG) by
        rw [hW10, ← encG_set q.gs gn hgnl]
        exact ((own_below Hown9.out e.b).stored (gn * 4 + 1) (.int .i64 (q.gs[gn].acc.tdiv 2))).1)
      have hSX : w7.heap.size ≤ W9.heap.size := by omega
      have Hb10 := Lib.hid (show Below (w7.heap.size) w7 W10 by
        rw [hW10]
        exact (Hb9.out.trans (e.b.mono hSX)).setCell (p := ⟨g8, gn * 4 + 1, none⟩) (by simp; omega) _)
      have HB10 := Lib.hid (show Below W0.heap.size W0 W10 from HBX.out.trans (Hb10.out.mono (by have := HBX.out.size; rw [(rfl : w7.heap.size = w7.heap.size)] at this; exact this)))
      have ew0 : ∀ o v, W9.cell? ⟨w7.heap.size, o, none⟩ = some v → e.w.cell? ⟨w7.heap.size, o, none⟩ = some v := fun o v hv => (e.b.cell (p := ⟨w7.heap.size, o, none⟩) (by simp; omega)).trans hv
      have X0 := ew0 0 _ x0
      have X1 := ew0 1 _ x1
      have X2 := ew0 2 _ x2
      have X3 := ew0 3 _ x3
      have X4 := ew0 4 _ x4
      have X5 := ew0 5 _ x5
      have X6 := ew0 6 _ x6
      clear ew0
      have HW10 := Lib.hid hW10
      have hseS : w7.heap.size < e.w.heap.size := by omega
      have hg8e : g8 < e.w.heap.size := by omega
      have hneS : w7.heap.size ≠ g8 := by omega
      have f1 := m1 e
      have fz := mz e
      have hwS10 : w7.heap.size < W10.heap.size := by omega
      have hq0 := Hq.out W10 HB10.out
      obtain ⟨hcap81, hcap82⟩ := own_cap2 Hown10.out
      have HPf := Lib.hid (show Calls Try.prog 11 #[.agg #[.string q.name, .int .i64 q.lo, .int .i64 q.hi, .int .i64 q.rise, .int .i64 q.fall, .int .i64 q.bad, .slice (some ⟨g8, 0, none⟩) q.gs.length c8'], .slice (some ⟨bl, off, none⟩) l.length c, .int .i64 t] W10 (PossR (fineQ q (some ⟨g8, 0, none⟩) c8' gn hgnl) l t W10) from by
        have el : (q.gs.set gn (fineG q.gs[gn] (q.gs[gn].acc.tdiv 2))).length = q.gs.length := List.length_set
        have h := Possible_any (fineQ q (some ⟨g8, 0, none⟩) c8' gn hgnl) l t (some ⟨bl, off, none⟩) c W10.heap.size W10 ⟨hq0.nm, by simp only [fineQ]; rw [el]; exact hq0.len, by simp only [fineQ]; rw [el]; exact hcap81, hcap82, by
          refine sl_own (enc := encG) (base := w7.heap.size + 1) (e := 45) (c := c8') (fun _ => rfl) ?_
          simp only [fineQ]
          rw [el]; exact Hown10.out, fun g hg => by
          rcases List.mem_or_eq_of_mem_set hg with h1 | h1
          · exact hq0.gnm g h1
          · subst h1; exact hq0.gnm q.gs[gn] (List.getElem_mem hgnl)⟩ ((HA.out W10 HB10.out).mono (by have := HB10.out.size; omega)) (Nat.le_refl _) hlc hc Hm.out
        simp only [fineQ] at h
        rw [el] at h
        exact h)
      have HFo := Lib.hid (fine_ok (A := some ⟨g8, 0, none⟩) (c := c8') (hi := hgnl) Hce.out)
      clear hW10 hs10 x0 x1 x2 x3 x4 x5 x6 m1 m6 mz hq0 hes
      go_wp2_with (go_at_call 34; fail)
      rw [← HW10.out]
      refine HPf.out.mono ?_
      rintro r w11 ⟨vf, spf, rfl, _, hvf, hlf, hbf, hownf, hb11⟩
      have HEf := Lib.hid (possE_zero.2 ⟨HFo.out, Htm.out⟩ : possE (fineQ q (some ⟨g8, 0, none⟩) c8' gn hgnl) l t = 0)
      rw [HEf.out]
      have HVf := Lib.hid (hvf HEf.out)
      have HB1011 := Lib.hid hb11
      have hs11 := hb11.size
      obtain ⟨Af, cf, rfl, hcf1, hcf2⟩ := own_cap hownf
      have Hownf := Lib.hid hownf
      clear hownf hvf hb11 HPf X0 X1 X2 X3 X4 X5 X6
      have HIf := Lib.hid (show insideB spf spa = true from inside_of HVf.out.1 HVa.out.1 fun x hx => (maybe_iff HG.out (isTm_true.1 Htm.out) HVa.out x).2 (
        maybe_fine (q := q) (q' := fineQ q (some ⟨g8, 0, none⟩) c8' gn hgnl) rfl rfl rfl rfl (by simp [fineQ]) (fine_devi HG.out) ((maybe_iff (good_of HFo.out).1 (isTm_true.1 Htm.out) HVf.out x).1 hx)))
      have HOa10 := Lib.hid (own_below (HOaX.out) (Hb10.out.mono (Nat.le_of_eq (rfl : w7.heap.size = w7.heap.size))))
      have HOa11 := Lib.hid (own_below HOa10.out HB1011.out)
      have HInf := Lib.hid (inside_any spf spa Af Aa cf ca w11.heap.size w11 (sl_own (enc := encSp) (fun _ => rfl) Hownf.out) (sl_own (enc := encSp) (fun _ => rfl) HOa11.out) (Nat.le_refl _) (by omega) (by omega))
      rw [HIf.out] at HInf
      go_wp2_with (go_at_call 34; fail)
      refine HInf.out.mono ?_
      rintro r w12 ⟨rfl, hb12⟩
      have HB12 := Lib.hid (HB10.out.trans ((HB1011.out.trans (hb12.mono hs11)).mono (by have := HB10.out.size; omega)))
      clear hb12 HInf
      go_wp2_with (go_at_call 10; refine (wakes_any _).mono ?_; rintro r w13 ⟨rfl, hb13⟩)
      go_ret
      exact ⟨rfl, (HU.out w12 HB12.out).trans (hb13.mono (by have := (HU.out w12 HB12.out).size; omega))⟩
end Go.Proofs.Ytcgnpndfhhcplaa
