/-
  The specification's Explains answers true where a set and values explain all readings. Conditions: bounds.
-/
import Derived.Test.YtcgnpndfhhcplaaWitX
import Derived.Test.YtcgnpndfhhcplaaRAgree
import Derived.Test.YtcgnpndfhhcplaaRBits
import Derived.Test.YtcgnpndfhhcplaaRSusp
import Derived.Test.YtcgnpndfhhcplaaRKnown
import Derived.Test.YtcgnpndfhhcplaaInside
import Derived.Deep.CutRange
namespace W7
/-- the set of some gauges, as a number -/
def setAt (F : List Int) (k : Nat) : Nat := (F.take k).foldl (fun s g => s ||| 2 ^ g.toNat) 0
theorem setAt_succ (F : List Int) (k : Nat) (h : k < F.length) : setAt F (k + 1) = setAt F k ||| 2 ^ F[k].toNat := by
  unfold setAt; rw [List.take_succ_eq_append_getElem h, List.foldl_append]; rfl
theorem setAt_lt (F : List Int) (hF : ∀ g ∈ F, 0 ≤ g ∧ g < 8) : ∀ k, k ≤ F.length → setAt F k < 256 := by
  intro k
  induction k with
  | zero => intro _; simp [setAt]
  | succ k ih =>
    intro hk
    rw [setAt_succ F k (by omega)]
    have h1 := hF F[k] (List.getElem_mem (by omega))
    have h2 : 2 ^ F[k].toNat < 2 ^ 8 := Nat.pow_lt_pow_right (by decide) (by omega)
    exact Nat.or_lt_two_pow (n := 8) (ih (by omega)) h2
theorem setAt_bit (F : List Int) (hF : ∀ g ∈ F, 0 ≤ g ∧ g < 8) (i : Nat) : ∀ k, k ≤ F.length → (setAt F k).testBit i = (F.take k).any (fun g => (i : Int) == g) := by
  intro k
  induction k with
  | zero => intro _; simp [setAt]
  | succ k ih =>
    intro hk
    have h1 := hF F[k] (List.getElem_mem (by omega))
    rw [setAt_succ F k (by omega), Nat.testBit_or, ih (by omega), List.take_succ_eq_append_getElem (by omega), List.any_append, Nat.testBit_two_pow]
    congr 1
    simp only [List.any_cons, List.any_nil, Bool.or_false]
    rw [Bool.eq_iff_iff]
    simp only [decide_eq_true_eq, beq_iff_eq]
    omega
end W7
namespace Go.Proofs.Ytcgnpndfhhcplaa
open Go.RowKit W7
attribute [local go_sem] Oper.semAt_some
theorem shl_one (g : Nat) (h : g < 8) : wrap64 ((2 : Int) ^ g) = ((2 ^ g : Nat) : Int) := by
  have h2 : 2 ^ g < 2 ^ 8 := Nat.pow_lt_pow_right (by decide) h
  have h3 : ((2 : Int) ^ g) = ((2 ^ g : Nat) : Int) := by simp
  rw [h3]
  revert h2
  generalize 2 ^ g = P
  intro h2
  exact IntWalk.wrap64_in _ (by omega)
/-- points, so far -/
def ptsAt (q : Quantity) (l : List Reading) (t x : Int) (v : List Int) (k : Nat) : List K := ⟨0, q.lo, q.hi⟩ :: ⟨t, x, x⟩ :: ((l.zip v).take k).map fun p => ⟨p.1.t, p.2, p.2⟩
theorem ptsAt_succ (q : Quantity) (l : List Reading) (t x : Int) (v : List Int) (k : Nat) (h : k < l.length) (h2 : k < v.length) : ptsAt q l t x v (k + 1) = ptsAt q l t x v k ++ [⟨l[k].t, v[k], v[k]⟩] := by
  unfold ptsAt
  rw [List.take_succ_eq_append_getElem (by simp; omega), List.map_append]
  simp
theorem ptsAt_all (q : Quantity) (l : List Reading) (t x : Int) (v : List Int) : ptsAt q l t x v l.length = ptsX q l t x v := by
  unfold ptsAt ptsX; rw [List.take_of_length_le (by rw [List.length_zip]; exact Nat.min_le_left _ _)]
theorem ptsAt_len (q : Quantity) (l : List Reading) (t x : Int) (v : List Int) (k : Nat) : (ptsAt q l t x v k).length ≤ k + 2 := by
  unfold ptsAt; simp only [List.length_cons, List.length_map, List.length_take]; omega
set_option maxHeartbeats 2000000 in
set_option maxRecDepth 100000 in
theorem refExplains_any (q : Quantity) (l : List Reading) (t x : Int) (F vals : List Int) (A AF AV : Option Addr) (c cF cV B : Nat) (w : World) (hq : QIn w B q) (hA : Sl w B 3 encR A l) (hFm : Sl w B 1 encInt1 AF F) (hVm : Sl w B 1 encInt1 AV vals) (hB : B ≤ w.heap.size)
    (hg : Good q l) (hl : l.length ≤ 12) (ht : 0 ≤ t ∧ t ≤ 100000) (hx : -4000000000 ≤ x ∧ x ≤ 4000000000) (hFb : (F.length : Int) ≤ q.bad) (hFs : F.Sublist (nums 0 q.gs.length)) (hvl : vals.length = l.length)
    (hv : ∀ i (h : i < l.length) (h2 : i < vals.length), -4000000000 ≤ vals[i] ∧ vals[i] ≤ 4000000000 ∧ (F.any (fun y => l[i].g == y) = false → l[i].v - devi (q.gs.getD l[i].g.toNat default) l[i].t ≤ vals[i] ∧ vals[i] ≤ l[i].v + devi (q.gs.getD l[i].g.toNat default) l[i].t))
    (hag : Agree q.rise q.fall (ptsX q l t x vals)) :
    Calls Try.prog 28 #[.agg #[.string q.name, .int .i64 q.lo, .int .i64 q.hi, .int .i64 q.rise, .int .i64 q.fall, .int .i64 q.bad, .slice q.gA q.gs.length q.gc], .slice A l.length c, .int .i64 t, .int .i64 x, .slice AF F.length cF, .slice AV vals.length cV] w fun e w' => e = .returned (.bool true) ∧ Below w.heap.size w w' := by
  have hFn : ∀ g ∈ F, 0 ≤ g ∧ g < (q.gs.length : Int) := fun g hg' => by
    obtain ⟨j, rfl, h1, h2⟩ := nums_mem.1 (hFs.subset hg')
    omega
  have hgl := hg.gl
  have hF8 : ∀ g ∈ F, 0 ≤ g ∧ g < 8 := fun g h => by have := hFn g h; omega
  have hFinc : F.Pairwise (· < ·) := by
    refine List.Pairwise.sublist hFs ?_
    have : ∀ a k, (nums a k).Pairwise (· < ·) := fun a k => by
      induction k generalizing a with
      | zero => simp [nums]
      | succ k ih =>
        unfold nums
        refine List.pairwise_cons.2 ⟨fun y hy => ?_, ih _⟩
        obtain ⟨j, rfl, h1, _⟩ := nums_mem.1 hy
        omega
    exact this _ _
  have hFl : F.length ≤ 8 := by have := hFs.length_le; rw [nums_len] at this; omega
  have HFn := Lib.hid hFn
  have HF8 := Lib.hid hF8
  have HFi := Lib.hid hFinc
  have HG := Lib.hid hg
  have Hv := Lib.hid hv
  have Hvl := Lib.hid hvl
  have Hag := Lib.hid hag
  obtain ⟨W0, hW0⟩ : ∃ W0, W0 = w.alloc (.cells #[.string q.name, .int .i64 q.lo, .int .i64 q.hi, .int .i64 q.rise, .int .i64 q.fall, .int .i64 q.bad, .slice q.gA q.gs.length q.gc] 26) := ⟨_, rfl⟩
  have HB0 := Lib.hid (show Below w.heap.size w W0 by rw [hW0]; exact (Below.refl _ _).alloc (Nat.le_refl _) _)
  have hs0 : w.heap.size < W0.heap.size := by rw [hW0]; simp
  have Hc0 := Lib.hid (show ∀ j v, (#[.string q.name, .int .i64 q.lo, .int .i64 q.hi, .int .i64 q.rise, .int .i64 q.fall, .int .i64 q.bad, .slice q.gA q.gs.length q.gc] : Array Value)[j]? = some v → ∀ X, Below W0.heap.size W0 X → X.cell? ⟨w.heap.size, j, none⟩ = some v from fun j v hv X hX => (hX.cell (p := ⟨w.heap.size, j, none⟩) hs0).trans (by rw [hW0]; exact alloc_cell hv))
  have HBx := Lib.hid (fun (X : World) (hX : Below W0.heap.size W0 X) => show X.cell? ⟨w.heap.size, 0, none⟩ = some (.string q.name) ∧ X.cell? ⟨w.heap.size, 1, none⟩ = some (.int .i64 q.lo) ∧ X.cell? ⟨w.heap.size, 2, none⟩ = some (.int .i64 q.hi) ∧ X.cell? ⟨w.heap.size, 3, none⟩ = some (.int .i64 q.rise) ∧ X.cell? ⟨w.heap.size, 4, none⟩ = some (.int .i64 q.fall) ∧ X.cell? ⟨w.heap.size, 5, none⟩ = some (.int .i64 q.bad) ∧ X.cell? ⟨w.heap.size, 6, none⟩ = some (.slice q.gA q.gs.length q.gc) from ⟨Hc0.out 0 _ rfl X hX, Hc0.out 1 _ rfl X hX, Hc0.out 2 _ rfl X hX, Hc0.out 3 _ rfl X hX, Hc0.out 4 _ rfl X hX, Hc0.out 5 _ rfl X hX, Hc0.out 6 _ rfl X hX⟩)
  have Hq := Lib.hid (fun (X : World) (hX : Below W0.heap.size W0 X) => (hq.mono hB).below (HB0.out.trans (hX.mono (Nat.le_of_lt hs0))))
  have HA := Lib.hid (fun (X : World) (hX : Below W0.heap.size W0 X) => (hA.mono hB).below (HB0.out.trans (hX.mono (Nat.le_of_lt hs0))))
  have HFm := Lib.hid (fun (X : World) (hX : Below W0.heap.size W0 X) => (hFm.mono hB).below (HB0.out.trans (hX.mono (Nat.le_of_lt hs0))))
  have HVm := Lib.hid (fun (X : World) (hX : Below W0.heap.size W0 X) => (hVm.mono hB).below (HB0.out.trans (hX.mono (Nat.le_of_lt hs0))))
  have HU := Lib.hid (fun (X : World) (hX : Below W0.heap.size W0 X) => show Below w.heap.size w X from HB0.out.trans (hX.mono (Nat.le_of_lt hs0)))
  obtain ⟨b0, b1, b2, b3, b4, b5, b6⟩ := HBx.out W0 (Below.refl _ _)
  have HW0 := Lib.hid hW0
  have t1 : decide (q.bad < (F.length : Int)) = false := decide_eq_false (by omega)
  have t2 : ((vals.length : Int) != (l.length : Int)) = false := by rw [hvl]; simp
  clear hW0 hq hA hFm hVm hFn hF8 hFinc hg hv hvl hag
  go_enter Try.func28, Try.ntmps28
  go_upto_region 1 with fail
  rw [← HW0.out]
  go_wp2
  clear b0 b1 b2 b3 b4 b5 b6 t1 t2
  go_loopw [13, 14] (fun v13 v14 wr => ∃ k : Nat, k ≤ F.length ∧ v14 = .int .i64 k ∧ v13 = .int .i64 ((setAt F k : Nat) : Int) ∧ Hid (Below W0.heap.size W0 wr)) (fun _ v14 _ => F.length - (intOf v14).toNat)
  case atStart => exact ⟨0, by omega, rfl, by simp [setAt], Lib.hid (Below.refl _ _)⟩
  case round =>
    obtain ⟨k, hk, rfl, rfl, Hb⟩ := hrel
    have hsz := Hb.out.size
    have hwr : w.heap.size < wr.heap.size := by omega
    obtain ⟨b0, b1, b2, b3, b4, b5, b6⟩ := HBx.out wr Hb.out
    by_cases hlt : k < F.length
    · obtain ⟨bF, oF, rfl, hbF, hFc⟩ := (HFm.out wr Hb.out) (by omega)
      have hbFr : bF < wr.heap.size := by omega
      have hfb := HFn.out F[k] (List.getElem_mem hlt)
      have hsl := setAt_lt F HF8.out k hk
      have HSs := Lib.hid (setAt_succ F k hlt)
      have f0 : wr.cell? ⟨bF, oF + k, none⟩ = some (.int .i64 F[k]) := by have := hFc k hlt 0 _ rfl; simpa using this
      obtain ⟨S, hS⟩ : ∃ S, S = setAt F k := ⟨_, rfl⟩
      obtain ⟨fk, hfk⟩ : ∃ fk, fk = F[k] := ⟨_, rfl⟩
      rw [← hS] at hsl HSs ⊢
      clear hS
      rw [← hfk] at f0 hfb HSs
      have hg8 : fk.toNat < 8 := by omega
      have hp2 : 2 ^ fk.toNat < 256 := Nat.pow_lt_pow_right (n := 8) (by decide) hg8
      have HSh := Lib.hid (shl_one fk.toNat hg8)
      have HOr := Lib.hid (bits8 S (2 ^ fk.toNat) hsl hp2).2
      have u1 : decide (fk < 0) = false := decide_eq_false (by omega)
      have u2 : decide ((q.gs.length : Int) ≤ fk) = false := decide_eq_false (by omega)
      have u3 : (0 : Int) ≤ fk := hfb.1
      rcases Nat.eq_zero_or_pos k with rfl | hp
      · clear hFc hfk
        have f0' : wr.cell? ⟨bF, oF, none⟩ = some (.int .i64 fk) := by simpa using f0
        clear f0
        go_wp2
        go_quiet (fail)
        go_wp2
        go_roundw
        case rel => exact ⟨1, by omega, by go_num, by rw [HSh.out, HOr.out, HSs.out], Lib.hid (below_drewN Hb.out _)⟩
        case measure => simp [intOf]; omega
      · obtain ⟨m, rfl⟩ : ∃ m, k = m + 1 := ⟨k - 1, by omega⟩
        obtain ⟨pm, hpm⟩ : ∃ pm, pm = F[m]'(by omega) := ⟨_, rfl⟩
        have f1 : wr.cell? ⟨bF, oF + m, none⟩ = some (.int .i64 pm) := by rw [hpm]; have := hFc m (by omega) 0 _ rfl; simpa using this
        have hinc := List.pairwise_iff_getElem.1 HFi.out m (m + 1) (by omega) hlt (by omega)
        rw [← hpm, ← hfk] at hinc
        have u4 : decide (fk ≤ pm) = false := decide_eq_false (by omega)
        have i1 : (m : Int) < (m : Int) + 1 := by omega
        have hpos : decide ((0 : Int) < (m : Int) + 1) = true := decide_eq_true (by omega)
        have w1' : IntKind.i64.wrap ((m : Int) + 1 - 1) = (m : Int) := by rw [IntWalk.i64_in _ (by omega)]; omega
        have w7' : ((m : Int) + 1 - 1).toNat = m := by omega
        have hmI : (m : Int) < (F.length : Int) := by omega
        clear hFc hfk hpm
        go_wp2
        go_quiet (fail)
        go_wp2
        go_roundw
        case rel => exact ⟨m + 1 + 1, by omega, by go_num, by rw [HSh.out, HOr.out, HSs.out], Lib.hid (below_drewN Hb.out _)⟩
        case measure => simp [intOf]; omega
    · obtain rfl : k = F.length := by omega
      have hS256 := setAt_lt F HF8.out F.length (Nat.le_refl _)
      have HSb := Lib.hid (fun i => setAt_bit F HF8.out i F.length (Nat.le_refl _))
      obtain ⟨S, hS⟩ : ∃ S, S = setAt F F.length := ⟨_, rfl⟩
      rw [← hS] at hS256 HSb ⊢
      clear hS
      have HO0 := Lib.hid (World.ownsRow_lit (base := W0.heap.size) (e := 98) (size := 3) wr #[.int .i64 0, .int .i64 q.lo, .int .i64 q.hi, .int .i64 t, .int .i64 x, .int .i64 x] 2 hsz (by decide) rfl)
      have HB0' := Lib.hid (Hb.out.alloc hsz (.cells #[.int .i64 0, .int .i64 q.lo, .int .i64 q.hi, .int .i64 t, .int .i64 x, .int .i64 x] 98))
      go_wp2
      clear b0 b1 b2 b3 b4 b5 b6
      go_loopw [15, 16] (fun v15 v16 wx => ∃ i : Nat, i ≤ l.length ∧ v16 = .int .i64 i ∧ Hid (wx.ownsRow W0.heap.size 98 3 v15 (ptsAt q l t x vals i).length (encKs (ptsAt q l t x vals i))) ∧ Hid (Below W0.heap.size W0 wx)) (fun _ v16 _ => l.length - (intOf v16).toNat)
      case atStart => exact ⟨0, by omega, rfl, HO0, HB0'⟩
      case round =>
        obtain ⟨i, hi, rfl, Ho, Hb2⟩ := hrel
        have hsz2 := Hb2.out.size
        have hwr2 : w.heap.size < wr.heap.size := by omega
        obtain ⟨b0, b1, b2, b3, b4, b5, b6⟩ := HBx.out wr Hb2.out
        by_cases hli : i < l.length
        · have hiv : i < vals.length := by have := Hvl.out; omega
          have hivI : (i : Int) < (vals.length : Int) := by omega
          obtain ⟨bl, ol, rfl, hbl, hlc⟩ := (HA.out wr Hb2.out) (by omega)
          obtain ⟨bv, ov, rfl, hbv, hvc⟩ := (HVm.out wr Hb2.out) (by omega)
          have hblr : bl < wr.heap.size := by omega
          have hr := HG.out.r l[i] (List.getElem_mem hli)
          have hvv := Hv.out i hli hiv
          have HSu := Lib.hid (ptsAt_succ q l t x vals i hli hiv)
          have HLen := Lib.hid (ptsAt_len q l t x vals i)
          have r0 : wr.cell? ⟨bl, ol + i * 3, none⟩ = some (.int .i64 l[i].g) := hlc i hli 0 _ rfl
          have r1 : wr.cell? ⟨bl, ol + i * 3 + 1, none⟩ = some (.int .i64 l[i].t) := hlc i hli 1 _ rfl
          have r2 : wr.cell? ⟨bl, ol + i * 3 + 2, none⟩ = some (.int .i64 l[i].v) := hlc i hli 2 _ rfl
          have s0 : wr.cell? ⟨bv, ov + i, none⟩ = some (.int .i64 vals[i]) := by have := hvc i hiv 0 _ rfl; simpa using this
          obtain ⟨rd, hrd⟩ : ∃ rd, rd = l[i] := ⟨_, rfl⟩
          obtain ⟨v, hvd⟩ : ∃ v, v = vals[i] := ⟨_, rfl⟩
          rw [← hrd] at r0 r1 r2 hr hvv HSu
          rw [← hvd] at s0 hvv HSu
          obtain ⟨gn, hgn⟩ : ∃ gn : Nat, rd.g = (gn : Int) := ⟨rd.g.toNat, by omega⟩
          have hgnl : gn < q.gs.length := by omega
          rw [hgn] at r0 hvv
          rw [Int.toNat_natCast, getD_mem _ _ hgnl] at hvv
          have hgq := HG.out.g (q.gs[gn]'hgnl) (List.getElem_mem hgnl)
          have u1 : decide (v < -4000000000) = false := decide_eq_false (by omega)
          have u2 : decide (4000000000 < v) = false := decide_eq_false (by omega)
          have HOt := Lib.hid (fun (Y : World) => refOut_any S gn Y hS256 (by omega))
          have Hbit := Lib.hid (HSb.out gn)
          rw [List.take_length] at Hbit
          have Hvv := Lib.hid hvv.2.2
          clear hrd hvd hlc hvc hgn
          go_wp2_with (go_at_call 34; fail)
          cases hbit : S.testBit gn
          rotate_left
          · rw [hbit] at HOt
            refine (HOt.out _).mono ?_
            rintro r w2 ⟨rfl, hw2⟩
            obtain rfl := hw2.symm
            go_wp2_with (at_builtin; refine wpList_append1 rfl _ _ 83 rfl W0.heap.size 98 _ 3 24 elemKn _ _ _ rfl Ho.out #[.int .i64 rd.t, .int .i64 v, .int .i64 v] 1 _ rfl (by simp) rfl (by simp [Value.oneCell']) (by have := HLen.out; omega) (by omega) ?_; intro v6 w6 hown6 hb6 hsz6 hg6 hblk6; have Ho6 := Lib.hid hown6; have Hb6 := Lib.hid hb6; clear hown6 hb6 hsz6 hg6 hblk6)
            go_roundw
            case rel => exact ⟨i + 1, by omega, by go_num, Lib.hid (by rw [HSu.out, List.length_append, encKs_append]; exact Ho6.out), Lib.hid (Hb2.out.trans Hb6.out)⟩
            case measure => simp [intOf]; omega
          · rw [hbit] at HOt
            refine (HOt.out _).mono ?_
            rintro r w2 ⟨rfl, hw2⟩
            obtain rfl := hw2.symm
            have hin := Hvv.out (by rw [← Hbit.out]; exact hbit)
            have hdb := devi_bnd (t := rd.t) hgq (by omega)
            obtain ⟨bg, og, hgA, hbgB, hgc⟩ := (Hq.out wr Hb2.out).sl (by omega)
            have hbgr : bg < wr.heap.size := by omega
            rw [hgA] at b6
            have n6 := later_cell b6 hwr2
            have g0 := later_cell (show wr.cell? ⟨bg, og + gn * 4, none⟩ = some (.string (q.gs[gn]'hgnl).name) from hgc gn hgnl 0 _ rfl) hbgr
            have g1 := later_cell (hgc gn hgnl 1 _ rfl) hbgr
            have g2 := later_cell (hgc gn hgnl 2 _ rfl) hbgr
            have g3 := later_cell (hgc gn hgnl 3 _ rfl) hbgr
            have m0 := later_cell r0 hblr
            have m1 := later_cell r1 hblr
            have hgnI : (gn : Int) < (q.gs.length : Int) := by omega
            have HWo := Lib.hid (fun (Y : World) => refWorst_any (q.gs[gn]'hgnl) rd.t Y (by omega) (by omega) (by omega) (by omega) (by omega) (by omega) (by omega) (by omega))
            obtain ⟨D, hD⟩ : ∃ D, D = devi (q.gs[gn]'hgnl) rd.t := ⟨_, rfl⟩
            rw [← hD] at HWo hin hdb
            have u3 : decide (v < rd.v - D) = false := decide_eq_false (by omega)
            have u4 : decide (rd.v + D < v) = false := decide_eq_false (by omega)
            clear hD hgA hgc Hvv
            go_upto_region 18 with fail
            refine wp_region_later (by kernel_rfl) (by kernel_rfl) ?_
            repeat (any_goals (first | go_big_quiet_step ((go_at_call 52; exact later_call _ (HWo.out _))) | quiet_step ((go_at_call 52; exact later_call _ (HWo.out _)))))
            refine wpQuiet_nil ?_
            rintro w' ⟨e, rfl⟩
            have Hbe := Lib.hid (Hb2.out.trans (e.b.mono (by omega)))
            have HoE := Lib.hid (own_below Ho.out e.b)
            have hse : wr.heap.size ≤ e.w.heap.size := e.b.size
            have z1 := m1 e
            have z2 := later_cell r2 hblr e
            clear n6 g0 g1 g2 g3 m0 m1
            go_wp2_with (at_builtin; refine wpList_append1 rfl _ _ 83 rfl W0.heap.size 98 _ 3 24 elemKn _ _ _ rfl HoE.out #[.int .i64 rd.t, .int .i64 v, .int .i64 v] 1 _ rfl (by simp) rfl (by simp [Value.oneCell']) (by have := HLen.out; omega) (by omega) ?_; intro v6 w6 hown6 hb6 hsz6 hg6 hblk6; have Ho6 := Lib.hid hown6; have Hb6 := Lib.hid hb6; clear hown6 hb6 hsz6 hg6 hblk6)
            go_roundw
            case rel => exact ⟨i + 1, by omega, by go_num, Lib.hid (by rw [HSu.out, List.length_append, encKs_append]; exact Ho6.out), Lib.hid (Hbe.out.trans Hb6.out)⟩
            case measure => simp [intOf]; omega
        · obtain rfl : i = l.length := by omega
          have HP := Lib.hid (ptsAt_all q l t x vals)
          obtain ⟨Ap, cp, rfl, hcp1, hcp2⟩ := own_cap Ho.out
          have hpl := ptsAt_len q l t x vals l.length
          have HAg := Lib.hid (refAgree_any q (ptsAt q l t x vals l.length) Ap cp wr.heap.size wr HG.out.rise HG.out.fall (sl_own (enc := encK) (fun _ => rfl) Ho.out) (Nat.le_refl _) (fun y hy => by
            unfold ptsAt at hy
            have hlo := HG.out.lo
            have hhi := HG.out.hi
            simp only [List.mem_cons, List.mem_map] at hy
            rcases hy with rfl | rfl | ⟨⟨r, u⟩, hru, rfl⟩
            · unfold BndK; simp only; omega
            · unfold BndK; simp only; omega
            · obtain ⟨j, hj, e⟩ := List.mem_iff_getElem.1 (List.mem_of_mem_take hru)
              rw [List.length_zip] at hj
              rw [List.getElem_zip] at e
              cases e
              have h1 := Hv.out j (by omega) (by omega)
              have h2 := HG.out.r (l[j]'(by omega)) (List.getElem_mem _)
              unfold BndK; simp only; omega) (by omega))
          rw [show decide (Agree q.rise q.fall (ptsAt q l t x vals l.length)) = true from decide_eq_true (by rw [HP.out]; exact Hag.out)] at HAg
          go_wp2_with (go_at_call 46; refine HAg.out.mono ?_; rintro r w7 ⟨rfl, hb7⟩)
          go_ret
          exact ⟨rfl, (HU.out wr Hb2.out).trans (hb7.mono (by omega))⟩
end Go.Proofs.Ytcgnpndfhhcplaa
