/-
  Stays: the specification's next stay of a worker. Conditions: how the table and the list lie in memory; the names' sizes are ints.
-/
import Derived.Test.YtjpgnfekbojcaaaGreatWAir9
import Derived.Test.YtjpgnfekbojcaaaGreatWRAir2
set_option maxHeartbeats 8000000
set_option maxRecDepth 100000
namespace Go.Proofs.YtjpgnfekbojcaaaGreat
open Go.RowKit W7 W8
attribute [local go_sem] Oper.semAt_some
theorem fault_last (t : Table) (l : List Dive) (d : Dive) : faultAt t (l ++ [d]) l.length = faultN t (aheadOf l l.length d.who) d := by
 unfold faultAt
 rw [show (l ++ [d]).getD l.length default = d by simp, ahead_all]
theorem own_cap0 {w : World} {base e size n : Nat} {g gb : Nat} {xs : List Value} {cs : Array Value} {T : Nat} {fz : Nat × Nat} (h : w.ownsRow base e size (.slice (some ⟨g, 0, none⟩) n 0) n xs) (hb : w.heap[gb]? = some (.cells cs T fz)) (hcs : 0 < cs.size) : some gb ≠ (Value.slice (some ⟨g, 0, none⟩) n 0).ownBlock := fun e1 => by
 have e2 : gb = g := Option.some.inj e1
 subst e2
 rcases h.2 with ⟨e0, _⟩ | ⟨g', cap, cur, e0, _, hg, _, _, hsz, _⟩
 ·cases e0
 ·cases e0
  rw [hb] at hg
  cases hg
  omega
theorem blk_src {w : World} {gb : Nat} {cs : Array Value} {T : Nat} (h : w.heap[gb]? = some (.cells cs T (0, 0))) (hs : cs.size = 5) : Src w 5 (some ⟨gb, 0, none⟩) 1 cs.toList := by
 refine .inr ⟨_, rfl, by simp [hs], fun j u hu => ?_⟩
 have h1 : (⟨gb, 0, none⟩ : Addr).add j = ⟨gb, j, none⟩ := by unfold Addr.add; split <;> simp_all
 rw [h1]
 exact W7.bc h (by simpa using hu)
theorem refNext_any (t : Table) (l : List Dive) (who : ByteArray) (p m ready : Int) (A : Option Addr) (n c B : Nat) (w : World) (ht : TIn w B t) (htl : t.rows.length <= 1000000000) (hn : n = l.length) (hA : Sl w B 5 encDive A l) (hz : A = none -> n = 0 /\ c = 0) (hB : B <= w.heap.size) (hnc : n <= c) (hc : c <= 9223372036854775807) (hw : ∀ d ∈ l, d.who.size <= maxLen) (hwho : who.size <= maxLen) :
  Calls Tryz.prog 50 #[tabV t, .slice A n c, .string who, .int .i64 p, .int .i64 m, .int .i64 ready] w fun e w' => e = .returned (.tuple #[diveV (nextR t l who p m ready).2, .int .i64 (nextR t l who p m ready).1]) /\ Below w.heap.size w w' := by
 obtain ⟨W0, HW0, hs0, HB0, HX00, HX01, HU0⟩ := boxes2 w (.cells #[.slice t.A t.rows.length t.c, .int .i64 t.rest, .int .i64 t.day] 74) (.cells #[.string ⟨#[]⟩, .int .i64 0, .int .i64 0, .int .i64 0, .int .i64 0] 84)
 have HT := hI (show ∀ X : World, Below W0.heap.size W0 X -> TIn X B t /\ Sl X B 5 encDive A l from fun X hX => ⟨ht.below ((HB0.out.mono hB).trans (hX.mono (by omega))), hA.below ((HB0.out.mono hB).trans (hX.mono (by omega)))⟩)
 have HF := hI (refFaults_any t l A n c B W0 (HT.out W0 (Below.refl _ _)).1 htl hn (HT.out W0 (Below.refl _ _)).2 (by omega) hw)
 have Hn := hI hn
 have Hz := hI hz
 have HR := hI (nextR.eq_1 t l who p m ready)
 obtain ⟨fe, hfe⟩ : ∃ x, x = faultsErr t l := ⟨_, rfl⟩
 rw [<- hfe] at HF HR
 have Hfe := hI hfe
 have q0 := W7.bc (j := 0) (HX00.out W0 (Below.refl _ _)) rfl
 have q1 := W7.bc (j := 1) (HX00.out W0 (Below.refl _ _)) rfl
 have q2 := W7.bc (j := 2) (HX00.out W0 (Below.refl _ _)) rfl
 clear ht hn hA hz hw hfe
 unfold tabV at HF
 unfold tabV
 have HBad := hI (show ∀ (k : Int) (X : World), nextR t l who p m ready = (k, noDive) -> Below W0.heap.size W0 X -> Ending.returned (.tuple #[diveV noDive, .int .i64 k]) = .returned (.tuple #[diveV (nextR t l who p m ready).2, .int .i64 (nextR t l who p m ready).1]) /\ Below w.heap.size w (set5w X (w.heap.size + 1) (.string ⟨#[]⟩) (.int .i64 0) (.int .i64 0) (.int .i64 0) (.int .i64 0)) from fun k X hk hX => by
  rw [hk]
  exact ⟨rfl, (HU0.out X hX).trans (set5_below (by omega))⟩)
 have HL0 := hI (World.ownsRow_nil W0 W0.heap.size 84 5)
 have hmx := max_run Tryz.prog
 go_enter Tryz.func50, Tryz.ntmps50
 go_upto_region 1 with fail
 rw [<- HW0.out]
 go_wp2_with (go_at_call 47; fail)
 refine HF.out.mono ?_
 rintro e w1 ⟨fv, rfl, hof, hb1⟩
 have hs1 := hb1.size
 have Hb1 := hI hb1
 have Hof := hI hof
 clear hb1 hof q0 q1 q2 HF
 have hd1 := HX01.out w1 Hb1.out
 have f0 := W7.bf (j := 0) hd1
 have f1 := W7.bf (j := 1) hd1
 have f2 := W7.bf (j := 2) hd1
 have f3 := W7.bf (j := 3) hd1
 have f4 := W7.bf (j := 4) hd1
 have d0 := W7.bc (j := 0) hd1 rfl
 have d1 := W7.bc (j := 1) hd1 rfl
 have d2 := W7.bc (j := 2) hd1 rfl
 have d3 := W7.bc (j := 3) hd1 rfl
 have d4 := W7.bc (j := 4) hd1 rfl
 have HG5 := hI (set5_cells hd1 (.string ⟨#[]⟩) (.int .i64 0) (.int .i64 0) (.int .i64 0) (.int .i64 0))
 have hgz : w.heap.size + 1 < w1.heap.size := by omega
 clear hd1
 cases h0 : (fe == 0)
 ·have h0' : (fe != 0) = true := by simp [bne, h0]
  have hne : fe ≠ 0 := fun h => by rw [h] at h0; cases h0
  have HE := hI (HBad.out fe w1 (by rw [HR.out, if_pos hne]) Hb1.out)
  unfold set5w at HE HG5
  clear hne
  go_wp2
  obtain ⟨g0, g1, g2, g3, g4⟩ := HG5.out
  refine bodyPost_ret (v := .tuple #[diveV noDive, .int .i64 fe]) (by simp [results, Tryz.results50, go_sem, g0, g1, g2, g3, g4, diveV, noDive]) rfl HE.out
 have h0' : (fe != 0) = false := by simp [bne, h0]
 have hf0 : fe = 0 := eq_of_beq h0
 have HF0 := hI (show faultsErr t l = 0 by rw [<- Hfe.out]; exact hf0)
 have HRa := hI (HR.out.trans (if_neg (by rw [hf0]; decide)))
 obtain ⟨FA, fc, rfl, hfc1, hfc2⟩ := own_cap' Hof.out
 obtain ⟨fn, hfn⟩ : ∃ x, (faultsV t l).length = x := ⟨_, rfl⟩
 have HSf := hI (show Sl w1 w1.heap.size 1 encU8 FA (faultsV t l) from sl_own2 (k := 1) (fun _ => rfl) (base := W0.heap.size) (e := 90) (c := fc) (by rw [flat_u8]; exact Hof.out))
 have HfL := hI (show (faultsV t l).length <= 128 by
  have h1 := (faults_zero HF0.out).2.1
  unfold faultsV
  rw [if_pos HF0.out, List.length_map, List.length_range]
  omega)
 rw [hfn] at hfc1
 have HL128 := hI (show n <= 128 by
  rw [Hn.out]
  have h1 := (faults_zero HF0.out).2.1
  omega)
 have hfn2 : fn <= 128 := by rw [<- hfn]; exact HfL.out
 have Hfn := hI hfn
 rw [hfn]
 clear hfn hf0 HfL Hof
 obtain ⟨fl, hfl⟩ : ∃ x, faultsV t l = x := ⟨_, rfl⟩
 rw [hfl] at HSf HRa Hfn
 clear hfl
 go_upto_region 5 with fail
 go_loopw [16] (fun v16 wr => ∃ i : Nat, i <= fn /\ v16 = .int .i64 i /\ Hid ((fl.take i).all noFault = true) /\ wr = w1) (fun v16 _ => fn - (intOf v16).toNat)
 case atStart => exact ⟨0, by omega, rfl, hI (by simp), rfl⟩
 case round =>
  obtain ⟨i, hi, rfl, Hta, hwr⟩ := hrel
  have hwr2 := hwr.symm
  subst hwr2
  by_cases hlt : i < fn
  ·have hil : i < fl.length := by have := Hfn.out; omega
   obtain ⟨b, off, hbe, hbB, hcells⟩ := HSf.out (by omega)
   subst hbe
   have c0 : w1.cell? ⟨b, off + i, none⟩ = some (.int .u8 fl[i]) := by have h := hcells i hil 0 _ rfl; rwa [Nat.mul_one, Nat.add_zero] at h
   have Hal := hI (show (fl.take (i + 1)).all noFault = noFault fl[i] by rw [List.take_succ_eq_append_getElem hil, List.all_append, Hta.out]; simp)
   have Hno := hI (show noFault fl[i] = false -> fl.all noFault = false from fun h => by
    rw [Bool.eq_false_iff]
    intro ha
    rw [List.all_eq_true] at ha
    rw [ha _ (List.getElem_mem hil)] at h
    cases h)
   generalize fl[i] = x at c0 Hal Hno
   clear hcells
   cases hx : (x == 0)
   ·have hx' : (x != 0) = true := by simp [bne, hx]
    have HE := hI (HBad.out 8 w1 (by rw [HRa.out, Hno.out hx]; rfl) Hb1.out)
    unfold set5w at HE HG5
    go_wp2
    obtain ⟨g0, g1, g2, g3, g4⟩ := HG5.out
    refine bodyPost_ret (v := .tuple #[diveV noDive, .int .i64 8]) (by simp [results, Tryz.results50, go_sem, g0, g1, g2, g3, g4, diveV, noDive]) rfl HE.out
   ·have hx' : (x != 0) = false := by simp [bne, hx]
    have HT2 := hI (show (fl.take (i + 1)).all noFault = true by rw [Hal.out]; exact hx)
    go_wp2
    go_roundw
    case rel => exact ⟨i + 1, by omega, by go_num, HT2, by first | rfl | trivial⟩
    case measure => simp [intOf]; omega
  ·have Haf := hI (show fl.all noFault = true by
    have h1 := Hta.out
    rwa [List.take_of_length_le (by have := Hfn.out; omega)] at h1)
   have HRb := hI (HRa.out.trans (if_pos Haf.out))
   clear f0 f1 f2 f3 f4 d0 d1 d2 d3 d4 HG5 Hta HSf HRa
   have HOt := hI (refOut_any t p m B w1 (HT.out w1 Hb1.out).1 (by omega) htl)
   unfold tabV at HOt
   have HPo := hI (fun r hr => out_pos (t := t) (p := p) (m := m) (r := r) (faults_zero HF0.out).1 hr)
   have HOO := hI (show outOf t p m = (match cntRow t p m with | some r => r.out | none => -1) from rfl)
   have ht1 := HX00.out w1 Hb1.out
   have q0 := W7.bc (j := 0) ht1 rfl
   have q1 := W7.bc (j := 1) ht1 rfl
   have q2 := W7.bc (j := 2) ht1 rfl
   clear ht1
   generalize outOf t p m = oo at HOt HOO
   go_upto_region 10 with (go_at_call 105; refine HOt.out.mono ?_; rintro e w2 ⟨rfl, hb2⟩; have Hb2 := hI (Hb1.out.trans (hb2.mono hs1)); have hs2 := hb2.size; clear hb2)
   clear q0 q1 q2 HOt
   have hd2 := HX01.out w2 Hb2.out
   have f0 := W7.bf (j := 0) hd2
   have f1 := W7.bf (j := 1) hd2
   have f2 := W7.bf (j := 2) hd2
   have f3 := W7.bf (j := 3) hd2
   have f4 := W7.bf (j := 4) hd2
   have d0 := W7.bc (j := 0) hd2 rfl
   have d1 := W7.bc (j := 1) hd2 rfl
   have d2 := W7.bc (j := 2) hd2 rfl
   have d3 := W7.bc (j := 3) hd2 rfl
   have d4 := W7.bc (j := 4) hd2 rfl
   have HG5 := hI (set5_cells hd2 (.string ⟨#[]⟩) (.int .i64 0) (.int .i64 0) (.int .i64 0) (.int .i64 0))
   clear hd2
   cases hN : nameB who
   ·have HE := hI (fun X hX => HBad.out 5 X (by rw [HRb.out, hN]; rfl) hX)
    go_wp2_with (first | (go_at_call 99; refine (refName_any who hwho _).mono ?_; rintro e w' ⟨rfl, rfl⟩) | (go_at_call 77; refine (timed_any _ _).mono ?_; rintro e w' ⟨rfl, rfl⟩))
    have HE := hI (HE.out _ Hb2.out)
    unfold set5w at HE HG5
    obtain ⟨g0, g1, g2, g3, g4⟩ := HG5.out
    refine bodyPost_ret (v := .tuple #[diveV noDive, .int .i64 5]) (by simp [results, Tryz.results50, go_sem, g0, g1, g2, g3, g4, diveV, noDive]) rfl HE.out
   cases h1 : isTm p
   ·have HE := hI (fun X hX => HBad.out 1 X (by rw [HRb.out, hN, h1]; rfl) hX)
    go_wp2_with (first | (go_at_call 99; refine (refName_any who hwho _).mono ?_; rintro e w' ⟨rfl, rfl⟩) | (go_at_call 77; refine (timed_any _ _).mono ?_; rintro e w' ⟨rfl, rfl⟩))
    have HE := hI (HE.out _ Hb2.out)
    unfold set5w at HE HG5
    obtain ⟨g0, g1, g2, g3, g4⟩ := HG5.out
    refine bodyPost_ret (v := .tuple #[diveV noDive, .int .i64 1]) (by simp [results, Tryz.results50, go_sem, g0, g1, g2, g3, g4, diveV, noDive]) rfl HE.out
   cases h2 : isTm m
   ·have HE := hI (fun X hX => HBad.out 1 X (by rw [HRb.out, hN, h1, h2]; rfl) hX)
    go_wp2_with (first | (go_at_call 99; refine (refName_any who hwho _).mono ?_; rintro e w' ⟨rfl, rfl⟩) | (go_at_call 77; refine (timed_any _ _).mono ?_; rintro e w' ⟨rfl, rfl⟩))
    have HE := hI (HE.out _ Hb2.out)
    unfold set5w at HE HG5
    obtain ⟨g0, g1, g2, g3, g4⟩ := HG5.out
    refine bodyPost_ret (v := .tuple #[diveV noDive, .int .i64 1]) (by simp [results, Tryz.results50, go_sem, g0, g1, g2, g3, g4, diveV, noDive]) rfl HE.out
   cases h3 : isTm ready
   ·have HE := hI (fun X hX => HBad.out 1 X (by rw [HRb.out, hN, h1, h2, h3]; rfl) hX)
    go_wp2_with (first | (go_at_call 99; refine (refName_any who hwho _).mono ?_; rintro e w' ⟨rfl, rfl⟩) | (go_at_call 77; refine (timed_any _ _).mono ?_; rintro e w' ⟨rfl, rfl⟩))
    have HE := hI (HE.out _ Hb2.out)
    unfold set5w at HE HG5
    obtain ⟨g0, g1, g2, g3, g4⟩ := HG5.out
    refine bodyPost_ret (v := .tuple #[diveV noDive, .int .i64 1]) (by simp [results, Tryz.results50, go_sem, g0, g1, g2, g3, g4, diveV, noDive]) rfl HE.out
   cases h4 : (m == 0)
   rotate_left
   ·have HE := hI (fun X hX => HBad.out 1 X (by rw [HRb.out, hN, h1, h2, h3, h4]; rfl) hX)
    go_wp2_with (first | (go_at_call 99; refine (refName_any who hwho _).mono ?_; rintro e w' ⟨rfl, rfl⟩) | (go_at_call 77; refine (timed_any _ _).mono ?_; rintro e w' ⟨rfl, rfl⟩))
    have HE := hI (HE.out _ Hb2.out)
    unfold set5w at HE HG5
    obtain ⟨g0, g1, g2, g3, g4⟩ := HG5.out
    refine bodyPost_ret (v := .tuple #[diveV noDive, .int .i64 1]) (by simp [results, Tryz.results50, go_sem, g0, g1, g2, g3, g4, diveV, noDive]) rfl HE.out
   have HRc := hI (HRb.out.trans (by rw [hN, h1, h2, h3, h4]; exact rfl) : nextR t l who p m ready = (match cntRow t p m with | none => (7, noDive) | some r => match nextGo t l who p m r.out 100001 (nextFrom l ready) with | none => (9, noDive) | some a => (0, nextDv who p m r.out a)))
   have hp1 := isTm_true.1 h1
   have hm1 := isTm_true.1 h2
   have hr1 := isTm_true.1 h3
   generalize cntRow t p m = cr at HOO HRc HPo
   go_upto_region 14 with (first | (go_at_call 99; refine (refName_any who hwho _).mono ?_; rintro e w' ⟨rfl, rfl⟩) | (go_at_call 77; refine (timed_any _ _).mono ?_; rintro e w' ⟨rfl, rfl⟩))
   cases cr with
   | none =>
    have hneg : oo < 0 := by rw [HOO.out]; decide
    have HE := hI (fun X hX => HBad.out 7 X (by rw [HRc.out]) hX)
    go_wp2
    have HE := hI (HE.out _ Hb2.out)
    unfold set5w at HE HG5
    obtain ⟨g0, g1, g2, g3, g4⟩ := HG5.out
    refine bodyPost_ret (v := .tuple #[diveV noDive, .int .i64 7]) (by simp [results, Tryz.results50, go_sem, g0, g1, g2, g3, g4, diveV, noDive]) rfl HE.out
   | some r =>
    have hrp := HPo.out r rfl
    have hoo : oo = r.out := HOO.out
    subst hoo
    have hpos : ¬ r.out < 0 := by omega
    clear HPo HOO f0 f1 f2 f3 f4 d0 d1 d2 d3 d4 HG5
    have HRd := hI (HRc.out)
    have HOk := hI (ok_of_dives (faults_zero HF0.out).2.2)
    have hat : 0 <= nextFrom l ready /\ nextFrom l ready <= 100000 := by
     unfold nextFrom
     by_cases h : 0 < l.length
     ·rw [if_pos h, getD_lt (by omega)]
      have := (HOk.out _ (List.getElem_mem (show l.length - 1 < l.length by omega))).tin
      omega
     ·rw [if_neg h]; exact hr1
    obtain ⟨at', hat'⟩ : ∃ x, nextFrom l ready = x := ⟨_, rfl⟩
    rw [hat'] at hat HRd
    have Hat := hI hat'
    clear hat'
    go_upto_if 79 with fail
    go_cut [18] (fun v18 wx => v18 = .int .i64 at' /\ wx = w2)
    case first =>
     by_cases hn0 : 0 < n
     ·obtain ⟨b, off, hbe, hbB, hcells⟩ := (HT.out w2 Hb2.out).2 (by have := Hn.out; omega)
      subst hbe
      have c2 : w2.cell? ⟨b, off + (n - 1) * 5 + 2, none⟩ = some (.int .i64 (l.getD (n - 1) default).tin) := by
       rw [getD_lt (by have := Hn.out; omega)]
       exact hcells (n - 1) (by have := Hn.out; omega) 2 _ rfl
      have HAt := hI (show at' = max ready (l.getD (n - 1) default).tin by rw [<- Hat.out]; unfold nextFrom; rw [<- Hn.out, if_pos hn0])
      generalize (l.getD (n - 1) default).tin = x at c2 HAt
      clear hcells
      go_wp2
      go_meet
      exact ⟨by rw [HAt.out], rfl⟩
     ·have HAt := hI (show at' = ready by rw [<- Hat.out]; unfold nextFrom; rw [<- Hn.out, if_neg hn0])
      go_wp2
      go_meet
      exact ⟨by rw [HAt.out], rfl⟩
    case rest =>
     obtain ⟨rfl, hwc⟩ := hcut
     have hwc' := hwc.symm
     subst hwc'
     go_wp2
     go_loopw [19] (fun v19 wr => ∃ (a : Int) (f : Nat), at' <= a /\ a <= 100001 /\ v19 = .int .i64 a /\ Hid (f + (a - at').toNat = 100001) /\ Hid (nextGo t l who p m r.out 100001 at' = nextGo t l who p m r.out f a) /\ Hid (Below W0.heap.size W0 wr)) (fun v19 _ => (100001 - intOf v19).toNat)
     case atStart => exact ⟨at', 100001, by omega, by omega, rfl, hI (by omega), hI rfl, Hb2⟩
     case round =>
      obtain ⟨a, f, ha1, ha2, rfl, Hf, Hng, Hb⟩ := hrel
      have hsr := Hb.out.size
      have hm0 := hm1.1
      have hro := hrp
      by_cases hle : a + m + r.out <= 100000
      ·obtain ⟨f', hf'⟩ : ∃ f', f = f' + 1 := ⟨f - 1, by have := Hf.out; omega⟩
       obtain ⟨dv, hdv⟩ : ∃ dv, dv = nextDv who p m r.out a := ⟨_, rfl⟩
       have Hng2 := hI (show nextGo t l who p m r.out 100001 at' = if faultN t (aheadOf l l.length who) dv = 0 then some a else nextGo t l who p m r.out f' (a + 1) by
        rw [Hng.out, hf', hdv]
        show (if a + m + r.out <= 100000 then _ else _) = _
        rw [if_pos hle])
       have Hf2 := hI (show f' + (a + 1 - at').toNat = 100001 by have := Hf.out; omega)
       have Hok2 := hI (show OkDive dv by rw [hdv]; exact ⟨hp1, ⟨by show 0 <= a; omega, by show a <= 100000; omega⟩, ⟨by show 0 <= a + m; omega, by show a + m <= 100000; omega⟩, ⟨by show 0 <= a + m + r.out; omega, by show a + m + r.out <= 100000; omega⟩⟩)
       have Hdw := hI (show dv.who = who by rw [hdv]; rfl)
       have Hde := hI (show encDive dv = (#[.string who, .int .i64 p, .int .i64 a, .int .i64 (a + m), .int .i64 (a + m + r.out)] : Array Value).toList by rw [hdv]; rfl)
       have Hdn := hI hdv
       clear hdv hf' Hf Hng
       go_upto_region 23 with fail
       obtain ⟨W4, hW4⟩ : ∃ W4, W4 = wr.alloc (.cells #[.string who, .int .i64 p, .int .i64 a, .int .i64 (a + m), .int .i64 (a + m + r.out)] 84) := ⟨_, rfl⟩
       have hs4 : wr.heap.size + 1 <= W4.heap.size := by rw [hW4]; simp
       have HB4 := hI (show Below W0.heap.size W0 W4 by rw [hW4]; exact Hb.out.alloc (by omega) _)
       have hgd : W4.heap[wr.heap.size]? = some (.cells #[.string who, .int .i64 p, .int .i64 a, .int .i64 (a + m), .int .i64 (a + m + r.out)] 84 (0, 0)) := by rw [hW4]; exact heap_alloc_new _ _
       have Hgd := hI hgd
       rw [<- hW4]
       clear hW4
       have y0 := later_cell (bc (j := 0) hgd rfl) (by omega)
       have y1 := later_cell (bc (j := 1) hgd rfl) (by omega)
       have y2 := later_cell (bc (j := 2) hgd rfl) (by omega)
       have y3 := later_cell (bc (j := 3) hgd rfl) (by omega)
       have y4 := later_cell (bc (j := 4) hgd rfl) (by omega)
       clear hgd
       have HSl := hI (fun (X : World) (hX : Below W4.heap.size W4 X) => (HT.out X (HB4.out.trans (hX.mono (by omega)))).2)
       have hl128 := HL128.out
       have HSrc := hI (show ∀ X : World, Below W4.heap.size W4 X -> Src X 5 A n (l.flatMap encDive) from fun X hX => by
        cases A with
        | none =>
         have h1 := (Hz.out rfl).1
         have h2 : l = [] := List.length_eq_zero_iff.1 (by rw [<- Hn.out]; exact h1)
         exact .inl ⟨rfl, h1, by rw [h2]; rfl⟩
        | some ad => exact src_of_sl (HSl.out X hX) Hn.out)
       have Hone := hI (show ∀ u ∈ l.flatMap encDive, u.oneCell' = true from fun u hu => by
        obtain ⟨x, _, hx⟩ := List.mem_flatMap.1 hu
        simp only [encDive, List.mem_cons, List.not_mem_nil, or_false] at hx
        rcases hx with rfl | rfl | rfl | rfl | rfl <;> rfl)
       obtain ⟨C, hC⟩ : ∃ C : (Nat -> Bool) -> (Nat -> Value) -> World -> Prop, C = fun L V w' => ∃ e : Later W4, w' = e.w /\ (L 5 = true -> L 2 = true /\ L 4 = true) /\ (L 0 = true -> L 2 = false -> Hid (∃ g, V 0 = .slice (some ⟨g, 0, none⟩) 0 0 /\ e.w.ownsRow W4.heap.size 84 5 (V 0) 0 [])) /\ (L 1 = true -> V 1 = .slice A n c) /\ (L 2 = true -> L 5 = false -> Hid (e.w.ownsRow W4.heap.size 84 5 (V 2) n (l.flatMap encDive))) /\ (L 3 = true -> V 3 = .agg #[.string who, .int .i64 p, .int .i64 a, .int .i64 (a + m), .int .i64 (a + m + r.out)]) /\ (L 4 = true -> L 5 = false -> Hid (∃ gb, V 4 = .slice (some ⟨gb, 0, none⟩) 1 1 /\ e.w.heap[gb]? = some (.cells #[.string who, .int .i64 p, .int .i64 a, .int .i64 (a + m), .int .i64 (a + m + r.out)] 84 (0, 0)))) /\ (L 5 = true -> Hid (e.w.ownsRow W4.heap.size 84 5 (V 5) (n + 1) (l.flatMap encDive ++ (#[.string who, .int .i64 p, .int .i64 a, .int .i64 (a + m), .int .i64 (a + m + r.out)] : Array Value).toList))) /\ (L 6 = true -> L 5 = true /\ V 6 = V 5) := ⟨_, rfl⟩
       have HC := hI hC
       clear hC
       refine wp_region_opsA [110, 111, 112, 113, 114, 115, 21] C (by kernel_rfl) (by kernel_rfl) (by decide) (by kernel_rfl) (by kernel_rfl) ?_ ?_ ?_
       ·rw [HC.out]
        exact ⟨⟨_, (Below.refl W4.heap.size W4).drew⟩, rfl, nff, nff, nff, nff, nff, nff, nff, nff⟩
       ·rintro L V w' ii o AA hii ho hLi haf hInv hAA hFF
        rw [HC.out] at hInv
        obtain ⟨e, rfl, p1, h0, h1, h2, h3, h4, h5, h6⟩ := hInv
        have hse : W4.heap.size <= e.w.heap.size := e.b.size
        rcases ii with _ | _ | _ | _ | _ | _ | _ | ii
        case succ.succ.succ.succ.succ.succ.succ => (simp at hii; try omega)
        all_goals (simp only [List.getElem?_cons_zero, List.getElem?_cons_succ, Option.some.injEq] at ho; subst ho)
        all_goals clear hii
        ·go_wp2
         rw [HC.out]
         exact ⟨_, rfl, ⟨_, e.b.alloc hse (.cells #[] 84)⟩, rfl, p1, fun _ _ => hI ⟨_, rfl, World.ownsRow_lit (base := W4.heap.size) (e := 84) (size := 5) e.w #[] 0 hse (by unfold maxLen; omega) rfl⟩, h1, fun y y2 => hI ((h2 y y2).out.alloc _), h3, fun y y2 => (by obtain ⟨gb, p1, p2⟩ := (h4 y y2).out; exact hI ⟨gb, p1, (Below.heap_alloc _ _ _ (blk_lt p2)).trans p2⟩), fun y => hI ((h5 y).out.alloc _), h6⟩
        ·have f1 : AA.tmps[1]?.getD undef = .slice A n c := hFF.out 1 (by decide)
         go_wp2
         rw [HC.out]
         exact ⟨_, rfl, e, rfl, p1, h0, fun _ => rfl, h2, h3, h4, h5, h6⟩
        ·obtain ⟨g, hv0, ho0⟩ := (h0 (haf ⟨0, .data⟩ (by simp) rfl) hLi).out
         have a0 := hAA.out 0 110 rfl
         have a1 := (hAA.out 1 111 rfl).trans (h1 (haf ⟨1, .data⟩ (by simp) rfl))
         have HS := hI (HSrc.out e.w e.b)
         have Hp1 := hI (show L 5 = true -> False from fun y => by rw [(p1 y).1] at hLi; cases hLi)
         have HK4 := hI (fun (X : World) (hX : e.w.grownBy X (V 0).ownBlock) (y : L 4 = true) (y2 : L 5 = false) => show Hid (∃ gb, V 4 = .slice (some ⟨gb, 0, none⟩) 1 1 /\ X.heap[gb]? = some (.cells #[.string who, .int .i64 p, .int .i64 a, .int .i64 (a + m), .int .i64 (a + m + r.out)] 84 (0, 0))) from by
          obtain ⟨gb, p1, p2⟩ := (h4 y y2).out
          rw [hv0] at ho0 hX
          exact hI ⟨gb, p1, (hX.block gb (blk_lt p2) (own_cap0 ho0 p2 (by simp))).trans p2⟩)
         clear hv0
         refine wpList_appendL rfl _ _ 75 rfl W4.heap.size 84 _ 5 48 elemDi _ _ _ (by rw [<- a0]; simp [Act.eval]) ho0 _ n _ _ (by rw [<- a1]; simp [Act.eval]) HS.out Hone.out (by omega) hse ?_
         intro v6 w6 hown6 hb6 hsz6 hg6 hblk6
         have HF6 := hI (And.intro (show w6.ownsRow W4.heap.size 84 5 v6 n (l.flatMap encDive) by simpa using hown6) (And.intro hb6 hg6))
         clear hown6 hb6 hsz6 hg6 hblk6 ho0
         go_wp2
         rw [HC.out]
         exact ⟨_, rfl, ⟨_, e.b.trans HF6.out.2.1⟩, rfl, fun z => ⟨rfl, (p1 z).2⟩, fun _ y => absurd y (by simp), h1, fun _ _ => hI HF6.out.1, h3, fun y y2 => HK4.out _ HF6.out.2.2 y y2, fun y => (Hp1.out y).elim, h6⟩
        ·have f20 : AA.tmps[20]?.getD undef = .pointer (some ⟨wr.heap.size, 0, none⟩) := hFF.out 20 (by decide)
         go_wp2
         rw [HC.out]
         exact ⟨_, rfl, e, rfl, p1, h0, h1, h2, fun _ => rfl, h4, h5, h6⟩
        ·have a3 := (hAA.out 3 113 rfl).trans (h3 (haf ⟨3, .data⟩ (by simp) rfl))
         go_wp2
         rw [HC.out]
         exact ⟨_, rfl, ⟨_, e.b.alloc hse (.cells (#[.string who, .int .i64 p, .int .i64 a, .int .i64 (a + m), .int .i64 (a + m + r.out)] : Array Value) 84)⟩, rfl, fun z => ⟨(p1 z).1, rfl⟩, fun y y2 => (by obtain ⟨g, p1, p2⟩ := (h0 y y2).out; exact hI ⟨g, p1, p2.alloc _⟩), h1, fun y y2 => hI ((h2 y y2).out.alloc _), h3, fun _ _ => hI ⟨_, rfl, heap_alloc_new _ _⟩, fun y => hI ((h5 y).out.alloc _), h6⟩
        ·have hL2 := haf ⟨2, .data⟩ (by simp) rfl
         have hL4 := haf ⟨4, .data⟩ (by simp) rfl
         have ho2 := (h2 hL2 hLi).out
         obtain ⟨gb, hgb, hnb⟩ := (h4 hL4 hLi).out
         have a2 := hAA.out 2 112 rfl
         have a4 := (hAA.out 4 114 rfl).trans hgb
         have HS := hI (blk_src hnb rfl)
         have Hx := hI (show L 2 = false -> False from fun y => by rw [y] at hL2; cases hL2)
         clear hgb
         refine wpList_appendL rfl _ _ 75 rfl W4.heap.size 84 _ 5 48 elemDi _ _ _ (by rw [<- a2]; simp [Act.eval]) ho2 _ 1 _ _ (by rw [<- a4]; simp [Act.eval]) HS.out (by simp [Value.oneCell']) (by omega) hse ?_
         intro v6 w6 hown6 hb6 hsz6 hg6 hblk6
         have HF6 := hI (And.intro hown6 hb6)
         have HLL := hI (And.intro hL2 hL4)
         have HL6 := hI (show L 6 = true -> False from fun z => by rw [(h6 z).1] at hLi; cases hLi)
         clear hown6 hb6 hsz6 hg6 hblk6 ho2 hL2 hL4
         go_wp2
         rw [HC.out]
         exact ⟨_, rfl, ⟨_, e.b.trans HF6.out.2⟩, rfl, fun _ => HLL.out, fun y y2 => (Hx.out y2).elim, h1, fun _ y => absurd y (by simp), h3, fun _ y => absurd y (by simp), fun _ => hI HF6.out.1, fun z => (HL6.out z).elim⟩
        ·have a5 := hAA.out 5 115 rfl
         have HL5 := hI (haf ⟨5, .data⟩ (by simp) rfl)
         go_wp2
         rw [HC.out]
         exact ⟨_, rfl, e, rfl, p1, h0, h1, h2, h3, h4, h5, fun _ => ⟨HL5.out, rfl⟩⟩
       ·rintro L V w' hL hInv
        rw [HC.out] at hInv
        obtain ⟨e, rfl, p1, h0, h1, h2, h3, h4, h5, h6⟩ := hInv
        have ho4 := (h5 (hL 5 (by simp))).out
        have h65 := (h6 (hL 6 (by simp))).2
        obtain ⟨A2, c2, hv4, hc21, hc22⟩ := own_cap' ho4
        simp only [putAll]
        rw [h65, hv4]
        rw [hv4] at ho4
        go_frame
        have HBe := hI (HB4.out.trans (e.b.mono (by omega)))
        have hse2 := e.b.size
        have He4 := hI e.b
        have HSl2 := hI (show Sl e.w e.w.heap.size 5 encDive A2 (l ++ [dv]) from sl_own2 lenDi (base := W4.heap.size) (e := 84) (c := c2) (by rw [show (l ++ [dv]).length = n + 1 by rw [List.length_append, <- Hn.out]; rfl, List.flatMap_append, List.flatMap_cons, List.flatMap_nil, List.append_nil, Hde.out]; exact ho4))
        have HFl := hI (refFault_any t (l ++ [dv]) A2 (n + 1) c2 n e.w.heap.size e.w ((HT.out e.w HBe.out).1.mono (by omega)) htl (faults_zero HF0.out).1 (by rw [List.length_append, <- Hn.out]; rfl) HSl2.out (Nat.le_refl _) (by omega) (fun d hd => by
         rcases List.mem_append.1 hd with h9 | h9
         ·exact HOk.out d h9
         ·rw [List.mem_singleton.1 h9]; exact Hok2.out) (by omega))
        have HFe := hI (show faultAt t (l ++ [dv]) n = faultN t (aheadOf l l.length who) dv by rw [Hn.out, fault_last, Hdw.out])
        have hq := HX00.out e.w HBe.out
        have q0 := W7.bc (j := 0) hq rfl
        have q1 := W7.bc (j := 1) hq rfl
        have q2 := W7.bc (j := 2) hq rfl
        clear hq ho4 p1 h0 h1 h2 h3 h4 h5 h6 h65 hv4 y0 y1 y2 y3 y4 hL
        rw [HFe.out] at HFl
        obtain ⟨fv, hfv0⟩ : ∃ x, faultN t (aheadOf l l.length who) dv = x := ⟨_, rfl⟩
        rw [hfv0] at HFl Hng2
        clear hfv0
        unfold tabV at HFl
        generalize e.w = we at HBe hse2 He4 HFl q0 q1 q2
        cases hfv : (fv == 0)
        ·have HN := hI (show nextGo t l who p m r.out 100001 at' = nextGo t l who p m r.out f' (a + 1) by rw [Hng2.out, if_neg (fun h => by rw [h] at hfv; cases hfv)])
         go_wp2_with (go_at_call 109; refine HFl.out.mono ?_; rintro e w8 ⟨rfl, hb8⟩; have hs8 := hb8.size; have Hb8 := hI hb8; clear hb8)
         go_roundw
         case rel => exact ⟨a + 1, f', by omega, by omega, by go_num, Hf2, HN, hI (HBe.out.trans (Hb8.out.mono (by omega)))⟩
         case measure => simp [intOf]; omega
        ·have HN := hI (show nextGo t l who p m r.out 100001 at' = some a by rw [Hng2.out, if_pos (eq_of_beq hfv)])
         go_upto_region 25 with (go_at_call 109; refine HFl.out.mono ?_; rintro e w8 ⟨rfl, hb8⟩; have hs8 := hb8.size; have Hb8 := hI hb8; clear hb8)
         have HE8 := hI (HBe.out.trans (Hb8.out.mono (by omega)))
         have hq8 := ((He4.out.trans (Hb8.out.mono (by omega))).block _ (blk_lt Hgd.out)).trans Hgd.out
         have hr8 := HX01.out w8 HE8.out
         clear q0 q1 q2
         have f0 := W7.bf (j := 0) hr8
         have f1 := W7.bf (j := 1) hr8
         have f2 := W7.bf (j := 2) hr8
         have f3 := W7.bf (j := 3) hr8
         have f4 := W7.bf (j := 4) hr8
         have d0 := W7.bc (j := 0) hr8 rfl
         have d1 := W7.bc (j := 1) hr8 rfl
         have d2 := W7.bc (j := 2) hr8 rfl
         have d3 := W7.bc (j := 3) hr8 rfl
         have d4 := W7.bc (j := 4) hr8 rfl
         have k0 := bc (j := 0) hq8 rfl
         have k1 := bc (j := 1) hq8 rfl
         have k2 := bc (j := 2) hq8 rfl
         have k3 := bc (j := 3) hq8 rfl
         have k4 := bc (j := 4) hq8 rfl
         have HG5 := hI (set5_cells hr8 (.string who) (.int .i64 p) (.int .i64 a) (.int .i64 (a + m)) (.int .i64 (a + m + r.out)))
         have HRf := hI (show nextR t l who p m ready = (0, nextDv who p m r.out a) by rw [HRd.out, HN.out])
         have HFin := hI (show Below w.heap.size w (set5w w8 (w.heap.size + 1) (.string who) (.int .i64 p) (.int .i64 a) (.int .i64 (a + m)) (.int .i64 (a + m + r.out))) from (HU0.out _ HE8.out).trans (set5_below (by omega)))
         clear hq8 hr8
         go_wp2
         unfold set5w at HFin HG5
         obtain ⟨g0, g1, g2, g3, g4⟩ := HG5.out
         refine bodyPost_ret (v := .tuple #[diveV (nextDv who p m r.out a), .int .i64 0]) (by simp [results, Tryz.results50, go_sem, g0, g1, g2, g3, g4, diveV, nextDv]) rfl ?_
         rw [HRf.out]
         exact ⟨rfl, HFin.out⟩
      ·have HN := hI (show nextGo t l who p m r.out 100001 at' = none by
        rw [Hng.out]
        cases f with
        | zero => rfl
        | succ f' => show (if a + m + r.out <= 100000 then _ else _) = _; rw [if_neg hle])
       have hr8 := HX01.out wr Hb.out
       have f0 := W7.bf (j := 0) hr8
       have f1 := W7.bf (j := 1) hr8
       have f2 := W7.bf (j := 2) hr8
       have f3 := W7.bf (j := 3) hr8
       have f4 := W7.bf (j := 4) hr8
       have d0 := W7.bc (j := 0) hr8 rfl
       have d1 := W7.bc (j := 1) hr8 rfl
       have d2 := W7.bc (j := 2) hr8 rfl
       have d3 := W7.bc (j := 3) hr8 rfl
       have d4 := W7.bc (j := 4) hr8 rfl
       have HG5 := hI (set5_cells hr8 (.string ⟨#[]⟩) (.int .i64 0) (.int .i64 0) (.int .i64 0) (.int .i64 0))
       have HE := hI (HBad.out 9 wr (by rw [HRd.out, HN.out]) Hb.out)
       clear hr8
       go_wp2
       unfold set5w at HE HG5
       obtain ⟨g0, g1, g2, g3, g4⟩ := HG5.out
       refine bodyPost_ret (v := .tuple #[diveV noDive, .int .i64 9]) (by simp [results, Tryz.results50, go_sem, g0, g1, g2, g3, g4, diveV, noDive]) rfl HE.out
end Go.Proofs.YtjpgnfekbojcaaaGreat
