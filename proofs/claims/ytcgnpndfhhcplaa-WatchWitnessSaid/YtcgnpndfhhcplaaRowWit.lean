/-
  The law WatchWitness answers true. Conditions: how its arguments lie in memory.
  WatchWitness holds: for every input the law returns true, and each argument reads behind the call as it read before. No condition of its own; the row's form is as given.
-/
import Derived.Test.YtcgnpndfhhcplaaRPossible
import Derived.Test.YtcgnpndfhhcplaaRSmall
import Derived.Test.YtcgnpndfhhcplaaWakes
import Derived.Test.YtcgnpndfhhcplaaMargin
import Derived.Test.YtcgnpndfhhcplaaInside
import Derived.Test.YtcgnpndfhhcplaaWalk
import Derived.Test.YtcgnpndfhhcplaaWitn
import Derived.Test.YtcgnpndfhhcplaaExpl
import Derived.Test.YtcgnpndfhhcplaaRows
import Derived.Test.YtcgnpndfhhcplaaOpen
namespace Go.Proofs.Ytcgnpndfhhcplaa
open Go.RowKit W7
attribute [local go_sem] Oper.semAt_some
theorem much_80W {q : Quantity} {l : List Reading} (h : muchB q l = false) : l.length ≤ 1000 := by
  simp only [muchB, Bool.or_eq_false_iff, Bool.and_eq_false_iff, decide_eq_false_iff_not] at h
  omega
theorem insLo_len (s : Span) (l : List Span) : (insLo s l).length = l.length + 1 := by
  induction l with
  | nil => rfl
  | cons u l ih => unfold insLo; split <;> simp [ih]
theorem sortLo_len (l : List Span) : (sortLo l).length = l.length := by
  induction l with
  | nil => rfl
  | cons u l ih => unfold sortLo at ih ⊢; rw [List.foldr_cons, insLo_len, ih]; rfl
theorem possX_len (q : Quantity) (l : List Reading) (t : Int) (hg : q.gs.length ≤ 8) : (possX q l t q.bad.toNat).length ≤ 256 := by
  unfold possX
  rw [← joinAt_all]
  have h1 := joinAt_len (sortLo ((subsN q.bad.toNat q.gs.length 0 []).filterMap (spX q l t))) _ (Nat.le_refl _)
  have h2 := List.length_filterMap_le (spX q l t) (subsN q.bad.toNat q.gs.length 0 [])
  have h3 := subsN_len q.bad.toNat q.gs.length 0 []
  have h4 : 2 ^ q.gs.length ≤ 2 ^ 8 := Nat.pow_le_pow_right (by omega) hg
  rw [sortLo_len] at h1
  rw [sortLo_len]
  omega
theorem canon_le : ∀ (sp : List Span), Canon sp → ∀ s ∈ sp, s.lo ≤ s.hi
  | [], _, _, h => by simp at h
  | u :: sp, hc, s, h => by
    rcases List.mem_cons.1 h with rfl | h
    · exact hc.1
    · exact canon_le sp hc.2.2 s h
theorem possS_ends {q : Quantity} {l : List Reading} {t : Int} (h : possE q l t = 0) : ∀ s ∈ possS q l t, withinS (possS q l t) s.lo = true ∧ withinS (possS q l t) s.hi = true := by
  intro s hs
  have hg := (good_of (possE_zero.1 h).1).1
  have hc : Canon (possS q l t) := by rw [possS, if_pos h]; exact (possX_is hg.rise.1 hg.fall.1).1
  have hle := canon_le _ hc s hs
  exact ⟨withinS_iff.2 ⟨s, hs, Int.le_refl _, hle⟩, withinS_iff.2 ⟨s, hs, hle, Int.le_refl _⟩⟩
theorem possS_len (q : Quantity) (l : List Reading) (t : Int) : (possS q l t).length ≤ 1000000 := by
  unfold possS
  split
  · rename_i h
    have := possX_len q l t (good_of (possE_zero.1 h).1).1.gl
    omega
  · simp
theorem wit_in {q : Quantity} {l : List Reading} {t x : Int} (h : possE q l t = 0) : withinS (possS q l t) x = true ↔ ∃ F ∈ subsN q.bad.toNat q.gs.length 0 [], WitOk q l t x F := by
  have hg := (good_of (possE_zero.1 h).1).1
  rw [withinS_iff, possS, if_pos h]
  exact wit_iff hg (isTm_true.1 (possE_zero.1 h).2) (possX_is hg.rise.1 hg.fall.1)
def vlsW (q : Quantity) (l : List Reading) (t x : Int) (F : List Int) : List Int := l.map fun r => witV q l t x F r.t
/-- what Witness answers -/
def WitL (q : Quantity) (l : List Reading) (t x : Int) (w : World) (e : Ending) (w' : World) : Prop :=
  Below w.heap.size w w' ∧
  ((e = .returned (.tuple #[.slice none 0 0, .slice none 0 0, .bool false, .int .i64 (possE q l t)]) ∧ withinS (possS q l t) x = false) ∨
   (possE q l t = 0 ∧ withinS (possS q l t) x = true ∧ ∃ (F : List Int) (vA A2 : Option Addr) (vc c2 : Nat), e = .returned (.tuple #[.slice vA F.length vc, .slice A2 l.length c2, .bool true, .int .i64 0]) ∧
      F ∈ subsN q.bad.toNat q.gs.length 0 [] ∧ WitOk q l t x F ∧ Sl w' w'.heap.size 1 encInt1 vA F ∧ Sl w' w'.heap.size 1 encInt1 A2 (vlsW q l t x F)))
theorem map_int1W (l : List Int) : l.map (Value.int .i64) = l.flatMap encInt1 := by
  induction l with
  | nil => rfl
  | cons x l ih => simp [encInt1, ih]
theorem WitnessL_any (q : Quantity) (l : List Reading) (t x : Int) (A : Option Addr) (c B : Nat) (w : World) (hq : QIn w B q) (hA : Sl w B 3 encR A l) (hB : B ≤ w.heap.size) (hlc : l.length ≤ c) (hc : c ≤ 9223372036854775807) (h12 : l.length ≤ 64 → l.length ≤ 12) :
    Calls Try.prog 27 #[.agg #[.string q.name, .int .i64 q.lo, .int .i64 q.hi, .int .i64 q.rise, .int .i64 q.fall, .int .i64 q.bad, .slice q.gA q.gs.length q.gc], .slice A l.length c, .int .i64 t, .int .i64 x] w (WitL q l t x w) := by
  refine (Witness_any q l t x A c B w hq hA hB hlc hc h12).mono ?_
  rintro e w' ⟨hb, (⟨he, hno⟩ | ⟨h0, F, vA, vc, v2, hF, hok, he, hS, ho⟩)⟩
  · refine ⟨hb, .inl ⟨he, ?_⟩⟩
    by_cases h : possE q l t = 0
    · cases hw : withinS (possS q l t) x
      · rfl
      · obtain ⟨F, hF, hok⟩ := (wit_in h).1 hw
        exact absurd hok (hno h F hF)
    · rw [possS, if_neg h]; rfl
  · obtain ⟨A2, c2, rfl, _⟩ := own_slice ho
    refine ⟨hb, .inr ⟨h0, (wit_in h0).2 ⟨F, hF, hok⟩, F, vA, A2, vc, c2, ?_, hF, hok, hS, ?_⟩⟩
    · rw [he, List.length_map]
    · rw [map_int1W] at ho
      exact sl_own (enc := encInt1) (fun _ => rfl) ho
theorem explW_any (q : Quantity) (l : List Reading) (t x : Int) (F : List Int) (A AF AV : Option Addr) (c cF cV B : Nat) (w : World) (hq : QIn w B q) (hA : Sl w B 3 encR A l) (hFm : Sl w B 1 encInt1 AF F) (hVm : Sl w B 1 encInt1 AV (vlsW q l t x F)) (hB : B ≤ w.heap.size)
    (hp : possE q l t = 0) (h12 : l.length ≤ 64 → l.length ≤ 12) (hF : F ∈ subsN q.bad.toNat q.gs.length 0 []) (hok : WitOk q l t x F) :
    Calls Try.prog 28 #[.agg #[.string q.name, .int .i64 q.lo, .int .i64 q.hi, .int .i64 q.rise, .int .i64 q.fall, .int .i64 q.bad, .slice q.gA q.gs.length q.gc], .slice A l.length c, .int .i64 t, .int .i64 x, .slice AF F.length cF, .slice AV l.length cV] w fun e w' => e = .returned (.bool true) ∧ Below w.heap.size w w' := by
  obtain ⟨hg, h64, _, hb0, hbg⟩ := good_of (possE_zero.1 hp).1
  have ht := isTm_true.1 (possE_zero.1 hp).2
  obtain ⟨hFs, hFl⟩ := subsN_iff.1 hF
  obtain ⟨hag, hv⟩ := wit_explains hg hok
  have hxb : -4000000000 ≤ x ∧ x ≤ 4000000000 := by
    have k1 := hok ⟨t, x, x⟩ (by simp [allK, moreX]) ⟨t, -4000000000, 4000000000⟩ (by simp [allK, moreX])
    have k2 := hok ⟨t, -4000000000, 4000000000⟩ (by simp [allK, moreX]) ⟨t, x, x⟩ (by simp [allK, moreX])
    simp only [dn_self] at k1 k2
    omega
  have hlen : (vlsW q l t x F).length = l.length := by simp [vlsW]
  have h := refExplains_any q l t x F (vlsW q l t x F) A AF AV c cF cV B w hq hA hFm hVm hB hg (h12 h64) ht hxb (by omega) hFs hlen (fun i h h2 => by
    have := hv l[i] (List.getElem_mem h)
    simp only [vlsW, List.getElem_map]
    exact this) hag
  rw [hlen] at h
  exact h
set_option maxHeartbeats 1000000 in
set_option maxRecDepth 100000 in
theorem LawWitness_any (q : Quantity) (l : List Reading) (t x : Int) (A : Option Addr) (c : Nat) (w : World) (hq : QIn w w.heap.size q) (hA : Sl w w.heap.size 3 encR A l) (hlc : l.length ≤ c) (hc : c ≤ 9223372036854775807) :
    Calls Try.prog 7 #[.agg #[.string q.name, .int .i64 q.lo, .int .i64 q.hi, .int .i64 q.rise, .int .i64 q.fall, .int .i64 q.bad, .slice q.gA q.gs.length q.gc], .slice A l.length c, .int .i64 t, .int .i64 x] w fun e w' => e = .returned (.bool true) ∧ Below w.heap.size w w' := by
  obtain ⟨cs, hcs⟩ : ∃ cs : Array Value, cs = #[.string q.name, .int .i64 q.lo, .int .i64 q.hi, .int .i64 q.rise, .int .i64 q.fall, .int .i64 q.bad, .slice q.gA q.gs.length q.gc] := ⟨_, rfl⟩
  obtain ⟨W0, hW0⟩ : ∃ W0, W0 = w.alloc (.cells cs 26) := ⟨_, rfl⟩
  have HB0 := Lib.hid (show Below w.heap.size w W0 by rw [hW0]; exact (Below.refl w.heap.size w).alloc (Nat.le_refl _) _)
  have Hs0 := Lib.hid (show W0.heap.size = w.heap.size + 1 by rw [hW0]; simp)
  have hs0 : w.heap.size < W0.heap.size := by have := Hs0.out; omega
  have Hc0 := Lib.hid (show ∀ j v, cs[j]? = some v → ∀ X, Below W0.heap.size W0 X → X.cell? ⟨w.heap.size, j, none⟩ = some v from fun j v hv X hX => (hX.cell (p := ⟨w.heap.size, j, none⟩) hs0).trans (by rw [hW0]; exact alloc_cell hv))
  have Hq := Lib.hid (fun (X : World) (hX : Below W0.heap.size W0 X) => hq.below (HB0.out.trans (hX.mono (Nat.le_of_lt hs0))))
  have HA := Lib.hid (fun (X : World) (hX : Below W0.heap.size W0 X) => hA.below (HB0.out.trans (hX.mono (Nat.le_of_lt hs0))))
  have HU := Lib.hid (fun (X : World) (hX : Below W0.heap.size W0 X) => show Below w.heap.size w X from HB0.out.trans (hX.mono (Nat.le_of_lt hs0)))
  have hql := hq.len
  have HM := Lib.hid (much_any q l A c W0 hq.nm hq.len (by omega))
  rw [hcs] at Hc0 hW0
  have HW0 := Lib.hid hW0
  clear hcs hW0 cs hq hA
  have HBx := Lib.hid (fun (X : World) (hX : Below W0.heap.size W0 X) => show X.cell? ⟨w.heap.size, 0, none⟩ = some (.string q.name) ∧ X.cell? ⟨w.heap.size, 1, none⟩ = some (.int .i64 q.lo) ∧ X.cell? ⟨w.heap.size, 2, none⟩ = some (.int .i64 q.hi) ∧ X.cell? ⟨w.heap.size, 3, none⟩ = some (.int .i64 q.rise) ∧ X.cell? ⟨w.heap.size, 4, none⟩ = some (.int .i64 q.fall) ∧ X.cell? ⟨w.heap.size, 5, none⟩ = some (.int .i64 q.bad) ∧ X.cell? ⟨w.heap.size, 6, none⟩ = some (.slice q.gA q.gs.length q.gc) from ⟨Hc0.out 0 _ rfl X hX, Hc0.out 1 _ rfl X hX, Hc0.out 2 _ rfl X hX, Hc0.out 3 _ rfl X hX, Hc0.out 4 _ rfl X hX, Hc0.out 5 _ rfl X hX, Hc0.out 6 _ rfl X hX⟩)
  obtain ⟨c0, c1, c2, c3, c4, c5, c6⟩ := HBx.out W0 (Below.refl _ _)
  go_enter Try.func7, Try.ntmps7
  go_wp2_with (go_at_call 34; fail)
  rw [← HW0.out]
  refine HM.out.mono ?_
  rintro r w1 ⟨rfl, hb1⟩
  have HB1 := Lib.hid hb1
  have hs1 := hb1.size
  clear hb1 HM c0 c1 c2 c3 c4 c5 c6
  obtain ⟨b0, b1, b2, b3, b4, b5, b6⟩ := HBx.out w1 HB1.out
  cases hm : muchB q l
  rotate_left
  · go_wp2_with (go_at_call 10; refine (wakes_any _).mono ?_; rintro r w2 ⟨rfl, hb2⟩)
    go_ret
    exact ⟨rfl, (HU.out w1 HB1.out).trans (hb2.mono (by omega))⟩
  have Hm := Lib.hid (much_false hm)
  have Hl := Lib.hid (much_80W hm)
  clear hm
  have HWit := Lib.hid (fun (y : Int) (X : World) (hX : Below W0.heap.size W0 X) => WitnessL_any q l t y A c w.heap.size X (Hq.out X hX) (HA.out X hX) (by have := hX.size; omega) hlc hc Hm.out)
  have HP1 := Lib.hid (HWit.out x w1 HB1.out)
  go_wp2_with (go_at_call 34; fail)
  refine HP1.out.mono ?_
  rintro r w2 ⟨hb2, (⟨rfl, hwn⟩ | ⟨hp0, hwy, F, vA, A2, vc, c2, rfl, hF, hok, hSF, hSV⟩)⟩
  · have HB2 := Lib.hid (HB1.out.trans (hb2.mono hs1))
    have hs2 := hb2.size
    clear hb2 HP1 b0 b1 b2 b3 b4 b5 b6
    obtain ⟨b0, b1, b2, b3, b4, b5, b6⟩ := HBx.out w2 HB2.out
    have HP2 := Lib.hid (refPossible_any q l t A c w.heap.size w2 (Hq.out w2 HB2.out) (HA.out w2 HB2.out) (by omega) Hl.out Hm.out)
    go_wp2_with (go_at_call 34; fail)
    refine HP2.out.mono ?_
    rintro r w3 ⟨vb, rfl, hownb, hb3⟩
    have HB3 := Lib.hid (HB2.out.trans (hb3.mono (by omega)))
    have hs3 := hb3.size
    obtain ⟨Ab, cb, rfl, hcb1, hcb2⟩ := own_cap hownb
    have HI := Lib.hid (refWithin_any (possS q l t) x Ab cb w3.heap.size w3 (sl_own (enc := encSp) (fun _ => rfl) hownb) (Nat.le_refl _) (possS_len q l t))
    rw [hwn] at HI
    clear hb3 HP2 b0 b1 b2 b3 b4 b5 b6 hownb
    obtain ⟨b0, b1, b2, b3, b4, b5, b6⟩ := HBx.out w3 HB3.out
    generalize possE q l t = pe
    have hpe : (pe != pe) = false := by simp
    cases hz : (pe != 0)
    all_goals (
      go_wp2_with (go_at_call 34; fail)
      refine HI.out.mono ?_
      rintro r w4 ⟨rfl, rfl⟩
      go_wp2_with (go_at_call 10; refine (wakes_any _).mono ?_; rintro r w5 ⟨rfl, hb5⟩)
      go_ret
      exact ⟨rfl, (HU.out w4 HB3.out).trans (hb5.mono (by omega))⟩)
  · have HB2 := Lib.hid (HB1.out.trans (hb2.mono hs1))
    have hs2 := hb2.size
    clear hb2 HP1 b0 b1 b2 b3 b4 b5 b6
    obtain ⟨b0, b1, b2, b3, b4, b5, b6⟩ := HBx.out w2 HB2.out
    have HP2 := Lib.hid (refPossible_any q l t A c w.heap.size w2 (Hq.out w2 HB2.out) (HA.out w2 HB2.out) (by omega) Hl.out Hm.out)
    go_wp2_with (go_at_call 34; fail)
    refine HP2.out.mono ?_
    rintro r w3 ⟨vb, rfl, hownb, hb3⟩
    have HB3 := Lib.hid (HB2.out.trans (hb3.mono (by omega)))
    have hs3 := hb3.size
    obtain ⟨Ab, cb, rfl, hcb1, hcb2⟩ := own_cap hownb
    have HI := Lib.hid (refWithin_any (possS q l t) x Ab cb w3.heap.size w3 (sl_own (enc := encSp) (fun _ => rfl) hownb) (Nat.le_refl _) (possS_len q l t))
    have HSb := Lib.hid (show Sl w3 w3.heap.size 2 encSp Ab (possS q l t) from sl_own (enc := encSp) (fun _ => rfl) hownb)
    rw [hwy] at HI
    have HE := Lib.hid (explW_any q l t x F A vA A2 c vc c2 w3.heap.size w3 ((Hq.out w3 HB3.out).mono (by omega)) ((HA.out w3 HB3.out).mono (by omega)) ((Sl.below hSF hb3).mono (by omega)) ((Sl.below hSV hb3).mono (by omega)) (Nat.le_refl _) hp0 Hm.out hF hok)
    have Hp0 := Lib.hid hp0
    have Hends := Lib.hid (possS_ends hp0)
    have hlen := possS_len q l t
    rw [hp0]
    clear hb3 HP2 b0 b1 b2 b3 b4 b5 b6 hownb hwy hSF hSV hok hF hp0
    obtain ⟨b0, b1, b2, b3, b4, b5, b6⟩ := HBx.out w3 HB3.out
    go_wp2_with (go_at_call 34; fail)
    refine HI.out.mono ?_
    rintro r w4 ⟨rfl, rfl⟩
    go_wp2_with (go_at_call 34; fail)
    refine HE.out.mono ?_
    rintro r w5 ⟨rfl, hb5⟩
    have HB5 := Lib.hid (HB3.out.trans (hb5.mono (by omega)))
    have HSb5 := Lib.hid ((Sl.below HSb.out hb5).mono (show w4.heap.size ≤ w5.heap.size from hb5.size))
    have hs5 := hb5.size
    clear hb5 HE HI b0 b1 b2 b3 b4 b5 b6 HSb
    go_wp2
    go_loopw [15] (fun i wr => ∃ k : Nat, k ≤ (possS q l t).length ∧ i = .int .i64 k ∧ Hid (Below w5.heap.size w5 wr)) (fun i _ => (possS q l t).length - (intOf i).toNat)
    case atStart => exact ⟨0, by omega, rfl, Lib.hid (Below.refl _ _)⟩
    case round =>
      obtain ⟨k, hk, rfl, Hbr⟩ := hrel
      have hrs := Hbr.out.size
      have HBr := Lib.hid (HB5.out.trans (Hbr.out.mono (by omega)))
      obtain ⟨b0, b1, b2, b3, b4, b5, b6⟩ := HBx.out wr HBr.out
      by_cases hlt : k < (possS q l t).length
      · obtain ⟨g, off, rfl, hgl, hgc⟩ := sl_cell HSb5.out (by omega)
        obtain ⟨he1, he2⟩ := Hends.out _ (List.getElem_mem hlt)
        have c0 := (Hbr.out.cell (p := ⟨g, off + k * 2 + 0, none⟩) hgl).trans (hgc k hlt 0 _ rfl)
        have c1 := (Hbr.out.cell (p := ⟨g, off + k * 2 + 1, none⟩) hgl).trans (hgc k hlt 1 _ rfl)
        obtain ⟨sk, hsk⟩ : ∃ sk, sk = (possS q l t)[k] := ⟨_, rfl⟩
        rw [← hsk] at c0 c1 he1 he2
        have He1 := Lib.hid he1
        have He2 := Lib.hid he2
        clear hgc he1 he2 hsk
        simp only [Nat.add_zero] at c0
        go_wp2
        have d0 := later_cell c0 (by omega)
        have d1 := later_cell c1 (by omega)
        obtain ⟨R14, hR14⟩ : ∃ R : (Nat → Bool) → Act → World → Prop, R = fun L a' w' => ∃ (e : Later wr) (v89 v90 v91 v92 v93 v94 v95 v96 v97 v98 v99 v16 : Value), w' = e.w ∧ a' = { tmps := #[Value.agg #[Value.string q.name, Value.int IntKind.i64 q.lo, Value.int IntKind.i64 q.hi, Value.int IntKind.i64 q.rise, Value.int IntKind.i64 q.fall, Value.int IntKind.i64 q.bad, Value.slice q.gA q.gs.length q.gc], Value.slice A l.length c, Value.int IntKind.i64 t, Value.int IntKind.i64 x, Value.pointer (some { block := w.heap.size, off := 0 }), undef, undef, undef, u8, u9, u10, u11, u12, Value.slice (some { block := g, off := off }) (possS q l t).length cb, Value.int IntKind.i64 0, Value.int IntKind.i64 ↑k, v16, u17, Value.agg #[Value.string q.name, Value.int IntKind.i64 q.lo, Value.int IntKind.i64 q.hi, Value.int IntKind.i64 q.rise, Value.int IntKind.i64 q.fall, Value.int IntKind.i64 q.bad, Value.slice q.gA q.gs.length q.gc], Value.slice A l.length c, Value.bool false, undef, Value.tuple #[Value.slice vA F.length vc, Value.slice A2 l.length c2, Value.bool true, Value.int IntKind.i64 0], Value.agg #[Value.string q.name, Value.int IntKind.i64 q.lo, Value.int IntKind.i64 q.hi, Value.int IntKind.i64 q.rise, Value.int IntKind.i64 q.fall, Value.int IntKind.i64 q.bad, Value.slice q.gA q.gs.length q.gc], Value.slice A l.length c, Value.int IntKind.i64 t, Value.int IntKind.i64 x, Value.tuple #[Value.slice vA F.length vc, Value.slice A2 l.length c2, Value.bool true, Value.int IntKind.i64 0], Value.slice vA F.length vc, Value.slice A2 l.length c2, Value.bool true, Value.int IntKind.i64 0, Value.tuple #[Value.slice (some { block := g, off := off }) (possS q l t).length cb, Value.int IntKind.i64 0], Value.agg #[Value.string q.name, Value.int IntKind.i64 q.lo, Value.int IntKind.i64 q.hi, Value.int IntKind.i64 q.rise, Value.int IntKind.i64 q.fall, Value.int IntKind.i64 q.bad, Value.slice q.gA q.gs.length q.gc], Value.slice A l.length c, Value.int IntKind.i64 t, Value.tuple #[Value.slice (some { block := g, off := off }) (possS q l t).length cb, Value.int IntKind.i64 0], Value.slice (some { block := g, off := off }) (possS q l t).length cb, Value.int IntKind.i64 0, Value.int IntKind.i64 0, Value.int IntKind.i64 0, Value.bool false, Value.int IntKind.i64 0, Value.bool false, Value.bool false, Value.bool true, Value.bool false, Value.bool false, undef, undef, undef, undef, undef, undef, undef, undef, undef, undef, undef, undef, undef, undef, undef, undef, undef, undef, undef, undef, undef, Value.slice (some { block := g, off := off }) (possS q l t).length cb, Value.int IntKind.i64 x, Value.bool true, Value.bool false, Value.bool false, Value.agg #[Value.string q.name, Value.int IntKind.i64 q.lo, Value.int IntKind.i64 q.hi, Value.int IntKind.i64 q.rise, Value.int IntKind.i64 q.fall, Value.int IntKind.i64 q.bad, Value.slice q.gA q.gs.length q.gc], Value.slice A l.length c, Value.int IntKind.i64 t, Value.int IntKind.i64 x, Value.slice vA F.length vc, Value.slice A2 l.length c2, Value.bool true, Value.bool false, Value.bool false, Value.int IntKind.i64 ↑k, Value.slice (some { block := g, off := off }) (possS q l t).length cb, Value.int IntKind.i64 ↑(possS q l t).length, Value.bool true, u87, u88, v89, v90, v91, v92, v93, v94, v95, v96, v97, v98, v99, u100, u101, u102, u103, u104, u105, u106, u107, u108, u109, u110, u111, u112, u113, u114, u115, u116, u117, u118, u119, u120, u121, u122, u123, u124, u125, u126, u127, u128, u129, u130, u131, u132, u133, undef], defers := [] } ∧ (L 0 = true → v89 = Value.slice (some { block := g, off := off }) (possS q l t).length cb) ∧ (L 1 = true → v90 = Value.int IntKind.i64 ↑k) ∧ (L 2 = true → v91 = .pointer (some ⟨g, off + k * 2, none⟩)) ∧ (L 3 = true → v92 = .pointer (some ⟨g, off + k * 2, none⟩)) ∧ (L 4 = true → v93 = .int .i64 sk.lo) ∧ (L 5 = true → v94 = Value.slice (some { block := g, off := off }) (possS q l t).length cb) ∧ (L 6 = true → v95 = Value.int IntKind.i64 ↑k) ∧ (L 7 = true → v96 = .pointer (some ⟨g, off + k * 2, none⟩)) ∧ (L 8 = true → v97 = .pointer (some ⟨g, off + k * 2 + 1, none⟩)) ∧ (L 9 = true → v98 = .int .i64 sk.hi) ∧ (L 10 = true → v99 = .agg #[.int .i64 sk.lo, .int .i64 sk.hi]) ∧ (L 11 = true → Hid (∃ gb, v16 = .pointer (some ⟨gb, 0, none⟩) ∧ BlkAt wr e.w gb [.int .i64 0, .int .i64 0])) := ⟨_, rfl⟩
        have HR14 := Lib.hid hR14
        clear hR14
        refine wp_region_inv 12 R14 (by kernel_rfl) (by kernel_rfl) (by kernel_rfl) (by kernel_rfl) (by decide) (by kernel_rfl) ?_ ?_ ?_
        · rw [HR14.out]
          exact ⟨⟨_, (Below.refl wr.heap.size wr).drew⟩, _, _, _, _, _, _, _, _, _, _, _, _, rfl, rfl, by simp, by simp, by simp, by simp, by simp, by simp, by simp, by simp, by simp, by simp, by simp, by simp⟩
        · rintro L a' w' i o hi ho hLi haf hInv
          rw [HR14.out] at hInv
          obtain ⟨e, v89, v90, v91, v92, v93, v94, v95, v96, v97, v98, v99, v16, rfl, rfl, h0, h1, h2, h3, h4, h5, h6, h7, h8, h9, h10, h11⟩ := hInv
          have hse : wr.heap.size ≤ e.w.heap.size := e.b.size
          rcases i with _ | _ | _ | _ | _ | _ | _ | _ | _ | _ | _ | _ | i
          case succ.succ.succ.succ.succ.succ.succ.succ.succ.succ.succ.succ => omega
          all_goals (simp only [List.getElem?_cons_zero, List.getElem?_cons_succ, Option.some.injEq] at ho; subst ho)
          · go_wp2
            rw [HR14.out]
            exact ⟨e, _, _, _, _, _, _, _, _, _, _, _, _, rfl, rfl, fun _ => rfl, fun z => h1 (by simpa using z), fun z => h2 (by simpa using z), fun z => h3 (by simpa using z), fun z => h4 (by simpa using z), fun z => h5 (by simpa using z), fun z => h6 (by simpa using z), fun z => h7 (by simpa using z), fun z => h8 (by simpa using z), fun z => h9 (by simpa using z), fun z => h10 (by simpa using z), fun z => h11 (by simpa using z)⟩
          · go_wp2
            rw [HR14.out]
            exact ⟨e, _, _, _, _, _, _, _, _, _, _, _, _, rfl, rfl, fun z => h0 (by simpa using z), fun _ => rfl, fun z => h2 (by simpa using z), fun z => h3 (by simpa using z), fun z => h4 (by simpa using z), fun z => h5 (by simpa using z), fun z => h6 (by simpa using z), fun z => h7 (by simpa using z), fun z => h8 (by simpa using z), fun z => h9 (by simpa using z), fun z => h10 (by simpa using z), fun z => h11 (by simpa using z)⟩
          · obtain rfl := h0 (haf ⟨0, .data⟩ (by simp) rfl)
            obtain rfl := h1 (haf ⟨1, .data⟩ (by simp) rfl)
            go_wp2
            rw [HR14.out]
            exact ⟨e, _, _, _, _, _, _, _, _, _, _, _, _, rfl, rfl, fun _ => rfl, fun _ => rfl, fun _ => rfl, fun z => h3 (by simpa using z), fun z => h4 (by simpa using z), fun z => h5 (by simpa using z), fun z => h6 (by simpa using z), fun z => h7 (by simpa using z), fun z => h8 (by simpa using z), fun z => h9 (by simpa using z), fun z => h10 (by simpa using z), fun z => h11 (by simpa using z)⟩
          · obtain rfl := h2 (haf ⟨2, .data⟩ (by simp) rfl)
            go_wp2
            rw [HR14.out]
            exact ⟨e, _, _, _, _, _, _, _, _, _, _, _, _, rfl, rfl, fun z => h0 (by simpa using z), fun z => h1 (by simpa using z), fun _ => rfl, fun _ => rfl, fun z => h4 (by simpa using z), fun z => h5 (by simpa using z), fun z => h6 (by simpa using z), fun z => h7 (by simpa using z), fun z => h8 (by simpa using z), fun z => h9 (by simpa using z), fun z => h10 (by simpa using z), fun z => h11 (by simpa using z)⟩
          · obtain rfl := h3 (haf ⟨3, .data⟩ (by simp) rfl)
            go_wp2
            rw [HR14.out]
            exact ⟨e, _, _, _, _, _, _, _, _, _, _, _, _, rfl, rfl, fun z => h0 (by simpa using z), fun z => h1 (by simpa using z), fun z => h2 (by simpa using z), fun _ => rfl, fun _ => rfl, fun z => h5 (by simpa using z), fun z => h6 (by simpa using z), fun z => h7 (by simpa using z), fun z => h8 (by simpa using z), fun z => h9 (by simpa using z), fun z => h10 (by simpa using z), fun z => h11 (by simpa using z)⟩
          · go_wp2
            rw [HR14.out]
            exact ⟨e, _, _, _, _, _, _, _, _, _, _, _, _, rfl, rfl, fun z => h0 (by simpa using z), fun z => h1 (by simpa using z), fun z => h2 (by simpa using z), fun z => h3 (by simpa using z), fun z => h4 (by simpa using z), fun _ => rfl, fun z => h6 (by simpa using z), fun z => h7 (by simpa using z), fun z => h8 (by simpa using z), fun z => h9 (by simpa using z), fun z => h10 (by simpa using z), fun z => h11 (by simpa using z)⟩
          · go_wp2
            rw [HR14.out]
            exact ⟨e, _, _, _, _, _, _, _, _, _, _, _, _, rfl, rfl, fun z => h0 (by simpa using z), fun z => h1 (by simpa using z), fun z => h2 (by simpa using z), fun z => h3 (by simpa using z), fun z => h4 (by simpa using z), fun z => h5 (by simpa using z), fun _ => rfl, fun z => h7 (by simpa using z), fun z => h8 (by simpa using z), fun z => h9 (by simpa using z), fun z => h10 (by simpa using z), fun z => h11 (by simpa using z)⟩
          · obtain rfl := h5 (haf ⟨5, .data⟩ (by simp) rfl)
            obtain rfl := h6 (haf ⟨6, .data⟩ (by simp) rfl)
            go_wp2
            rw [HR14.out]
            exact ⟨e, _, _, _, _, _, _, _, _, _, _, _, _, rfl, rfl, fun z => h0 (by simpa using z), fun z => h1 (by simpa using z), fun z => h2 (by simpa using z), fun z => h3 (by simpa using z), fun z => h4 (by simpa using z), fun _ => rfl, fun _ => rfl, fun _ => rfl, fun z => h8 (by simpa using z), fun z => h9 (by simpa using z), fun z => h10 (by simpa using z), fun z => h11 (by simpa using z)⟩
          · obtain rfl := h7 (haf ⟨7, .data⟩ (by simp) rfl)
            go_wp2
            rw [HR14.out]
            exact ⟨e, _, _, _, _, _, _, _, _, _, _, _, _, rfl, rfl, fun z => h0 (by simpa using z), fun z => h1 (by simpa using z), fun z => h2 (by simpa using z), fun z => h3 (by simpa using z), fun z => h4 (by simpa using z), fun z => h5 (by simpa using z), fun z => h6 (by simpa using z), fun _ => rfl, fun _ => rfl, fun z => h9 (by simpa using z), fun z => h10 (by simpa using z), fun z => h11 (by simpa using z)⟩
          · obtain rfl := h8 (haf ⟨8, .data⟩ (by simp) rfl)
            go_wp2
            rw [HR14.out]
            exact ⟨e, _, _, _, _, _, _, _, _, _, _, _, _, rfl, rfl, fun z => h0 (by simpa using z), fun z => h1 (by simpa using z), fun z => h2 (by simpa using z), fun z => h3 (by simpa using z), fun z => h4 (by simpa using z), fun z => h5 (by simpa using z), fun z => h6 (by simpa using z), fun z => h7 (by simpa using z), fun _ => rfl, fun _ => rfl, fun z => h10 (by simpa using z), fun z => h11 (by simpa using z)⟩
          · obtain rfl := h4 (haf ⟨4, .data⟩ (by simp) rfl)
            obtain rfl := h9 (haf ⟨9, .data⟩ (by simp) rfl)
            go_wp2
            rw [HR14.out]
            exact ⟨e, _, _, _, _, _, _, _, _, _, _, _, _, rfl, rfl, fun z => h0 (by simpa using z), fun z => h1 (by simpa using z), fun z => h2 (by simpa using z), fun z => h3 (by simpa using z), fun _ => rfl, fun z => h5 (by simpa using z), fun z => h6 (by simpa using z), fun z => h7 (by simpa using z), fun z => h8 (by simpa using z), fun _ => rfl, fun _ => rfl, fun z => h11 (by simpa using z)⟩
          · have hNew : Below e.w.heap.size e.w (e.w.alloc (.cells #[.int .i64 0, .int .i64 0] 59)) := (Below.refl _ _).alloc (Nat.le_refl _) _
            go_wp2
            rw [HR14.out]
            exact ⟨⟨_, e.b.alloc hse (.cells #[.int .i64 0, .int .i64 0] 59)⟩, _, _, _, _, _, _, _, _, _, _, _, _, rfl, rfl, fun z => h0 (by simpa using z), fun z => h1 (by simpa using z), fun z => h2 (by simpa using z), fun z => h3 (by simpa using z), fun z => h4 (by simpa using z), fun z => h5 (by simpa using z), fun z => h6 (by simpa using z), fun z => h7 (by simpa using z), fun z => h8 (by simpa using z), fun z => h9 (by simpa using z), fun z => h10 (by simpa using z), fun _ => Lib.hid ⟨_, rfl, BlkAt.new hse⟩⟩
        · rintro L a' w' hL hInv
          rw [HR14.out] at hInv
          obtain ⟨e, v89, v90, v91, v92, v93, v94, v95, v96, v97, v98, v99, v16, rfl, rfl, h0, h1, h2, h3, h4, h5, h6, h7, h8, h9, h10, h11⟩ := hInv
          obtain rfl := h0 (hL 0 (by omega))
          obtain rfl := h1 (hL 1 (by omega))
          obtain rfl := h2 (hL 2 (by omega))
          obtain rfl := h3 (hL 3 (by omega))
          obtain rfl := h4 (hL 4 (by omega))
          obtain rfl := h5 (hL 5 (by omega))
          obtain rfl := h6 (hL 6 (by omega))
          obtain rfl := h7 (hL 7 (by omega))
          obtain rfl := h8 (hL 8 (by omega))
          obtain rfl := h9 (hL 9 (by omega))
          obtain rfl := h10 (hL 10 (by omega))
          obtain ⟨gb16, rfl, hgb16⟩ := (h11 (hL 11 (by omega))).out
          have hse : wr.heap.size ≤ e.w.heap.size := e.b.size
          clear h0 h1 h2 h3 h4 h5 h6 h7 h8 h9 h10 h11 hL HR14
          have p0 := hgb16.cell 0 _ rfl
          have p1 := hgb16.cell 1 _ rfl
          have p2 := hgb16.free 0
          have p3 := hgb16.free 1
          have hgbl := hgb16.lo
          have hgbh := hgb16.hi
          clear c0 c1 d0 d1 b0 b1 b2 b3 b4 b5 b6
          go_wp2
          obtain ⟨W7, hW7⟩ : ∃ W7, W7 = (e.w.setCell ⟨gb16, 0, none⟩ (.int .i64 sk.lo)).setCell ⟨gb16, 1, none⟩ (.int .i64 sk.hi) := ⟨_, rfl⟩
          rw [← hW7]
          have HB7 := Lib.hid (show Below wr.heap.size wr W7 by rw [hW7]; exact (e.b.setCell (p := ⟨gb16, 0, none⟩) hgbl _).setCell (p := ⟨gb16, 1, none⟩) hgbl _)
          have hs7 : W7.heap.size = e.w.heap.size := by rw [hW7]; simp [World.setCell]
          have Hy0 := Lib.hid (show W7.cell? ⟨gb16, 0, none⟩ = some (.int .i64 sk.lo) by rw [hW7, World.cell?_setCell_other _ _ _ _ (by simp)]; exact World.cell?_setCell_same' _ _ _ (by rw [p0]; rfl))
          have Hy1 := Lib.hid (show W7.cell? ⟨gb16, 1, none⟩ = some (.int .i64 sk.hi) by rw [hW7]; exact World.cell?_setCell_same' _ _ _ (by rw [World.cell?_setCell_other _ _ _ _ (by simp), p1]; rfl))
          obtain ⟨wo, hwo⟩ : ∃ wo, wo = wr := ⟨_, rfl⟩
          subst hwo
          clear hW7 p0 p1 p2 p3 hgb16
          go_loopw [17] (fun i wr => ∃ j : Nat, j ≤ 2 ∧ i = .int .i64 j ∧ Hid (Below W7.heap.size W7 wr)) (fun i _ => 2 - (intOf i).toNat)
          case atStart => exact ⟨0, by omega, rfl, Lib.hid (Below.refl _ _)⟩
          case round =>
            obtain ⟨j, hj, rfl, Hbj⟩ := hrel
            have hrj := Hbj.out.size
            have HBj := Lib.hid (HBr.out.trans ((HB7.out.trans (Hbj.out.mono (by omega))).mono HBr.out.size))
            by_cases hlt2 : j < 2
            · obtain ⟨y, hy, hyw⟩ : ∃ y : Int, W7.cell? ⟨gb16, j, none⟩ = some (.int .i64 y) ∧ withinS (possS q l t) y = true := by
                obtain rfl | rfl : j = 0 ∨ j = 1 := by omega
                · exact ⟨_, Hy0.out, He1.out⟩
                · exact ⟨_, Hy1.out, He2.out⟩
              have Hyw := Lib.hid hyw
              have y0 := (Hbj.out.cell (p := ⟨gb16, j, none⟩) (by simp only; omega)).trans hy
              have HY := Lib.hid y0
              have d7 := later_cell y0 (by omega)
              obtain ⟨b0, b1, b2, b3, b4, b5, b6⟩ := HBx.out wr HBj.out
              have d0 := later_cell b0 (by omega)
              have d1 := later_cell b1 (by omega)
              have d2 := later_cell b2 (by omega)
              have d3 := later_cell b3 (by omega)
              have d4 := later_cell b4 (by omega)
              have d5 := later_cell b5 (by omega)
              have d6 := later_cell b6 (by omega)
              clear hyw hy
              go_wp2
              rw [show decide ((j : Int) < 2) = true from by simp; omega]
              obtain ⟨R18, hR18⟩ : ∃ R : (Nat → Bool) → Act → World → Prop, R = fun L a' w' => ∃ (e : Later wr) (F2 : List Int) (vA2 A3 : Option Addr) (vc2 c3 : Nat) (v105 v106 v107 v108 v109 v110 v111 v104 v112 v113 v114 v115 v9 v10 v11 : Value), w' = e.w ∧ a' = { tmps := #[Value.agg #[Value.string q.name, Value.int IntKind.i64 q.lo, Value.int IntKind.i64 q.hi, Value.int IntKind.i64 q.rise, Value.int IntKind.i64 q.fall, Value.int IntKind.i64 q.bad, Value.slice q.gA q.gs.length q.gc], Value.slice A l.length c, Value.int IntKind.i64 t, Value.int IntKind.i64 x, Value.pointer (some { block := w.heap.size, off := 0 }), undef, undef, undef, u8, v9, v10, v11, u12, Value.slice (some { block := g, off := off }) (possS q l t).length cb, Value.int IntKind.i64 0, Value.int IntKind.i64 ↑k, Value.pointer (some { block := gb16, off := 0 }), Value.int IntKind.i64 ↑j, Value.agg #[Value.string q.name, Value.int IntKind.i64 q.lo, Value.int IntKind.i64 q.hi, Value.int IntKind.i64 q.rise, Value.int IntKind.i64 q.fall, Value.int IntKind.i64 q.bad, Value.slice q.gA q.gs.length q.gc], Value.slice A l.length c, Value.bool false, undef, Value.tuple #[Value.slice vA F.length vc, Value.slice A2 l.length c2, Value.bool true, Value.int IntKind.i64 0], Value.agg #[Value.string q.name, Value.int IntKind.i64 q.lo, Value.int IntKind.i64 q.hi, Value.int IntKind.i64 q.rise, Value.int IntKind.i64 q.fall, Value.int IntKind.i64 q.bad, Value.slice q.gA q.gs.length q.gc], Value.slice A l.length c, Value.int IntKind.i64 t, Value.int IntKind.i64 x, Value.tuple #[Value.slice vA F.length vc, Value.slice A2 l.length c2, Value.bool true, Value.int IntKind.i64 0], Value.slice vA F.length vc, Value.slice A2 l.length c2, Value.bool true, Value.int IntKind.i64 0, Value.tuple #[Value.slice (some { block := g, off := off }) (possS q l t).length cb, Value.int IntKind.i64 0], Value.agg #[Value.string q.name, Value.int IntKind.i64 q.lo, Value.int IntKind.i64 q.hi, Value.int IntKind.i64 q.rise, Value.int IntKind.i64 q.fall, Value.int IntKind.i64 q.bad, Value.slice q.gA q.gs.length q.gc], Value.slice A l.length c, Value.int IntKind.i64 t, Value.tuple #[Value.slice (some { block := g, off := off }) (possS q l t).length cb, Value.int IntKind.i64 0], Value.slice (some { block := g, off := off }) (possS q l t).length cb, Value.int IntKind.i64 0, Value.int IntKind.i64 0, Value.int IntKind.i64 0, Value.bool false, Value.int IntKind.i64 0, Value.bool false, Value.bool false, Value.bool true, Value.bool false, Value.bool false, undef, undef, undef, undef, undef, undef, undef, undef, undef, undef, undef, undef, undef, undef, undef, undef, undef, undef, undef, undef, undef, Value.slice (some { block := g, off := off }) (possS q l t).length cb, Value.int IntKind.i64 x, Value.bool true, Value.bool false, Value.bool false, Value.agg #[Value.string q.name, Value.int IntKind.i64 q.lo, Value.int IntKind.i64 q.hi, Value.int IntKind.i64 q.rise, Value.int IntKind.i64 q.fall, Value.int IntKind.i64 q.bad, Value.slice q.gA q.gs.length q.gc], Value.slice A l.length c, Value.int IntKind.i64 t, Value.int IntKind.i64 x, Value.slice vA F.length vc, Value.slice A2 l.length c2, Value.bool true, Value.bool false, Value.bool false, Value.int IntKind.i64 ↑k, Value.slice (some { block := g, off := off }) (possS q l t).length cb, Value.int IntKind.i64 ↑(possS q l t).length, Value.bool true, u87, u88, Value.slice (some { block := g, off := off }) (possS q l t).length cb, Value.int IntKind.i64 ↑k, Value.pointer (some { block := g, off := off + k * 2 }), Value.pointer (some { block := g, off := off + k * 2 }), Value.int IntKind.i64 sk.lo, Value.slice (some { block := g, off := off }) (possS q l t).length cb, Value.int IntKind.i64 ↑k, Value.pointer (some { block := g, off := off + k * 2 }), Value.pointer (some { block := g, off := off + k * 2 + 1 }), Value.int IntKind.i64 sk.hi, Value.agg #[Value.int IntKind.i64 sk.lo, Value.int IntKind.i64 sk.hi], Value.int IntKind.i64 ↑j, Value.bool true, u102, u103, v104, v105, v106, v107, v108, v109, v110, v111, v112, v113, v114, v115, u116, u117, u118, u119, u120, u121, u122, u123, u124, u125, u126, u127, u128, u129, u130, u131, u132, u133, undef], defers := [] } ∧ (L 0 = true → v105 = .agg #[.string q.name, .int .i64 q.lo, .int .i64 q.hi, .int .i64 q.rise, .int .i64 q.fall, .int .i64 q.bad, .slice q.gA q.gs.length q.gc]) ∧ (L 1 = true → v106 = .slice A l.length c) ∧ (L 2 = true → v107 = .int .i64 t) ∧ (L 3 = true → v108 = .int .i64 j) ∧ (L 4 = true → v109 = .pointer (some ⟨gb16, j, none⟩)) ∧ (L 5 = true → v110 = .int .i64 y) ∧ (L 6 = true → v111 = .tuple #[.slice vA2 F2.length vc2, .slice A3 l.length c3, .bool true, .int .i64 0]) ∧ (L 7 = true → v104 = .tuple #[.slice vA2 F2.length vc2, .slice A3 l.length c3, .bool true, .int .i64 0]) ∧ (L 8 = true → v112 = .slice vA2 F2.length vc2) ∧ (L 9 = true → v113 = .slice A3 l.length c3) ∧ (L 10 = true → v114 = .bool true) ∧ (L 11 = true → v115 = .int .i64 0) ∧ (L 12 = true → v9 = .slice vA2 F2.length vc2) ∧ (L 13 = true → v10 = .slice A3 l.length c3) ∧ (L 14 = true → v11 = .bool true) ∧ Hid (L 6 = true → F2 ∈ subsN q.bad.toNat q.gs.length 0 [] ∧ WitOk q l t y F2 ∧ Sl e.w e.w.heap.size 1 encInt1 vA2 F2 ∧ Sl e.w e.w.heap.size 1 encInt1 A3 (vlsW q l t y F2)) ∧ (L 7 = true → L 6 = true) ∧ (L 8 = true → L 6 = true) ∧ (L 9 = true → L 6 = true) ∧ (L 10 = true → L 6 = true) ∧ (L 11 = true → L 6 = true) ∧ (L 12 = true → L 6 = true) ∧ (L 13 = true → L 6 = true) ∧ (L 14 = true → L 6 = true) := ⟨_, rfl⟩
              have HR18 := Lib.hid hR18
              clear hR18
              refine wp_region_inv 15 R18 (by kernel_rfl) (by kernel_rfl) (by kernel_rfl) (by kernel_rfl) (by decide) (by kernel_rfl) ?_ ?_ ?_
              · rw [HR18.out]
                exact ⟨⟨_, (Below.refl wr.heap.size wr).drew⟩, [], none, none, 0, 0, _, _, _, _, _, _, _, _, _, _, _, _, _, _, _, rfl, rfl, by simp, by simp, by simp, by simp, by simp, by simp, by simp, by simp, by simp, by simp, by simp, by simp, by simp, by simp, by simp, Lib.hid (by simp), by simp, by simp, by simp, by simp, by simp, by simp, by simp, by simp⟩
              · rintro L a' w' i o hi ho hLi haf hInv
                rw [HR18.out] at hInv
                obtain ⟨e, F2, vA2, A3, vc2, c3, v105, v106, v107, v108, v109, v110, v111, v104, v112, v113, v114, v115, v9, v10, v11, rfl, rfl, h0, h1, h2, h3, h4, h5, h6, h7, h8, h9, h10, h11, h12, h13, h14, hf, g7, g8, g9, g10, g11, g12, g13, g14⟩ := hInv
                have hse : wr.heap.size ≤ e.w.heap.size := e.b.size
                rcases i with _ | _ | _ | _ | _ | _ | _ | _ | _ | _ | _ | _ | _ | _ | _ | i
                case succ.succ.succ.succ.succ.succ.succ.succ.succ.succ.succ.succ.succ.succ.succ => omega
                all_goals (simp only [List.getElem?_cons_zero, List.getElem?_cons_succ, Option.some.injEq] at ho; subst ho)
                · go_wp2
                  rw [HR18.out]
                  exact ⟨e, F2, vA2, A3, vc2, c3, _, _, _, _, _, _, _, _, _, _, _, _, _, _, _, rfl, rfl, fun _ => rfl, fun z => h1 (by simpa using z), fun z => h2 (by simpa using z), fun z => h3 (by simpa using z), fun z => h4 (by simpa using z), fun z => h5 (by simpa using z), fun z => h6 (by simpa using z), fun z => h7 (by simpa using z), fun z => h8 (by simpa using z), fun z => h9 (by simpa using z), fun z => h10 (by simpa using z), fun z => h11 (by simpa using z), fun z => h12 (by simpa using z), fun z => h13 (by simpa using z), fun z => h14 (by simpa using z), Lib.hid (fun z => hf.out (by simpa using z)), fun z => (by have := g7 (by simpa using z); simp [this]), fun z => (by have := g8 (by simpa using z); simp [this]), fun z => (by have := g9 (by simpa using z); simp [this]), fun z => (by have := g10 (by simpa using z); simp [this]), fun z => (by have := g11 (by simpa using z); simp [this]), fun z => (by have := g12 (by simpa using z); simp [this]), fun z => (by have := g13 (by simpa using z); simp [this]), fun z => (by have := g14 (by simpa using z); simp [this])⟩
                · go_wp2
                  rw [HR18.out]
                  exact ⟨e, F2, vA2, A3, vc2, c3, _, _, _, _, _, _, _, _, _, _, _, _, _, _, _, rfl, rfl, fun z => h0 (by simpa using z), fun _ => rfl, fun z => h2 (by simpa using z), fun z => h3 (by simpa using z), fun z => h4 (by simpa using z), fun z => h5 (by simpa using z), fun z => h6 (by simpa using z), fun z => h7 (by simpa using z), fun z => h8 (by simpa using z), fun z => h9 (by simpa using z), fun z => h10 (by simpa using z), fun z => h11 (by simpa using z), fun z => h12 (by simpa using z), fun z => h13 (by simpa using z), fun z => h14 (by simpa using z), Lib.hid (fun z => hf.out (by simpa using z)), fun z => (by have := g7 (by simpa using z); simp [this]), fun z => (by have := g8 (by simpa using z); simp [this]), fun z => (by have := g9 (by simpa using z); simp [this]), fun z => (by have := g10 (by simpa using z); simp [this]), fun z => (by have := g11 (by simpa using z); simp [this]), fun z => (by have := g12 (by simpa using z); simp [this]), fun z => (by have := g13 (by simpa using z); simp [this]), fun z => (by have := g14 (by simpa using z); simp [this])⟩
                · go_wp2
                  rw [HR18.out]
                  exact ⟨e, F2, vA2, A3, vc2, c3, _, _, _, _, _, _, _, _, _, _, _, _, _, _, _, rfl, rfl, fun z => h0 (by simpa using z), fun z => h1 (by simpa using z), fun _ => rfl, fun z => h3 (by simpa using z), fun z => h4 (by simpa using z), fun z => h5 (by simpa using z), fun z => h6 (by simpa using z), fun z => h7 (by simpa using z), fun z => h8 (by simpa using z), fun z => h9 (by simpa using z), fun z => h10 (by simpa using z), fun z => h11 (by simpa using z), fun z => h12 (by simpa using z), fun z => h13 (by simpa using z), fun z => h14 (by simpa using z), Lib.hid (fun z => hf.out (by simpa using z)), fun z => (by have := g7 (by simpa using z); simp [this]), fun z => (by have := g8 (by simpa using z); simp [this]), fun z => (by have := g9 (by simpa using z); simp [this]), fun z => (by have := g10 (by simpa using z); simp [this]), fun z => (by have := g11 (by simpa using z); simp [this]), fun z => (by have := g12 (by simpa using z); simp [this]), fun z => (by have := g13 (by simpa using z); simp [this]), fun z => (by have := g14 (by simpa using z); simp [this])⟩
                · go_wp2
                  rw [HR18.out]
                  exact ⟨e, F2, vA2, A3, vc2, c3, _, _, _, _, _, _, _, _, _, _, _, _, _, _, _, rfl, rfl, fun z => h0 (by simpa using z), fun z => h1 (by simpa using z), fun z => h2 (by simpa using z), fun _ => rfl, fun z => h4 (by simpa using z), fun z => h5 (by simpa using z), fun z => h6 (by simpa using z), fun z => h7 (by simpa using z), fun z => h8 (by simpa using z), fun z => h9 (by simpa using z), fun z => h10 (by simpa using z), fun z => h11 (by simpa using z), fun z => h12 (by simpa using z), fun z => h13 (by simpa using z), fun z => h14 (by simpa using z), Lib.hid (fun z => hf.out (by simpa using z)), fun z => (by have := g7 (by simpa using z); simp [this]), fun z => (by have := g8 (by simpa using z); simp [this]), fun z => (by have := g9 (by simpa using z); simp [this]), fun z => (by have := g10 (by simpa using z); simp [this]), fun z => (by have := g11 (by simpa using z); simp [this]), fun z => (by have := g12 (by simpa using z); simp [this]), fun z => (by have := g13 (by simpa using z); simp [this]), fun z => (by have := g14 (by simpa using z); simp [this])⟩
                · obtain rfl := h3 (haf ⟨3, .data⟩ (by simp) rfl)
                  go_wp2
                  rw [HR18.out]
                  exact ⟨e, F2, vA2, A3, vc2, c3, _, _, _, _, _, _, _, _, _, _, _, _, _, _, _, rfl, rfl, fun z => h0 (by simpa using z), fun z => h1 (by simpa using z), fun z => h2 (by simpa using z), fun _ => rfl, fun _ => rfl, fun z => h5 (by simpa using z), fun z => h6 (by simpa using z), fun z => h7 (by simpa using z), fun z => h8 (by simpa using z), fun z => h9 (by simpa using z), fun z => h10 (by simpa using z), fun z => h11 (by simpa using z), fun z => h12 (by simpa using z), fun z => h13 (by simpa using z), fun z => h14 (by simpa using z), Lib.hid (fun z => hf.out (by simpa using z)), fun z => (by have := g7 (by simpa using z); simp [this]), fun z => (by have := g8 (by simpa using z); simp [this]), fun z => (by have := g9 (by simpa using z); simp [this]), fun z => (by have := g10 (by simpa using z); simp [this]), fun z => (by have := g11 (by simpa using z); simp [this]), fun z => (by have := g12 (by simpa using z); simp [this]), fun z => (by have := g13 (by simpa using z); simp [this]), fun z => (by have := g14 (by simpa using z); simp [this])⟩
                · obtain rfl := h4 (haf ⟨4, .data⟩ (by simp) rfl)
                  go_wp2
                  rw [HR18.out]
                  exact ⟨e, F2, vA2, A3, vc2, c3, _, _, _, _, _, _, _, _, _, _, _, _, _, _, _, rfl, rfl, fun z => h0 (by simpa using z), fun z => h1 (by simpa using z), fun z => h2 (by simpa using z), fun z => h3 (by simpa using z), fun _ => rfl, fun _ => rfl, fun z => h6 (by simpa using z), fun z => h7 (by simpa using z), fun z => h8 (by simpa using z), fun z => h9 (by simpa using z), fun z => h10 (by simpa using z), fun z => h11 (by simpa using z), fun z => h12 (by simpa using z), fun z => h13 (by simpa using z), fun z => h14 (by simpa using z), Lib.hid (fun z => hf.out (by simpa using z)), fun z => (by have := g7 (by simpa using z); simp [this]), fun z => (by have := g8 (by simpa using z); simp [this]), fun z => (by have := g9 (by simpa using z); simp [this]), fun z => (by have := g10 (by simpa using z); simp [this]), fun z => (by have := g11 (by simpa using z); simp [this]), fun z => (by have := g12 (by simpa using z); simp [this]), fun z => (by have := g13 (by simpa using z); simp [this]), fun z => (by have := g14 (by simpa using z); simp [this])⟩
                · obtain rfl := h0 (haf ⟨0, .data⟩ (by simp) rfl)
                  obtain rfl := h1 (haf ⟨1, .data⟩ (by simp) rfl)
                  obtain rfl := h2 (haf ⟨2, .data⟩ (by simp) rfl)
                  obtain rfl := h5 (haf ⟨5, .data⟩ (by simp) rfl)
                  have HBe := Lib.hid (HBj.out.trans (e.b.mono HBj.out.size))
                  have HCW := Lib.hid (HWit.out y e.w HBe.out)
                  go_wp2_with (go_at_call 27; refine HCW.out.mono ?_; rintro r w8 ⟨hb8, (⟨rfl, hwn⟩ | ⟨_, _, F3, vA3, A4, vc3, c4, rfl, hF2, hok2, hSF2, hSV2⟩)⟩)
                  · rw [Hyw.out] at hwn; cases hwn
                  · rw [HR18.out]
                    exact ⟨⟨w8, e.b.trans (hb8.mono e.b.size)⟩, F3, vA3, A4, vc3, c4, _, _, _, _, _, _, _, _, _, _, _, _, _, _, _, rfl, rfl, fun _ => rfl, fun _ => rfl, fun _ => rfl, fun z => h3 (by simpa using z), fun z => h4 (by simpa using z), fun _ => rfl, fun _ => rfl, fun z => (by have := g7 (by simpa using z); rw [hLi] at this; cases this), fun z => (by have := g8 (by simpa using z); rw [hLi] at this; cases this), fun z => (by have := g9 (by simpa using z); rw [hLi] at this; cases this), fun z => (by have := g10 (by simpa using z); rw [hLi] at this; cases this), fun z => (by have := g11 (by simpa using z); rw [hLi] at this; cases this), fun z => (by have := g12 (by simpa using z); rw [hLi] at this; cases this), fun z => (by have := g13 (by simpa using z); rw [hLi] at this; cases this), fun z => (by have := g14 (by simpa using z); rw [hLi] at this; cases this), Lib.hid (fun _ => ⟨hF2, hok2, hSF2, hSV2⟩), fun _ => (by simp), fun _ => (by simp), fun _ => (by simp), fun _ => (by simp), fun _ => (by simp), fun _ => (by simp), fun _ => (by simp), fun _ => (by simp)⟩
                · have hL6 : L 6 = true := haf ⟨6, .data⟩ (by simp) rfl
                  obtain rfl := h6 (haf ⟨6, .data⟩ (by simp) rfl)
                  go_wp2
                  rw [HR18.out]
                  exact ⟨e, F2, vA2, A3, vc2, c3, _, _, _, _, _, _, _, _, _, _, _, _, _, _, _, rfl, rfl, fun z => h0 (by simpa using z), fun z => h1 (by simpa using z), fun z => h2 (by simpa using z), fun z => h3 (by simpa using z), fun z => h4 (by simpa using z), fun z => h5 (by simpa using z), fun _ => rfl, fun _ => rfl, fun z => h8 (by simpa using z), fun z => h9 (by simpa using z), fun z => h10 (by simpa using z), fun z => h11 (by simpa using z), fun z => h12 (by simpa using z), fun z => h13 (by simpa using z), fun z => h14 (by simpa using z), Lib.hid (fun z => hf.out (by simpa using z)), fun _ => (by simp [hL6]), fun z => (by have := g8 (by simpa using z); simp [this]), fun z => (by have := g9 (by simpa using z); simp [this]), fun z => (by have := g10 (by simpa using z); simp [this]), fun z => (by have := g11 (by simpa using z); simp [this]), fun z => (by have := g12 (by simpa using z); simp [this]), fun z => (by have := g13 (by simpa using z); simp [this]), fun z => (by have := g14 (by simpa using z); simp [this])⟩
                · have hL6 : L 6 = true := g7 (haf ⟨7, .data⟩ (by simp) rfl)
                  obtain rfl := h6 hL6
                  obtain rfl := h7 (haf ⟨7, .data⟩ (by simp) rfl)
                  go_wp2
                  rw [HR18.out]
                  exact ⟨e, F2, vA2, A3, vc2, c3, _, _, _, _, _, _, _, _, _, _, _, _, _, _, _, rfl, rfl, fun z => h0 (by simpa using z), fun z => h1 (by simpa using z), fun z => h2 (by simpa using z), fun z => h3 (by simpa using z), fun z => h4 (by simpa using z), fun z => h5 (by simpa using z), fun _ => rfl, fun _ => rfl, fun _ => rfl, fun z => h9 (by simpa using z), fun z => h10 (by simpa using z), fun z => h11 (by simpa using z), fun z => h12 (by simpa using z), fun z => h13 (by simpa using z), fun z => h14 (by simpa using z), Lib.hid (fun z => hf.out (by simpa using z)), fun z => (by have := g7 (by simpa using z); simp [this]), fun _ => (by simp [hL6]), fun z => (by have := g9 (by simpa using z); simp [this]), fun z => (by have := g10 (by simpa using z); simp [this]), fun z => (by have := g11 (by simpa using z); simp [this]), fun z => (by have := g12 (by simpa using z); simp [this]), fun z => (by have := g13 (by simpa using z); simp [this]), fun z => (by have := g14 (by simpa using z); simp [this])⟩
                · have hL6 : L 6 = true := g7 (haf ⟨7, .data⟩ (by simp) rfl)
                  obtain rfl := h6 hL6
                  obtain rfl := h7 (haf ⟨7, .data⟩ (by simp) rfl)
                  go_wp2
                  rw [HR18.out]
                  exact ⟨e, F2, vA2, A3, vc2, c3, _, _, _, _, _, _, _, _, _, _, _, _, _, _, _, rfl, rfl, fun z => h0 (by simpa using z), fun z => h1 (by simpa using z), fun z => h2 (by simpa using z), fun z => h3 (by simpa using z), fun z => h4 (by simpa using z), fun z => h5 (by simpa using z), fun _ => rfl, fun _ => rfl, fun z => h8 (by simpa using z), fun _ => rfl, fun z => h10 (by simpa using z), fun z => h11 (by simpa using z), fun z => h12 (by simpa using z), fun z => h13 (by simpa using z), fun z => h14 (by simpa using z), Lib.hid (fun z => hf.out (by simpa using z)), fun z => (by have := g7 (by simpa using z); simp [this]), fun z => (by have := g8 (by simpa using z); simp [this]), fun _ => (by simp [hL6]), fun z => (by have := g10 (by simpa using z); simp [this]), fun z => (by have := g11 (by simpa using z); simp [this]), fun z => (by have := g12 (by simpa using z); simp [this]), fun z => (by have := g13 (by simpa using z); simp [this]), fun z => (by have := g14 (by simpa using z); simp [this])⟩
                · have hL6 : L 6 = true := g7 (haf ⟨7, .data⟩ (by simp) rfl)
                  obtain rfl := h6 hL6
                  obtain rfl := h7 (haf ⟨7, .data⟩ (by simp) rfl)
                  go_wp2
                  rw [HR18.out]
                  exact ⟨e, F2, vA2, A3, vc2, c3, _, _, _, _, _, _, _, _, _, _, _, _, _, _, _, rfl, rfl, fun z => h0 (by simpa using z), fun z => h1 (by simpa using z), fun z => h2 (by simpa using z), fun z => h3 (by simpa using z), fun z => h4 (by simpa using z), fun z => h5 (by simpa using z), fun _ => rfl, fun _ => rfl, fun z => h8 (by simpa using z), fun z => h9 (by simpa using z), fun _ => rfl, fun z => h11 (by simpa using z), fun z => h12 (by simpa using z), fun z => h13 (by simpa using z), fun z => h14 (by simpa using z), Lib.hid (fun z => hf.out (by simpa using z)), fun z => (by have := g7 (by simpa using z); simp [this]), fun z => (by have := g8 (by simpa using z); simp [this]), fun z => (by have := g9 (by simpa using z); simp [this]), fun _ => (by simp [hL6]), fun z => (by have := g11 (by simpa using z); simp [this]), fun z => (by have := g12 (by simpa using z); simp [this]), fun z => (by have := g13 (by simpa using z); simp [this]), fun z => (by have := g14 (by simpa using z); simp [this])⟩
                · have hL6 : L 6 = true := g7 (haf ⟨7, .data⟩ (by simp) rfl)
                  obtain rfl := h6 hL6
                  obtain rfl := h7 (haf ⟨7, .data⟩ (by simp) rfl)
                  go_wp2
                  rw [HR18.out]
                  exact ⟨e, F2, vA2, A3, vc2, c3, _, _, _, _, _, _, _, _, _, _, _, _, _, _, _, rfl, rfl, fun z => h0 (by simpa using z), fun z => h1 (by simpa using z), fun z => h2 (by simpa using z), fun z => h3 (by simpa using z), fun z => h4 (by simpa using z), fun z => h5 (by simpa using z), fun _ => rfl, fun _ => rfl, fun z => h8 (by simpa using z), fun z => h9 (by simpa using z), fun z => h10 (by simpa using z), fun _ => rfl, fun z => h12 (by simpa using z), fun z => h13 (by simpa using z), fun z => h14 (by simpa using z), Lib.hid (fun z => hf.out (by simpa using z)), fun z => (by have := g7 (by simpa using z); simp [this]), fun z => (by have := g8 (by simpa using z); simp [this]), fun z => (by have := g9 (by simpa using z); simp [this]), fun z => (by have := g10 (by simpa using z); simp [this]), fun _ => (by simp [hL6]), fun z => (by have := g12 (by simpa using z); simp [this]), fun z => (by have := g13 (by simpa using z); simp [this]), fun z => (by have := g14 (by simpa using z); simp [this])⟩
                · have hL6 : L 6 = true := g8 (haf ⟨8, .data⟩ (by simp) rfl)
                  obtain rfl := h6 hL6
                  obtain rfl := h8 (haf ⟨8, .data⟩ (by simp) rfl)
                  go_wp2
                  rw [HR18.out]
                  exact ⟨e, F2, vA2, A3, vc2, c3, _, _, _, _, _, _, _, _, _, _, _, _, _, _, _, rfl, rfl, fun z => h0 (by simpa using z), fun z => h1 (by simpa using z), fun z => h2 (by simpa using z), fun z => h3 (by simpa using z), fun z => h4 (by simpa using z), fun z => h5 (by simpa using z), fun _ => rfl, fun z => h7 (by simpa using z), fun _ => rfl, fun z => h9 (by simpa using z), fun z => h10 (by simpa using z), fun z => h11 (by simpa using z), fun _ => rfl, fun z => h13 (by simpa using z), fun z => h14 (by simpa using z), Lib.hid (fun z => hf.out (by simpa using z)), fun z => (by have := g7 (by simpa using z); simp [this]), fun z => (by have := g8 (by simpa using z); simp [this]), fun z => (by have := g9 (by simpa using z); simp [this]), fun z => (by have := g10 (by simpa using z); simp [this]), fun z => (by have := g11 (by simpa using z); simp [this]), fun _ => (by simp [hL6]), fun z => (by have := g13 (by simpa using z); simp [this]), fun z => (by have := g14 (by simpa using z); simp [this])⟩
                · have hL6 : L 6 = true := g9 (haf ⟨9, .data⟩ (by simp) rfl)
                  obtain rfl := h6 hL6
                  obtain rfl := h9 (haf ⟨9, .data⟩ (by simp) rfl)
                  go_wp2
                  rw [HR18.out]
                  exact ⟨e, F2, vA2, A3, vc2, c3, _, _, _, _, _, _, _, _, _, _, _, _, _, _, _, rfl, rfl, fun z => h0 (by simpa using z), fun z => h1 (by simpa using z), fun z => h2 (by simpa using z), fun z => h3 (by simpa using z), fun z => h4 (by simpa using z), fun z => h5 (by simpa using z), fun _ => rfl, fun z => h7 (by simpa using z), fun z => h8 (by simpa using z), fun _ => rfl, fun z => h10 (by simpa using z), fun z => h11 (by simpa using z), fun z => h12 (by simpa using z), fun _ => rfl, fun z => h14 (by simpa using z), Lib.hid (fun z => hf.out (by simpa using z)), fun z => (by have := g7 (by simpa using z); simp [this]), fun z => (by have := g8 (by simpa using z); simp [this]), fun z => (by have := g9 (by simpa using z); simp [this]), fun z => (by have := g10 (by simpa using z); simp [this]), fun z => (by have := g11 (by simpa using z); simp [this]), fun z => (by have := g12 (by simpa using z); simp [this]), fun _ => (by simp [hL6]), fun z => (by have := g14 (by simpa using z); simp [this])⟩
                · have hL6 : L 6 = true := g10 (haf ⟨10, .data⟩ (by simp) rfl)
                  obtain rfl := h6 hL6
                  obtain rfl := h10 (haf ⟨10, .data⟩ (by simp) rfl)
                  go_wp2
                  rw [HR18.out]
                  exact ⟨e, F2, vA2, A3, vc2, c3, _, _, _, _, _, _, _, _, _, _, _, _, _, _, _, rfl, rfl, fun z => h0 (by simpa using z), fun z => h1 (by simpa using z), fun z => h2 (by simpa using z), fun z => h3 (by simpa using z), fun z => h4 (by simpa using z), fun z => h5 (by simpa using z), fun _ => rfl, fun z => h7 (by simpa using z), fun z => h8 (by simpa using z), fun z => h9 (by simpa using z), fun _ => rfl, fun z => h11 (by simpa using z), fun z => h12 (by simpa using z), fun z => h13 (by simpa using z), fun _ => rfl, Lib.hid (fun z => hf.out (by simpa using z)), fun z => (by have := g7 (by simpa using z); simp [this]), fun z => (by have := g8 (by simpa using z); simp [this]), fun z => (by have := g9 (by simpa using z); simp [this]), fun z => (by have := g10 (by simpa using z); simp [this]), fun z => (by have := g11 (by simpa using z); simp [this]), fun z => (by have := g12 (by simpa using z); simp [this]), fun z => (by have := g13 (by simpa using z); simp [this]), fun _ => (by simp [hL6])⟩
              · rintro L a' w' hL hInv
                rw [HR18.out] at hInv
                obtain ⟨e, F2, vA2, A3, vc2, c3, v105, v106, v107, v108, v109, v110, v111, v104, v112, v113, v114, v115, v9, v10, v11, rfl, rfl, h0, h1, h2, h3, h4, h5, h6, h7, h8, h9, h10, h11, h12, h13, h14, hf, g7, g8, g9, g10, g11, g12, g13, g14⟩ := hInv
                obtain rfl := h0 (hL 0 (by omega))
                obtain rfl := h1 (hL 1 (by omega))
                obtain rfl := h2 (hL 2 (by omega))
                obtain rfl := h3 (hL 3 (by omega))
                obtain rfl := h4 (hL 4 (by omega))
                obtain rfl := h5 (hL 5 (by omega))
                obtain rfl := h6 (hL 6 (by omega))
                obtain rfl := h7 (hL 7 (by omega))
                obtain rfl := h8 (hL 8 (by omega))
                obtain rfl := h9 (hL 9 (by omega))
                obtain rfl := h10 (hL 10 (by omega))
                obtain rfl := h11 (hL 11 (by omega))
                obtain rfl := h12 (hL 12 (by omega))
                obtain rfl := h13 (hL 13 (by omega))
                obtain rfl := h14 (hL 14 (by omega))
                obtain ⟨hF2, hok2, hSF2, hSV2⟩ := hf.out (hL 6 (by omega))
                have hse : wr.heap.size ≤ e.w.heap.size := e.b.size
                clear h0 h1 h2 h3 h4 h5 h6 h7 h8 h9 h10 h11 h12 h13 h14 hf g7 g8 g9 g10 g11 g12 g13 g14 hL HR18
                clear d0 d1 d2 d3 d4 d5 d6 d7 b0 b1 b2 b3 b4 b5 b6 y0
                have HBe := Lib.hid (HBj.out.trans (e.b.mono HBj.out.size))
                have HF2 := Lib.hid hF2
                have Hok2 := Lib.hid hok2
                have HSF2 := Lib.hid hSF2
                have HSV2 := Lib.hid hSV2
                clear hF2 hok2 hSF2 hSV2
                go_wp2
                have Hb8 := Lib.hid e.b
                obtain ⟨w8, hw8⟩ : ∃ w8, w8 = e.w := ⟨_, rfl⟩
                rw [← hw8] at HBe HSF2 HSV2 Hb8 hse ⊢
                clear hw8 e
                obtain ⟨b0, b1, b2, b3, b4, b5, b6⟩ := HBx.out w8 HBe.out
                have d0 := later_cell b0 (by omega)
                have d1 := later_cell b1 (by omega)
                have d2 := later_cell b2 (by omega)
                have d3 := later_cell b3 (by omega)
                have d4 := later_cell b4 (by omega)
                have d5 := later_cell b5 (by omega)
                have d6 := later_cell b6 (by omega)
                have d7 := later_cell ((Hb8.out.cell (p := ⟨gb16, j, none⟩) (by simp only; omega)).trans HY.out) (by omega)
                clear b0 b1 b2 b3 b4 b5 b6
                obtain ⟨R19, hR19⟩ : ∃ R : (Nat → Bool) → Act → World → Prop, R = fun L a' w' => ∃ (e : Later w8) (v116 v117 v118 v119 v120 v121 v122 v123 v124 v125 v126 v127 v128 v129 v130 : Value), w' = e.w ∧ a' = { tmps := #[Value.agg #[Value.string q.name, Value.int IntKind.i64 q.lo, Value.int IntKind.i64 q.hi, Value.int IntKind.i64 q.rise, Value.int IntKind.i64 q.fall, Value.int IntKind.i64 q.bad, Value.slice q.gA q.gs.length q.gc], Value.slice A l.length c, Value.int IntKind.i64 t, Value.int IntKind.i64 x, Value.pointer (some { block := w.heap.size, off := 0 }), undef, undef, undef, u8, Value.slice vA2 F2.length vc2, Value.slice A3 l.length c3, Value.bool true, Value.int IntKind.i64 0, Value.slice (some { block := g, off := off }) (possS q l t).length cb, Value.int IntKind.i64 0, Value.int IntKind.i64 ↑k, Value.pointer (some { block := gb16, off := 0 }), Value.int IntKind.i64 ↑j, Value.agg #[Value.string q.name, Value.int IntKind.i64 q.lo, Value.int IntKind.i64 q.hi, Value.int IntKind.i64 q.rise, Value.int IntKind.i64 q.fall, Value.int IntKind.i64 q.bad, Value.slice q.gA q.gs.length q.gc], Value.slice A l.length c, Value.bool false, undef, Value.tuple #[Value.slice vA F.length vc, Value.slice A2 l.length c2, Value.bool true, Value.int IntKind.i64 0], Value.agg #[Value.string q.name, Value.int IntKind.i64 q.lo, Value.int IntKind.i64 q.hi, Value.int IntKind.i64 q.rise, Value.int IntKind.i64 q.fall, Value.int IntKind.i64 q.bad, Value.slice q.gA q.gs.length q.gc], Value.slice A l.length c, Value.int IntKind.i64 t, Value.int IntKind.i64 x, Value.tuple #[Value.slice vA F.length vc, Value.slice A2 l.length c2, Value.bool true, Value.int IntKind.i64 0], Value.slice vA F.length vc, Value.slice A2 l.length c2, Value.bool true, Value.int IntKind.i64 0, Value.tuple #[Value.slice (some { block := g, off := off }) (possS q l t).length cb, Value.int IntKind.i64 0], Value.agg #[Value.string q.name, Value.int IntKind.i64 q.lo, Value.int IntKind.i64 q.hi, Value.int IntKind.i64 q.rise, Value.int IntKind.i64 q.fall, Value.int IntKind.i64 q.bad, Value.slice q.gA q.gs.length q.gc], Value.slice A l.length c, Value.int IntKind.i64 t, Value.tuple #[Value.slice (some { block := g, off := off }) (possS q l t).length cb, Value.int IntKind.i64 0], Value.slice (some { block := g, off := off }) (possS q l t).length cb, Value.int IntKind.i64 0, Value.int IntKind.i64 0, Value.int IntKind.i64 0, Value.bool false, Value.int IntKind.i64 0, Value.bool false, Value.bool false, Value.bool true, Value.bool false, Value.bool false, undef, undef, undef, undef, undef, undef, undef, undef, undef, undef, undef, undef, undef, undef, undef, undef, undef, undef, undef, undef, undef, Value.slice (some { block := g, off := off }) (possS q l t).length cb, Value.int IntKind.i64 x, Value.bool true, Value.bool false, Value.bool false, Value.agg #[Value.string q.name, Value.int IntKind.i64 q.lo, Value.int IntKind.i64 q.hi, Value.int IntKind.i64 q.rise, Value.int IntKind.i64 q.fall, Value.int IntKind.i64 q.bad, Value.slice q.gA q.gs.length q.gc], Value.slice A l.length c, Value.int IntKind.i64 t, Value.int IntKind.i64 x, Value.slice vA F.length vc, Value.slice A2 l.length c2, Value.bool true, Value.bool false, Value.bool false, Value.int IntKind.i64 ↑k, Value.slice (some { block := g, off := off }) (possS q l t).length cb, Value.int IntKind.i64 ↑(possS q l t).length, Value.bool true, u87, u88, Value.slice (some { block := g, off := off }) (possS q l t).length cb, Value.int IntKind.i64 ↑k, Value.pointer (some { block := g, off := off + k * 2 }), Value.pointer (some { block := g, off := off + k * 2 }), Value.int IntKind.i64 sk.lo, Value.slice (some { block := g, off := off }) (possS q l t).length cb, Value.int IntKind.i64 ↑k, Value.pointer (some { block := g, off := off + k * 2 }), Value.pointer (some { block := g, off := off + k * 2 + 1 }), Value.int IntKind.i64 sk.hi, Value.agg #[Value.int IntKind.i64 sk.lo, Value.int IntKind.i64 sk.hi], Value.int IntKind.i64 ↑j, Value.bool true, u102, u103, Value.tuple #[Value.slice vA2 F2.length vc2, Value.slice A3 l.length c3, Value.bool true, Value.int IntKind.i64 0], Value.agg #[Value.string q.name, Value.int IntKind.i64 q.lo, Value.int IntKind.i64 q.hi, Value.int IntKind.i64 q.rise, Value.int IntKind.i64 q.fall, Value.int IntKind.i64 q.bad, Value.slice q.gA q.gs.length q.gc], Value.slice A l.length c, Value.int IntKind.i64 t, Value.int IntKind.i64 ↑j, Value.pointer (some { block := gb16, off := j }), Value.int IntKind.i64 y, Value.tuple #[Value.slice vA2 F2.length vc2, Value.slice A3 l.length c3, Value.bool true, Value.int IntKind.i64 0], Value.slice vA2 F2.length vc2, Value.slice A3 l.length c3, Value.bool true, Value.int IntKind.i64 0, v116, v117, v118, v119, v120, v121, v122, v123, v124, v125, v126, v127, v128, v129, v130, u131, u132, u133, undef], defers := [] } ∧ (L 0 = true → v116 = .int .i64 0) ∧ (L 1 = true → v117 = .bool false) ∧ (L 2 = true → v118 = .bool false) ∧ (L 3 = true → v119 = .bool true) ∧ (L 4 = true → v120 = .bool false) ∧ (L 5 = true → v121 = .bool false) ∧ (L 6 = true → v122 = .bool false) ∧ (L 7 = true → v123 = .agg #[.string q.name, .int .i64 q.lo, .int .i64 q.hi, .int .i64 q.rise, .int .i64 q.fall, .int .i64 q.bad, .slice q.gA q.gs.length q.gc]) ∧ (L 8 = true → v124 = .slice A l.length c) ∧ (L 9 = true → v125 = .int .i64 t) ∧ (L 10 = true → v126 = .int .i64 j) ∧ (L 11 = true → v127 = .pointer (some ⟨gb16, j, none⟩)) ∧ (L 12 = true → v128 = .int .i64 y) ∧ (L 13 = true → v129 = .slice vA2 F2.length vc2) ∧ (L 14 = true → v130 = .slice A3 l.length c3) := ⟨_, rfl⟩
                have HR19 := Lib.hid hR19
                clear hR19
                refine wp_region_inv 15 R19 (by kernel_rfl) (by kernel_rfl) (by kernel_rfl) (by kernel_rfl) (by decide) (by kernel_rfl) ?_ ?_ ?_
                · rw [HR19.out]
                  exact ⟨⟨_, (Below.refl w8.heap.size w8).drew⟩, _, _, _, _, _, _, _, _, _, _, _, _, _, _, _, rfl, rfl, by simp, by simp, by simp, by simp, by simp, by simp, by simp, by simp, by simp, by simp, by simp, by simp, by simp, by simp, by simp⟩
                · rintro L a' w' i o hi ho hLi haf hInv
                  rw [HR19.out] at hInv
                  obtain ⟨e, v116, v117, v118, v119, v120, v121, v122, v123, v124, v125, v126, v127, v128, v129, v130, rfl, rfl, h0, h1, h2, h3, h4, h5, h6, h7, h8, h9, h10, h11, h12, h13, h14⟩ := hInv
                  have hse : w8.heap.size ≤ e.w.heap.size := e.b.size
                  rcases i with _ | _ | _ | _ | _ | _ | _ | _ | _ | _ | _ | _ | _ | _ | _ | i
                  case succ.succ.succ.succ.succ.succ.succ.succ.succ.succ.succ.succ.succ.succ.succ => omega
                  all_goals (simp only [List.getElem?_cons_zero, List.getElem?_cons_succ, Option.some.injEq] at ho; subst ho)
                  · go_wp2
                    rw [HR19.out]
                    exact ⟨e, _, _, _, _, _, _, _, _, _, _, _, _, _, _, _, rfl, rfl, fun _ => rfl, fun z => h1 (by simpa using z), fun z => h2 (by simpa using z), fun z => h3 (by simpa using z), fun z => h4 (by simpa using z), fun z => h5 (by simpa using z), fun z => h6 (by simpa using z), fun z => h7 (by simpa using z), fun z => h8 (by simpa using z), fun z => h9 (by simpa using z), fun z => h10 (by simpa using z), fun z => h11 (by simpa using z), fun z => h12 (by simpa using z), fun z => h13 (by simpa using z), fun z => h14 (by simpa using z)⟩
                  · obtain rfl := h0 (haf ⟨0, .data⟩ (by simp) rfl)
                    go_wp2
                    rw [HR19.out]
                    exact ⟨e, _, _, _, _, _, _, _, _, _, _, _, _, _, _, _, rfl, rfl, fun _ => rfl, fun _ => rfl, fun z => h2 (by simpa using z), fun z => h3 (by simpa using z), fun z => h4 (by simpa using z), fun z => h5 (by simpa using z), fun z => h6 (by simpa using z), fun z => h7 (by simpa using z), fun z => h8 (by simpa using z), fun z => h9 (by simpa using z), fun z => h10 (by simpa using z), fun z => h11 (by simpa using z), fun z => h12 (by simpa using z), fun z => h13 (by simpa using z), fun z => h14 (by simpa using z)⟩
                  · obtain rfl := h1 (haf ⟨1, .data⟩ (by simp) rfl)
                    go_wp2
                    rw [HR19.out]
                    exact ⟨e, _, _, _, _, _, _, _, _, _, _, _, _, _, _, _, rfl, rfl, fun z => h0 (by simpa using z), fun _ => rfl, fun _ => rfl, fun z => h3 (by simpa using z), fun z => h4 (by simpa using z), fun z => h5 (by simpa using z), fun z => h6 (by simpa using z), fun z => h7 (by simpa using z), fun z => h8 (by simpa using z), fun z => h9 (by simpa using z), fun z => h10 (by simpa using z), fun z => h11 (by simpa using z), fun z => h12 (by simpa using z), fun z => h13 (by simpa using z), fun z => h14 (by simpa using z)⟩
                  · obtain rfl := h2 (haf ⟨2, .guard⟩ (by simp) rfl)
                    go_wp2
                    rw [HR19.out]
                    exact ⟨e, _, _, _, _, _, _, _, _, _, _, _, _, _, _, _, rfl, rfl, fun z => h0 (by simpa using z), fun z => h1 (by simpa using z), fun _ => rfl, fun _ => rfl, fun z => h4 (by simpa using z), fun z => h5 (by simpa using z), fun z => h6 (by simpa using z), fun z => h7 (by simpa using z), fun z => h8 (by simpa using z), fun z => h9 (by simpa using z), fun z => h10 (by simpa using z), fun z => h11 (by simpa using z), fun z => h12 (by simpa using z), fun z => h13 (by simpa using z), fun z => h14 (by simpa using z)⟩
                  · obtain rfl := h2 (haf ⟨2, .guard⟩ (by simp) rfl)
                    obtain rfl := h3 (haf ⟨3, .data⟩ (by simp) rfl)
                    go_wp2
                    rw [HR19.out]
                    exact ⟨e, _, _, _, _, _, _, _, _, _, _, _, _, _, _, _, rfl, rfl, fun z => h0 (by simpa using z), fun z => h1 (by simpa using z), fun _ => rfl, fun _ => rfl, fun _ => rfl, fun z => h5 (by simpa using z), fun z => h6 (by simpa using z), fun z => h7 (by simpa using z), fun z => h8 (by simpa using z), fun z => h9 (by simpa using z), fun z => h10 (by simpa using z), fun z => h11 (by simpa using z), fun z => h12 (by simpa using z), fun z => h13 (by simpa using z), fun z => h14 (by simpa using z)⟩
                  · obtain rfl := h2 (haf ⟨2, .data⟩ (by simp) rfl)
                    obtain rfl := h4 (haf ⟨4, .data⟩ (by simp) rfl)
                    go_wp2
                    rw [HR19.out]
                    exact ⟨e, _, _, _, _, _, _, _, _, _, _, _, _, _, _, _, rfl, rfl, fun z => h0 (by simpa using z), fun z => h1 (by simpa using z), fun _ => rfl, fun z => h3 (by simpa using z), fun _ => rfl, fun _ => rfl, fun z => h6 (by simpa using z), fun z => h7 (by simpa using z), fun z => h8 (by simpa using z), fun z => h9 (by simpa using z), fun z => h10 (by simpa using z), fun z => h11 (by simpa using z), fun z => h12 (by simpa using z), fun z => h13 (by simpa using z), fun z => h14 (by simpa using z)⟩
                  · obtain rfl := h5 (haf ⟨5, .data⟩ (by simp) rfl)
                    go_wp2
                    rw [HR19.out]
                    exact ⟨e, _, _, _, _, _, _, _, _, _, _, _, _, _, _, _, rfl, rfl, fun z => h0 (by simpa using z), fun z => h1 (by simpa using z), fun z => h2 (by simpa using z), fun z => h3 (by simpa using z), fun z => h4 (by simpa using z), fun _ => rfl, fun _ => rfl, fun z => h7 (by simpa using z), fun z => h8 (by simpa using z), fun z => h9 (by simpa using z), fun z => h10 (by simpa using z), fun z => h11 (by simpa using z), fun z => h12 (by simpa using z), fun z => h13 (by simpa using z), fun z => h14 (by simpa using z)⟩
                  · obtain rfl := h6 (haf ⟨6, .guard⟩ (by simp) rfl)
                    go_wp2
                    rw [HR19.out]
                    exact ⟨e, _, _, _, _, _, _, _, _, _, _, _, _, _, _, _, rfl, rfl, fun z => h0 (by simpa using z), fun z => h1 (by simpa using z), fun z => h2 (by simpa using z), fun z => h3 (by simpa using z), fun z => h4 (by simpa using z), fun z => h5 (by simpa using z), fun _ => rfl, fun _ => rfl, fun z => h8 (by simpa using z), fun z => h9 (by simpa using z), fun z => h10 (by simpa using z), fun z => h11 (by simpa using z), fun z => h12 (by simpa using z), fun z => h13 (by simpa using z), fun z => h14 (by simpa using z)⟩
                  · obtain rfl := h6 (haf ⟨6, .guard⟩ (by simp) rfl)
                    go_wp2
                    rw [HR19.out]
                    exact ⟨e, _, _, _, _, _, _, _, _, _, _, _, _, _, _, _, rfl, rfl, fun z => h0 (by simpa using z), fun z => h1 (by simpa using z), fun z => h2 (by simpa using z), fun z => h3 (by simpa using z), fun z => h4 (by simpa using z), fun z => h5 (by simpa using z), fun _ => rfl, fun z => h7 (by simpa using z), fun _ => rfl, fun z => h9 (by simpa using z), fun z => h10 (by simpa using z), fun z => h11 (by simpa using z), fun z => h12 (by simpa using z), fun z => h13 (by simpa using z), fun z => h14 (by simpa using z)⟩
                  · obtain rfl := h6 (haf ⟨6, .guard⟩ (by simp) rfl)
                    go_wp2
                    rw [HR19.out]
                    exact ⟨e, _, _, _, _, _, _, _, _, _, _, _, _, _, _, _, rfl, rfl, fun z => h0 (by simpa using z), fun z => h1 (by simpa using z), fun z => h2 (by simpa using z), fun z => h3 (by simpa using z), fun z => h4 (by simpa using z), fun z => h5 (by simpa using z), fun _ => rfl, fun z => h7 (by simpa using z), fun z => h8 (by simpa using z), fun _ => rfl, fun z => h10 (by simpa using z), fun z => h11 (by simpa using z), fun z => h12 (by simpa using z), fun z => h13 (by simpa using z), fun z => h14 (by simpa using z)⟩
                  · obtain rfl := h6 (haf ⟨6, .guard⟩ (by simp) rfl)
                    go_wp2
                    rw [HR19.out]
                    exact ⟨e, _, _, _, _, _, _, _, _, _, _, _, _, _, _, _, rfl, rfl, fun z => h0 (by simpa using z), fun z => h1 (by simpa using z), fun z => h2 (by simpa using z), fun z => h3 (by simpa using z), fun z => h4 (by simpa using z), fun z => h5 (by simpa using z), fun _ => rfl, fun z => h7 (by simpa using z), fun z => h8 (by simpa using z), fun z => h9 (by simpa using z), fun _ => rfl, fun z => h11 (by simpa using z), fun z => h12 (by simpa using z), fun z => h13 (by simpa using z), fun z => h14 (by simpa using z)⟩
                  · obtain rfl := h6 (haf ⟨6, .guard⟩ (by simp) rfl)
                    obtain rfl := h10 (haf ⟨10, .data⟩ (by simp) rfl)
                    go_wp2
                    rw [HR19.out]
                    exact ⟨e, _, _, _, _, _, _, _, _, _, _, _, _, _, _, _, rfl, rfl, fun z => h0 (by simpa using z), fun z => h1 (by simpa using z), fun z => h2 (by simpa using z), fun z => h3 (by simpa using z), fun z => h4 (by simpa using z), fun z => h5 (by simpa using z), fun _ => rfl, fun z => h7 (by simpa using z), fun z => h8 (by simpa using z), fun z => h9 (by simpa using z), fun _ => rfl, fun _ => rfl, fun z => h12 (by simpa using z), fun z => h13 (by simpa using z), fun z => h14 (by simpa using z)⟩
                  · obtain rfl := h6 (haf ⟨6, .guard⟩ (by simp) rfl)
                    obtain rfl := h11 (haf ⟨11, .data⟩ (by simp) rfl)
                    go_wp2
                    rw [HR19.out]
                    exact ⟨e, _, _, _, _, _, _, _, _, _, _, _, _, _, _, _, rfl, rfl, fun z => h0 (by simpa using z), fun z => h1 (by simpa using z), fun z => h2 (by simpa using z), fun z => h3 (by simpa using z), fun z => h4 (by simpa using z), fun z => h5 (by simpa using z), fun _ => rfl, fun z => h7 (by simpa using z), fun z => h8 (by simpa using z), fun z => h9 (by simpa using z), fun z => h10 (by simpa using z), fun _ => rfl, fun _ => rfl, fun z => h13 (by simpa using z), fun z => h14 (by simpa using z)⟩
                  · obtain rfl := h6 (haf ⟨6, .guard⟩ (by simp) rfl)
                    go_wp2
                    rw [HR19.out]
                    exact ⟨e, _, _, _, _, _, _, _, _, _, _, _, _, _, _, _, rfl, rfl, fun z => h0 (by simpa using z), fun z => h1 (by simpa using z), fun z => h2 (by simpa using z), fun z => h3 (by simpa using z), fun z => h4 (by simpa using z), fun z => h5 (by simpa using z), fun _ => rfl, fun z => h7 (by simpa using z), fun z => h8 (by simpa using z), fun z => h9 (by simpa using z), fun z => h10 (by simpa using z), fun z => h11 (by simpa using z), fun z => h12 (by simpa using z), fun _ => rfl, fun z => h14 (by simpa using z)⟩
                  · obtain rfl := h6 (haf ⟨6, .guard⟩ (by simp) rfl)
                    go_wp2
                    rw [HR19.out]
                    exact ⟨e, _, _, _, _, _, _, _, _, _, _, _, _, _, _, _, rfl, rfl, fun z => h0 (by simpa using z), fun z => h1 (by simpa using z), fun z => h2 (by simpa using z), fun z => h3 (by simpa using z), fun z => h4 (by simpa using z), fun z => h5 (by simpa using z), fun _ => rfl, fun z => h7 (by simpa using z), fun z => h8 (by simpa using z), fun z => h9 (by simpa using z), fun z => h10 (by simpa using z), fun z => h11 (by simpa using z), fun z => h12 (by simpa using z), fun z => h13 (by simpa using z), fun _ => rfl⟩
                · rintro L a' w' hL hInv
                  rw [HR19.out] at hInv
                  obtain ⟨e, v116, v117, v118, v119, v120, v121, v122, v123, v124, v125, v126, v127, v128, v129, v130, rfl, rfl, h0, h1, h2, h3, h4, h5, h6, h7, h8, h9, h10, h11, h12, h13, h14⟩ := hInv
                  obtain rfl := h0 (hL 0 (by omega))
                  obtain rfl := h1 (hL 1 (by omega))
                  obtain rfl := h2 (hL 2 (by omega))
                  obtain rfl := h3 (hL 3 (by omega))
                  obtain rfl := h4 (hL 4 (by omega))
                  obtain rfl := h5 (hL 5 (by omega))
                  obtain rfl := h6 (hL 6 (by omega))
                  obtain rfl := h7 (hL 7 (by omega))
                  obtain rfl := h8 (hL 8 (by omega))
                  obtain rfl := h9 (hL 9 (by omega))
                  obtain rfl := h10 (hL 10 (by omega))
                  obtain rfl := h11 (hL 11 (by omega))
                  obtain rfl := h12 (hL 12 (by omega))
                  obtain rfl := h13 (hL 13 (by omega))
                  obtain rfl := h14 (hL 14 (by omega))
                  have hse : w8.heap.size ≤ e.w.heap.size := e.b.size
                  clear h0 h1 h2 h3 h4 h5 h6 h7 h8 h9 h10 h11 h12 h13 h14 hL HR19
                  clear d0 d1 d2 d3 d4 d5 d6 d7
                  have HB9 := Lib.hid (HBe.out.trans (e.b.mono HBe.out.size))
                  have HCE := Lib.hid (explW_any q l t y F2 A vA2 A3 c vc2 c3 e.w.heap.size e.w ((Hq.out e.w HB9.out).mono (by omega)) ((HA.out e.w HB9.out).mono (by omega)) ((Sl.below HSF2.out e.b).mono e.b.size) ((Sl.below HSV2.out e.b).mono e.b.size) (Nat.le_refl _) Hp0.out Hm.out HF2.out Hok2.out)
                  go_wp2_with (go_at_call 28; refine HCE.out.mono ?_; rintro r w9 ⟨rfl, hb9⟩)
                  have Hb9 := Lib.hid hb9
                  have hs9 := hb9.size
                  clear hb9
                  go_wp2
                  go_roundw
                  case rel => exact ⟨j + 1, by omega, by go_num, Lib.hid (((Hbj.out.trans (Hb8.out.mono hrj)).trans (e.b.mono (show W7.heap.size ≤ w8.heap.size by omega))).trans (Hb9.out.mono (show W7.heap.size ≤ e.w.heap.size by omega)))⟩
                  case measure => simp [intOf]; omega
            · obtain rfl : j = 2 := by omega
              go_wp2
              go_roundw
              case rel => exact ⟨k + 1, by omega, by go_num, Lib.hid ((Hbr.out.trans (HB7.out.mono hrs)).trans (Hbj.out.mono (by omega)))⟩
              case measure => simp [intOf]; omega
      · obtain rfl : k = (possS q l t).length := by omega
        go_wp2_with (go_at_call 10; refine (wakes_any _).mono ?_; rintro r w6 ⟨rfl, hb6⟩)
        go_ret
        exact ⟨rfl, (HU.out wr HBr.out).trans (hb6.mono (by have := HBr.out.size; omega))⟩
end Go.Proofs.Ytcgnpndfhhcplaa
namespace Go.Proofs.Ytcgnpndfhhcplaa
open Go.ChangeShapes Go.WideShapes Go.ChangeAt Go.RowKit W7
set_option maxRecDepth 100000 in
theorem watchWitness_lifted (os : Os) (started : os.Started) (H : Type) (enc : TypeId × Value → H) :
    ReturnsInHanded {} Try.checked os 7 .any (Rows.watchWitnessSpec.pre6 enc Try.prog Try.f7 Rows.watchWitnessRow.domain false) (Rows.watchWitnessSpec.post enc Try.prog Try.f7 false true false false) := by
  refine returnsInHanded_of_change (C := Try.checked) Try.own started (by kernel_rfl) Try.func7
    (ChangeSpec.witness6 (enc := enc) (C := Try.checked) false ⟨#[], #[.agg #[.string ByteArray.empty, .int .i64 0, .int .i64 0, .int .i64 0, .int .i64 0, .int .i64 0, .slice none 0 0], .slice none 0 0, .int .i64 0, .int .i64 0], []⟩ 8 (by kernel_rfl) (by kernel_rfl) (by kernel_rfl) (by kernel_rfl)) ?_
  intro W base args ds gs before hval0 hW hcnd _
  have hval : ∀ (j : Nat) t v, Try.f7.params[j]? = some t → args[j]? = some v → Value.okWide Try.prog W .any base t v := hval0
  have hW' := hW
  obtain ⟨p, q, hA0, hV, rfl, hfz, hnd⟩ := hW
  have hA : DataW.TrodAll enc Try.prog W 0 (fun _ => true) true Try.f7.params.toList args.toList ds p := hA0
  have hAll := hA
  rw [Try.params7] at hA hval
  obtain ⟨v0, v1, v2, v3, d0, d1, d2, d3, p0, p1, p2, p3, rfl, rfl, hp, h0, h1, h2, h3⟩ := trodAll_four hA
  obtain ⟨rfl, rfl⟩ := trodVars_none hV
  obtain ⟨qq, rfl, hq⟩ := open_q (hval 0 26 v0 rfl rfl) h0
  obtain ⟨a1, n1, c1, rfl⟩ := okWide_slice Try.underlying27 (hval 1 27 v1 rfl rfl)
  obtain ⟨fuel, hf⟩ := h1
  obtain ⟨A, c, l, e1, hsl, hl, hc⟩ := open_rs hf
  simp only [Value.cells, List.cons.injEq, and_true, Value.slice.injEq] at e1
  obtain ⟨rfl, rfl, rfl⟩ := e1
  obtain ⟨t, rfl, rfl, rfl, _⟩ := open_int Try.underlying3 (hval 2 3 v2 rfl rfl) h2
  obtain ⟨wh, rfl, rfl, rfl, _⟩ := open_int Try.underlying3 (hval 3 3 v3 rfl rfl) h3
  have hlt : ∀ x ∈ p, x.block < W.heap.size := fun x hx => hW'.lt x (by simp [hx])
  refine (LawWitness_any qq l t wh a1 c1 W hq hsl hl hc).mono fun e W' ⟨he, hb⟩ => ?_
  subst he
  exact ⟨_, rfl, post_of_below (pa := p) (pv := []) hW' (fun _ _ _ => trodAll_mk1 (shut_bool Try.underlying4 true))
    (fun sp hsp => all_stay Try.laidOut _ _ _ _ (fun t ht => by
      rw [Try.params7] at ht
      simp only [List.mem_cons, List.not_mem_nil, or_false] at ht
      rcases ht with rfl | rfl | rfl | rfl <;> exact ⟨by kernel_rfl, of_decide_eq_true (by kernel_rfl)⟩) hAll (fun x hx => hb.same (hlt x hx)) (fun x hx => hsp x (by simp [hx])))
    (fun _ _ => rfl) rfl hb (ok_one (by kernel_rfl) rfl (okWide_bool_mk Try.underlying4 true))⟩
theorem watchWitness_holds : Rows.WatchWitnessSaid :=
  OpenClaim.holds_of_wide 7 Try.f7 rfl rfl rfl rfl rfl rfl rfl ⟨rfl, rfl, rfl, rfl, rfl⟩ rfl rfl rfl rfl rfl (by kernel_rfl) Try.func7 (by kernel_rfl)
    (of_decide_eq_true (by kernel_rfl)) (by unfold Func.isWrapper; first | (rw [if_pos (by decide +kernel)]; kernel_rfl) | (rw [if_neg (by decide +kernel)]; exact ⟨rfl, rfl⟩))
    (fun os started H enc _ => watchWitness_lifted os started H enc)
end Go.Proofs.Ytcgnpndfhhcplaa
