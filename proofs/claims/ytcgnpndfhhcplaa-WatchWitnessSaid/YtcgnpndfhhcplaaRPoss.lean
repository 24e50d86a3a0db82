/-
  The specification's possible and Possible: the same spans as package watch's. Conditions: bounds; of valid readings at most 12.
-/
import Derived.Test.YtcgnpndfhhcplaaRJoined
import Derived.Test.YtcgnpndfhhcplaaInside
namespace Go.Proofs.Ytcgnpndfhhcplaa
open Go.RowKit W7
attribute [local go_sem] Oper.semAt_some
theorem coreS_bnd {q : Quantity} {l : List Reading} (hg : Good q l) (s : Nat) : ∀ x ∈ coreS q l s, BndK 1000000000000 x := by
  intro x hx
  rw [coreS_eq hg] at hx
  exact allK_bnd hg (bitsF q.gs.length s) (more := []) (by simp) x (core_sub x hx)
theorem rp_span {q : Quantity} {l : List Reading} {t : Int} (hg : Good q l) (ht : 0 ≤ t ∧ t ≤ 100000) (s : Nat) : SBnd ⟨loX q.rise q.fall (coreS q l s) t, hiX q.rise q.fall (coreS q l s) t⟩ := by
  have hne : coreS q l s ≠ [] := by simp [coreS]
  obtain ⟨⟨a, ha, e1⟩, _⟩ := loX_is (r := q.rise) (f := q.fall) (t := t) hne
  obtain ⟨⟨b, hb, e2⟩, _⟩ := hiX_is (r := q.rise) (f := q.fall) (t := t) hne
  have h1 := coreS_bnd hg s a ha
  have h2 := coreS_bnd hg s b hb
  unfold BndK at h1 h2
  have d1 := dn_bnd (s := a.t) (t := t) hg.rise hg.fall ⟨h1.2.2.2.2.1, h1.2.2.2.2.2⟩ ht
  have d2 := dn_bnd (s := t) (t := b.t) hg.rise hg.fall ht ⟨h2.2.2.2.2.1, h2.2.2.2.2.2⟩
  unfold SBnd
  simp only
  omega
theorem jnAt_len1 (l : List Span) (x : Span) (k : Nat) (h : k ≤ l.length) : (jnAt l x k).1.length + (if (jnAt l x k).2.2 then 0 else 1) ≤ k + 1 := by
  induction k with
  | zero => simp [jnAt]
  | succ k ih =>
    rw [jnAt_succ l x k (by omega)]
    have ih := ih (by omega)
    unfold jnStep
    split
    · simp only [List.length_append, List.length_cons, List.length_nil]; omega
    · split
      · cases hp : (jnAt l x k).2.2
        · rw [hp] at ih
          simp at ih ⊢; omega
        · rw [hp] at ih
          simp at ih ⊢; omega
      · simp only; omega
theorem jnL_len (l : List Span) (x : Span) : (jnL l x).length ≤ l.length + 1 := by
  unfold jnL jnEnd
  have := jnAt_len1 l x l.length (Nat.le_refl _)
  split
  · rename_i h; rw [h] at this; simp at this; omega
  · rename_i h
    simp only [h, if_false, Bool.false_eq_true] at this
    simp; omega
theorem rpAt_bnd {q : Quantity} {l : List Reading} {t : Int} (many : Nat) (hg : Good q l) (ht : 0 ≤ t ∧ t ≤ 100000) : ∀ k, ∀ s ∈ rpAt q l t many k, SBnd s
  | 0 => by simp [rpAt]
  | k + 1 => by
    have ih := rpAt_bnd many hg ht k
    rw [rpAt_succ]
    unfold rpStep
    split
    · obtain ⟨h1, h2⟩ := jnAt_bnd (rpAt q l t many k) _ ih (rp_span hg ht k) _ (Nat.le_refl _)
      exact jnEnd_bnd h1 h2
    · exact ih
theorem rpAt_len (q : Quantity) (l : List Reading) (t : Int) (many : Nat) : ∀ k, (rpAt q l t many k).length ≤ k
  | 0 => by simp [rpAt]
  | k + 1 => by
    have ih := rpAt_len q l t many k
    rw [rpAt_succ]
    unfold rpStep
    split
    · have := jnL_len (rpAt q l t many k) ⟨loX q.rise q.fall (coreS q l k) t, hiX q.rise q.fall (coreS q l k) t⟩; omega
    · omega
def RpR (q : Quantity) (l : List Reading) (t : Int) (many : Nat) (w : World) (e : Ending) (w' : World) : Prop :=
  ∃ v, e = .returned v ∧ w'.ownsRow w.heap.size 23 2 v (rpAt q l t many (2 ^ q.gs.length)).length (encSps (rpAt q l t many (2 ^ q.gs.length))) ∧ Below w.heap.size w w'
set_option maxHeartbeats 1000000 in
set_option maxRecDepth 100000 in
theorem refPoss_any (q : Quantity) (l : List Reading) (t : Int) (A : Option Addr) (c B : Nat) (w : World) (hq : QIn w B q) (hA : Sl w B 3 encR A l) (hB : B ≤ w.heap.size) (hg : Good q l) (ht : 0 ≤ t ∧ t ≤ 100000) (hl : l.length ≤ 12) (many : Nat) (hbad : q.bad = many) :
    Calls Try.prog 41 #[.agg #[.string q.name, .int .i64 q.lo, .int .i64 q.hi, .int .i64 q.rise, .int .i64 q.fall, .int .i64 q.bad, .slice q.gA q.gs.length q.gc], .slice A l.length c, .int .i64 t] w (RpR q l t many w) := by
  have HG := Lib.hid hg
  have hgl := hg.gl
  obtain ⟨W0, hW0⟩ : ∃ W0, W0 = w.alloc (.cells #[.string q.name, .int .i64 q.lo, .int .i64 q.hi, .int .i64 q.rise, .int .i64 q.fall, .int .i64 q.bad, .slice q.gA q.gs.length q.gc] 26) := ⟨_, rfl⟩
  have HB0 := Lib.hid (show Below w.heap.size w W0 by rw [hW0]; exact (Below.refl _ _).alloc (Nat.le_refl _) _)
  have hs0 : w.heap.size < W0.heap.size := by rw [hW0]; simp
  have Hs0 := Lib.hid (show W0.heap.size = w.heap.size + 1 by rw [hW0]; simp)
  have HQ0 := Lib.hid (show ∀ (X : World), Below (w.heap.size + 1) W0 X → ∀ j v, (#[.string q.name, .int .i64 q.lo, .int .i64 q.hi, .int .i64 q.rise, .int .i64 q.fall, .int .i64 q.bad, .slice q.gA q.gs.length q.gc] : Array Value)[j]? = some v → X.cell? ⟨w.heap.size, j, none⟩ = some v from fun X hX j v hv =>
    (hX.cell (p := ⟨w.heap.size, j, none⟩) (by simp)).trans (by rw [hW0]; exact alloc_cell hv))
  have HU := Lib.hid (fun (X : World) (hX : Below (w.heap.size + 1) W0 X) => show Below w.heap.size w X from HB0.out.trans (hX.mono (Nat.le_succ _)))
  have HKn := Lib.hid (fun (X : World) (hX : Below (w.heap.size + 1) W0 X) (s : Nat) (hs : s < 256) => refKnown_any q l s A c B X (hq.below ((HU.out X hX).mono hB)) (hA.below ((HU.out X hX).mono hB)) (by have := (HU.out X hX).size; omega) hg hs (by omega))
  have HW0 := Lib.hid hW0
  have Hbad := Lib.hid hbad
  clear hW0 hq hA hg hbad
  go_enter Try.func41, Try.ntmps41
  go_wp2
  rw [← HW0.out]
  have h2n : (2 : Int) ^ q.gs.length ≤ 256 := by
    have h3 : 2 ^ q.gs.length ≤ 2 ^ 8 := Nat.pow_le_pow_right (by omega) hgl
    exact_mod_cast h3
  obtain ⟨P, hP⟩ : ∃ P : Nat, P = 2 ^ q.gs.length := ⟨_, rfl⟩
  have hPI : (2 : Int) ^ q.gs.length = (P : Int) := by rw [hP]; simp
  have hP256 : P ≤ 256 := by omega
  have HP := Lib.hid hP
  clear hP
  go_loopw [7, 8] (fun v7 v8 wr => ∃ s : Nat, s ≤ P ∧ v8 = .int .i64 s ∧ Hid (wr.ownsRow (w.heap.size + 1) 23 2 v7 (rpAt q l t many s).length (encSps (rpAt q l t many s))) ∧ Hid (Below (w.heap.size + 1) W0 wr)) (fun _ v8 _ => P - (intOf v8).toNat)
  case atStart => exact ⟨0, by omega, rfl, Lib.hid (World.ownsRow_nil _ _ _ _), Lib.hid (Below.refl _ _)⟩
  case round =>
    obtain ⟨s, hs, rfl, Ho, Hb⟩ := hrel
    have hsz := Hb.out.size
    have hwr : w.heap.size < wr.heap.size := by omega
    have hsz' : w.heap.size + 1 ≤ wr.heap.size := by omega
    have c0 := HQ0.out wr Hb.out 0 _ rfl
    have c1 := HQ0.out wr Hb.out 1 _ rfl
    have c2 := HQ0.out wr Hb.out 2 _ rfl
    have c3 := HQ0.out wr Hb.out 3 _ rfl
    have c4 := HQ0.out wr Hb.out 4 _ rfl
    have c5 := HQ0.out wr Hb.out 5 _ rfl
    have c6 := HQ0.out wr Hb.out 6 _ rfl
    have hmin : min q.gs.length 64 = q.gs.length := by omega
    by_cases hlt : s < P
    · have hltI : decide ((s : Int) < (P : Int)) = true := by simpa using hlt
      have hs256 : s < 256 := by omega
      have hsP : s < 2 ^ q.gs.length := by have := HP.out; omega
      obtain ⟨A7, c7, rfl, hc71, hc72⟩ := own_cap Ho.out
      obtain ⟨z, hz⟩ : ∃ z, z = (bitsF q.gs.length s).length := ⟨_, rfl⟩
      have HSz := Lib.hid (fun (X : World) => refSize_any s q.gs.length X (by omega) hsP)
      rw [← hz] at HSz
      have HR := Lib.hid (rpAt_succ q l t many s)
      have Hz := Lib.hid hz
      clear hz
      have n0 := later_cell c0 hwr
      have n1 := later_cell c1 hwr
      have n2 := later_cell c2 hwr
      have n3 := later_cell c3 hwr
      have n4 := later_cell c4 hwr
      have n5 := later_cell c5 hwr
      have n6 := later_cell c6 hwr
      go_wp2
      refine wp_region_later (by kernel_rfl) (by kernel_rfl) ?_
      repeat (any_goals (first | go_big_quiet_step ((go_at_call 45; exact later_call_same _ ((HSz.out _).mono fun _ _ ⟨h1, h2⟩ => ⟨h1, h2.symm⟩))) | quiet_step ((go_at_call 45; exact later_call_same _ ((HSz.out _).mono fun _ _ ⟨h1, h2⟩ => ⟨h1, h2.symm⟩)))))
      refine wpQuiet_nil ?_
      rintro w' ⟨e, rfl⟩
      have Hbe := Lib.hid (Hb.out.trans (e.b.mono hsz'))
      have hse : wr.heap.size ≤ e.w.heap.size := e.b.size
      have Hoe := Lib.hid (own_below Ho.out e.b)
      clear c0 c1 c2 c3 c4 c5 c6 n0 n1 n2 n3 n4 n5 n6
      cases hbig : decide (q.bad < (z : Int))
      rotate_left
      · have HE := Lib.hid (show rpAt q l t many (s + 1) = rpAt q l t many s by
          rw [HR.out]; unfold rpStep; rw [if_neg]
          rintro ⟨h1, _⟩
          rw [← Hz.out] at h1
          have := Hbad.out
          simp at hbig; omega)
        go_wp2
        go_roundw
        case rel => exact ⟨s + 1, by omega, by go_num, Lib.hid (by rw [HE.out]; exact Hoe.out), Hbe⟩
        case measure => simp [intOf]; omega
      have c0 := HQ0.out e.w Hbe.out 0 _ rfl
      have c1 := HQ0.out e.w Hbe.out 1 _ rfl
      have c2 := HQ0.out e.w Hbe.out 2 _ rfl
      have c3 := HQ0.out e.w Hbe.out 3 _ rfl
      have c4 := HQ0.out e.w Hbe.out 4 _ rfl
      have c5 := HQ0.out e.w Hbe.out 5 _ rfl
      have c6 := HQ0.out e.w Hbe.out 6 _ rfl
      go_wp2_with (go_at_call 34; fail)
      refine (HKn.out _ Hbe.out s hs256).mono ?_
      rintro r w2 ⟨vk, rfl, hok, hb2⟩
      have Hb2 := Lib.hid (Hbe.out.trans (hb2.mono (by omega)))
      have hs2 := hb2.size
      have Hok := Lib.hid hok
      have Hoe2 := Lib.hid (own_below Hoe.out hb2)
      obtain ⟨A9, c9, rfl, hc91, hc92⟩ := own_cap hok
      clear hok hb2 c0 c1 c2 c3 c4 c5 c6
      have HSlk := Lib.hid (sl_own (enc := encK) (fun _ => rfl) Hok.out)
      have hcl : (coreS q l s).length ≤ 13 := by rw [← coreAt_all]; have := coreAt_len q l s l.length; omega
      have HAg := Lib.hid (refAgree_any q (coreS q l s) A9 c9 w2.heap.size w2 HG.out.rise HG.out.fall HSlk.out (Nat.le_refl _) (coreS_bnd HG.out s) (by omega))
      obtain ⟨ag, hag⟩ : ∃ ag, ag = decide (Agree q.rise q.fall (coreS q l s)) := ⟨_, rfl⟩
      rw [← hag] at HAg
      have Hag := Lib.hid hag
      clear hag
      have c0 := HQ0.out w2 Hb2.out 0 _ rfl
      have c1 := HQ0.out w2 Hb2.out 1 _ rfl
      have c2 := HQ0.out w2 Hb2.out 2 _ rfl
      have c3 := HQ0.out w2 Hb2.out 3 _ rfl
      have c4 := HQ0.out w2 Hb2.out 4 _ rfl
      have c5 := HQ0.out w2 Hb2.out 5 _ rfl
      have c6 := HQ0.out w2 Hb2.out 6 _ rfl
      go_wp2_with (go_at_call 34; fail)
      refine HAg.out.mono ?_
      rintro r w3 ⟨rfl, hb3⟩
      have Hb3 := Lib.hid (Hb2.out.trans (hb3.mono (by omega)))
      have hs3 := hb3.size
      have Hoe3 := Lib.hid (own_below Hoe2.out hb3)
      have HSl3 := Lib.hid (HSlk.out.below hb3)
      clear hb3 c0 c1 c2 c3 c4 c5 c6
      cases ag
      · have HE := Lib.hid (show rpAt q l t many (s + 1) = rpAt q l t many s by
          rw [HR.out]; unfold rpStep; rw [if_neg]
          rintro ⟨_, h2⟩
          have := Hag.out
          simp [h2] at this)
        go_wp2
        go_roundw
        case rel => exact ⟨s + 1, by omega, by go_num, Lib.hid (by rw [HE.out]; exact Hoe3.out), Hb3⟩
        case measure => simp [intOf]; omega
      have HE := Lib.hid (show rpAt q l t many (s + 1) = jnL (rpAt q l t many s) ⟨loX q.rise q.fall (coreS q l s) t, hiX q.rise q.fall (coreS q l s) t⟩ by
        rw [HR.out]; unfold rpStep; rw [if_pos]
        refine ⟨?_, of_decide_eq_true Hag.out.symm⟩
        rw [← Hz.out]
        have := Hbad.out
        simp at hbig; omega)
      have HAt := Lib.hid (show Calls Try.prog 70 #[.agg #[.string q.name, .int .i64 q.lo, .int .i64 q.hi, .int .i64 q.rise, .int .i64 q.fall, .int .i64 q.bad, .slice q.gA q.gs.length q.gc], .slice A9 (coreS q l s).length c9, .int .i64 t] w3 (fun e w' => e = .returned (.agg #[.int .i64 (loX q.rise q.fall (coreS q l s) t), .int .i64 (hiX q.rise q.fall (coreS q l s) t)]) ∧ Below w3.heap.size w3 w') from
by
          obtain ⟨T, hT⟩ : ∃ T, coreS q l s = ⟨0, q.lo, q.hi⟩ :: T := ⟨_, rfl⟩
          have h := refAt_any q ⟨0, q.lo, q.hi⟩ T t A9 c9 w2.heap.size (coreS q l s).length (by rw [hT]; rfl) w3 HG.out.rise HG.out.fall ht (by rw [← hT]; exact HSl3.out) hs3 (by rw [← hT]; exact coreS_bnd HG.out s) (by have := hcl; rw [hT] at this; simp at this; omega)
          rw [← hT] at h
          exact h)
      obtain ⟨x, hx⟩ : ∃ x : Span, x = ⟨loX q.rise q.fall (coreS q l s) t, hiX q.rise q.fall (coreS q l s) t⟩ := ⟨_, rfl⟩
      have hx0 : loX q.rise q.fall (coreS q l s) t = x.lo := by rw [hx]
      have hx1 : hiX q.rise q.fall (coreS q l s) t = x.hi := by rw [hx]
      have hxb : SBnd x := by rw [hx]; exact rp_span HG.out ht s
      rw [hx0, hx1] at HAt
      rw [← hx] at HE
      have Hxb := Lib.hid hxb
      clear hx hx0 hx1 hxb
      have c0 := HQ0.out w3 Hb3.out 0 _ rfl
      have c1 := HQ0.out w3 Hb3.out 1 _ rfl
      have c2 := HQ0.out w3 Hb3.out 2 _ rfl
      have c3 := HQ0.out w3 Hb3.out 3 _ rfl
      have c4 := HQ0.out w3 Hb3.out 4 _ rfl
      have c5 := HQ0.out w3 Hb3.out 5 _ rfl
      have c6 := HQ0.out w3 Hb3.out 6 _ rfl
      go_wp2_with (go_at_call 34; fail)
      refine HAt.out.mono ?_
      rintro r w4 ⟨rfl, hb4⟩
      have Hb4 := Lib.hid (Hb3.out.trans (hb4.mono (by omega)))
      have hs4 := hb4.size
      have Hoe4 := Lib.hid (own_below Hoe3.out hb4)
      clear hb4 c0 c1 c2 c3 c4 c5 c6
      have hrl := rpAt_len q l t many s
      have HJn := Lib.hid (refJoined_any (rpAt q l t many s) x A7 c7 w4.heap.size w4 (sl_own (enc := encSp) (fun _ => rfl) Hoe4.out) (Nat.le_refl _) (rpAt_bnd many HG.out ht s) Hxb.out (by omega))
      go_wp2_with (go_at_call 34; fail)
      refine HJn.out.mono ?_
      rintro r w5 ⟨v5, rfl, ho5, hb5⟩
      have Hb5 := Lib.hid (Hb4.out.trans (hb5.mono (by omega)))
      have Ho5 := Lib.hid (own_mono ho5 (show w.heap.size + 1 ≤ w4.heap.size by omega))
      clear ho5 hb5
      go_wp2
      go_roundw
      case rel => exact ⟨s + 1, by omega, by go_num, Lib.hid (by rw [HE.out]; exact Ho5.out), Hb5⟩
      case measure => simp [intOf]; omega
    · obtain rfl : s = P := by omega
      rw [HP.out] at Ho
      go_wp2
      go_ret
      exact ⟨_, rfl, own_mono Ho.out (by omega), HU.out _ Hb.out⟩
end Go.Proofs.Ytcgnpndfhhcplaa
