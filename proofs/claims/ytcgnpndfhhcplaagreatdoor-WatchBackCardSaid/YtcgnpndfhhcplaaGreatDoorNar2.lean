/-
  Package watch's narrowed: the nodes in a row of the call's own are narrowed in place, forwards and backwards; false where a span is void. Conditions: rates and bounds.
-/
import Derived.Test.YtcgnpndfhhcplaaGreatDoorLeaf
import Derived.Test.YtcgnpndfhhcplaaGreatDoorMath
import Derived.Deep.RegionHeld3
import Derived.Deep.RegionWith
import Derived.Test.YtcgnpndfhhcplaaGreatDoorRegion
namespace Go.Proofs.YtcgnpndfhhcplaaGreatDoor
open Go.RowKit W7
/-- the cells of the i-th node in an owned row -/
theorem own_cells {w : World} {base g cap n e : Nat} {l : List K} (h : w.ownsRow base e 3 (.slice (some ⟨g, 0, none⟩) n cap) n (encKs l)) {i : Nat} (hi : i < l.length) :
    w.cell? ⟨g, i * 3, none⟩ = some (.int .i64 l[i].t) ∧ w.cell? ⟨g, i * 3 + 1, none⟩ = some (.int .i64 l[i].lo) ∧ w.cell? ⟨g, i * 3 + 2, none⟩ = some (.int .i64 l[i].hi) := by
  have hn : n * 3 = l.length * 3 := by have := h.1; rw [encKs_len] at this; omega
  exact ⟨(h.cellAt _ (by omega)).trans (encKs_0 hi), (h.cellAt _ (by omega)).trans (encKs_1 hi), (h.cellAt _ (by omega)).trans (encKs_2 hi)⟩
theorem own_put {w : World} {base g cap n e : Nat} {l : List K} (h : w.ownsRow base e 3 (.slice (some ⟨g, 0, none⟩) n cap) n (encKs l)) {i : Nat} (hi : i < l.length) (a b : Int) :
    ((w.setCell ⟨g, i * 3 + 1, none⟩ (.int .i64 a)).setCell ⟨g, i * 3 + 2, none⟩ (.int .i64 b)).ownsRow base e 3 (.slice (some ⟨g, 0, none⟩) n cap) n (encKs (l.set i ⟨l[i].t, a, b⟩)) ∧
    w.grownBy ((w.setCell ⟨g, i * 3 + 1, none⟩ (.int .i64 a)).setCell ⟨g, i * 3 + 2, none⟩ (.int .i64 b)) (some g) := by
  obtain ⟨h1, g1⟩ := h.stored (i * 3 + 1) (.int .i64 a)
  obtain ⟨h2, g2⟩ := h1.stored (i * 3 + 2) (.int .i64 b)
  rw [encKs_set l i hi] at h2
  exact ⟨h2, g1.trans g2⟩
def Narrowed (l : List K) (r f : Int) (base e g cap : Nat) (w : World) (en : Ending) (w' : World) : Prop :=
  (∃ l', w'.ownsRow base e 3 (.slice (some ⟨g, 0, none⟩) l.length cap) l.length (encKs l') ∧ w.grownBy w' (some g) ∧
    ((en = .returned (.bool false) ∧ ¬ ∀ n ∈ fwdK r f l, n.lo ≤ n.hi) ∨ (en = .returned (.bool true) ∧ (∀ n ∈ fwdK r f l, n.lo ≤ n.hi) ∧ l' = bwdK r f (fwdK r f l))))
set_option maxHeartbeats 4000000 in
set_option maxRecDepth 100000 in
theorem narrowedW_any (q : Quantity) (l : List K) (base g cap : Nat) (w : World) (hown : w.ownsRow base 132 3 (.slice (some ⟨g, 0, none⟩) l.length cap) l.length (encKs l)) (hs : SortedK l) (hbd : ∀ x ∈ l, BndW 1000000000000 x)
    (hr : 0 ≤ q.rise) (hr2 : q.rise ≤ 10000) (hf : 0 ≤ q.fall) (hf2 : q.fall ≤ 10000) (hl : l.length ≤ 1000) (h0 : 0 < l.length) :
    Calls Tryz.prog 60 #[.agg #[.string q.name, .int .i64 q.lo, .int .i64 q.hi, .int .i64 q.rise, .int .i64 q.fall, .int .i64 q.bad, .slice q.gA q.gs.length q.gc], .slice (some ⟨g, 0, none⟩) l.length cap] w (Narrowed l q.rise q.fall base 132 g cap w) := by
  obtain ⟨cs, hcs⟩ : ∃ cs : Array Value, cs = #[.string q.name, .int .i64 q.lo, .int .i64 q.hi, .int .i64 q.rise, .int .i64 q.fall, .int .i64 q.bad, .slice q.gA q.gs.length q.gc] := ⟨_, rfl⟩
  have hglt : g < w.heap.size := (hown.lt g rfl).2
  have Hown := Lib.hid hown
  have Hs := Lib.hid hs
  have Hbd := Lib.hid hbd
  have hmul : ∀ a d : Int, 0 ≤ a → a ≤ 10000 → 0 ≤ d → d ≤ 100000 → 0 ≤ a * d ∧ a * d ≤ 1000000000 := fun a d h1 h2 h3 h4 => ⟨Int.mul_nonneg h1 h3, by
    have : a * d ≤ 10000 * d := Int.mul_le_mul_of_nonneg_right h2 h3
    omega⟩
  have Hmul := Lib.hid hmul
  clear hown hs hbd hmul
  go_enter Tryz.func60, Tryz.ntmps60
  go_wp2
  rw [← hcs]
  obtain ⟨W0, hW0⟩ : ∃ W0, W0 = w.alloc (.cells cs 47) := ⟨_, rfl⟩
  rw [← hW0]
  have hB0 : w.grownBy W0 (some g) := by rw [hW0]; exact w.grownBy_alloc _ _
  have hq : ∀ j v, cs[j]? = some v → W0.cell? ⟨w.heap.size, j, none⟩ = some v := fun j v hv => by rw [hW0]; exact alloc_cell hv
  have hs0 : W0.heap.size = w.heap.size + 1 := by rw [hW0]; simp
  have Hown0 := Lib.hid (show W0.ownsRow base 132 3 (.slice (some ⟨g, 0, none⟩) l.length cap) l.length (encKs l) by rw [hW0]; exact Hown.out.alloc _)
  have Hq3 := Lib.hid (hq 3 (.int .i64 q.rise) (by rw [hcs]; rfl))
  have Hq4 := Lib.hid (hq 4 (.int .i64 q.fall) (by rw [hcs]; rfl))
  have HB0 := Lib.hid hB0
  have Hs0 := Lib.hid hs0
  clear hW0 hq hB0 hcs hs0
  go_loopw [11] (fun i wr => ∃ k : Nat, k ≤ l.length ∧ i = .int .i64 k ∧ Hid (wr.ownsRow base 132 3 (.slice (some ⟨g, 0, none⟩) l.length cap) l.length (encKs (fwdAt q.rise q.fall l k))) ∧ Hid (W0.grownBy wr (some g)) ∧
      Hid (∀ i (hi : i < l.length), i < k → ((fwdK q.rise q.fall l)[i]'(by rw [fwdK_length]; exact hi)).lo ≤ ((fwdK q.rise q.fall l)[i]'(by rw [fwdK_length]; exact hi)).hi)) (fun i _ => l.length - (intOf i).toNat)
  case atStart => exact ⟨0, by omega, rfl, Lib.hid (by simp [fwdAt]; exact Hown0.out), Lib.hid (World.grownBy.refl _ _), Lib.hid (by intro i hi h; omega)⟩
  case round =>
    obtain ⟨k, hk, rfl, Ho, Hg, Hall⟩ := hrel
    have hsz : w.heap.size < wr.heap.size := by have := Hg.out.size; have := Hs0.out; omega
    by_cases hlt : k < l.length
    · have hlen := fwdAt_len (r := q.rise) (f := q.fall) l k hk
      have Hlen := Lib.hid hlen
      rcases Nat.eq_zero_or_pos k with rfl | hpos
      · have F2 := Lib.hid (fwdAt_new (r := q.rise) (f := q.fall) l 0 0 (by omega) (by omega) hlt (by omega))
        obtain ⟨d0, d1, d2⟩ := own_cells Ho.out (i := 0) (by omega)
        clear d0
        rw [F2.out] at d1 d2
        simp only [Nat.zero_mul, Nat.zero_add] at d1 d2
        have Hz := Lib.hid (fwdK_zero (r := q.rise) (f := q.fall) l hlt)
        have Hput := Lib.hid (show fwdAt q.rise q.fall l 0 = fwdAt q.rise q.fall l 1 by
          rw [← fwdAt_succ l 0 hlt, fwdK_zero l hlt]
          apply List.ext_getElem (by simp)
          intro i h1 h2
          rw [List.getElem_set]
          split
          · rename_i h; subst h; exact fwdAt_new l 0 0 (by omega) (by omega) hlt h1
          · rfl)
        clear F2 hlen
        cases hv : decide (l[0].hi < l[0].lo)
        · go_wp2_with (go_at_call 94; refine (void_any _ _ _).mono ?_; rintro e2 w2 ⟨rfl, hb2⟩)
          go_roundw
          case rel =>
            refine ⟨1, by omega, by go_num, Lib.hid ?_, Lib.hid (Hg.out.trans (grown_of_below hb2 _)), Lib.hid ?_⟩
            · rw [← Hput.out]; exact Ho.out.kept (grown_of_below hb2 none) (.inr (by simp [Value.ownBlock]))
            · intro i hi hik
              obtain rfl : i = 0 := by omega
              rw [Hz.out]; simp at hv; omega
          case measure => simp [intOf]; omega
        · go_wp2_with (go_at_call 94; refine (void_any _ _ _).mono ?_; rintro e2 w2 ⟨rfl, hb2⟩)
          go_ret
          refine ⟨fwdAt q.rise q.fall l 1, ?_, (HB0.out.trans Hg.out).trans (grown_of_below hb2 _), .inl ⟨rfl, fun hall => ?_⟩⟩
          · rw [← Hput.out]; exact Ho.out.kept (grown_of_below hb2 none) (.inr (by simp [Value.ownBlock]))
          · have := hall _ (List.getElem_mem (show 0 < (fwdK q.rise q.fall l).length by rw [fwdK_length]; exact hlt))
            rw [Hz.out] at this
            simp at hv
            omega
      · obtain ⟨j, rfl⟩ : ∃ j, k = j + 1 := ⟨k - 1, by omega⟩
        have hjl : j < l.length := by omega
        have F1 := Lib.hid (fwdAt_old (r := q.rise) (f := q.fall) l (j + 1) j hk (by omega) (by omega))
        have F2 := Lib.hid (fwdAt_new (r := q.rise) (f := q.fall) l (j + 1) (j + 1) hk (by omega) hlt (by omega))
        have HG := Lib.hid (fwdK_get (r := q.rise) (f := q.fall) l j hlt)
        have Ht := Lib.hid (fwdK_t (r := q.rise) (f := q.fall) l j hjl)
        have hb1 := (fwdK_bndW (r := q.rise) (f := q.fall) l Hbd.out j hjl).k (Hall.out j hjl (by omega))
        have hb2 := Hbd.out l[j + 1] (List.getElem_mem hlt)
        have htt : l[j].t ≤ l[j + 1].t := (List.pairwise_iff_getElem.1 Hs.out) j (j + 1) hjl hlt (by omega)
        have Hput := Lib.hid (fwdAt_succ (r := q.rise) (f := q.fall) l (j + 1) hlt)
        obtain ⟨c0, c1, c2⟩ := own_cells Ho.out (i := j) (by omega)
        obtain ⟨d0, d1, d2⟩ := own_cells Ho.out (i := j + 1) (by omega)
        rw [F1.out] at c0 c1 c2
        rw [F2.out] at d0 d1 d2
        rw [Ht.out] at c0
        obtain ⟨F, hF⟩ : ∃ F, F = (fwdK q.rise q.fall l)[j]'(by rw [fwdK_length]; exact hjl) := ⟨_, rfl⟩
        rw [← hF] at c1 c2 hb1
        have HF := Lib.hid hF
        have HFt := Lib.hid (show F.t = l[j].t by rw [hF, Ht.out])
        clear hF
        have e3 : wr.cell? ⟨w.heap.size, 3, none⟩ = some (.int .i64 q.rise) := Hg.out.cell Hq3.out (by simp; omega)
        have e4 : wr.cell? ⟨w.heap.size, 4, none⟩ = some (.int .i64 q.fall) := Hg.out.cell Hq4.out (by simp; omega)
        have fz1 := Ho.out.frozenAt ((j + 1) * 3 + 1)
        have fz2 := Ho.out.frozenAt ((j + 1) * 3 + 2)
        have hb3 := Hbd.out l[j] (List.getElem_mem hjl)
        unfold BndK at hb1
        unfold BndW at hb2 hb3
        have Hlen2 : Hid (j + 1 < (fwdAt q.rise q.fall l (j + 1)).length) := by rw [hlen]; exact hlt
        have Ft := Lib.hid (show ((fwdAt q.rise q.fall l (j + 1))[j + 1]'Hlen2.out).t = l[j + 1].t by rw [F2.out])
        clear F1 F2 hlen
        obtain ⟨m1, m2⟩ := Hmul.out q.fall (l[j + 1].t - l[j].t) hf hf2 (by omega) (by omega)
        obtain ⟨m3, m4⟩ := Hmul.out q.rise (l[j + 1].t - l[j].t) hr hr2 (by omega) (by omega)
        have i1 : (j : Int) + 1 < (l.length : Int) := by omega
        have i0 : (0 : Int) ≤ (j : Int) + 1 := by omega
        have i2 : (j : Int) < (l.length : Int) := by omega
        have hgr : g < wr.heap.size := by omega
        have w1' : IntKind.i64.wrap ((j : Int) + 1 - 1) = (j : Int) := by rw [IntWalk.i64_in _ (by omega)]; omega
        have w6' : IntKind.i64.wrap (j : Int) = (j : Int) := IntWalk.i64_in _ (by omega)
        have w7' : ((j : Int) + 1 - 1).toNat = j := by omega
        have w2' : IntKind.i64.wrap (q.fall * (l[j + 1].t - l[j].t)) = q.fall * (l[j + 1].t - l[j].t) := IntWalk.i64_in _ (by omega)
        have w3' : IntKind.i64.wrap (q.rise * (l[j + 1].t - l[j].t)) = q.rise * (l[j + 1].t - l[j].t) := IntWalk.i64_in _ (by omega)
        have w4' : IntKind.i64.wrap (F.lo - q.fall * (l[j + 1].t - l[j].t)) = F.lo - q.fall * (l[j + 1].t - l[j].t) := IntWalk.i64_in _ (by omega)
        have w5' : IntKind.i64.wrap (F.hi + q.rise * (l[j + 1].t - l[j].t)) = F.hi + q.rise * (l[j + 1].t - l[j].t) := IntWalk.i64_in _ (by omega)
        go_wp2
        go_quiet (fail)
        go_wp2
        have k1 := later_cell (w := wr.drewN nq) c1 hgr
        have k2 := later_cell (w := wr.drewN nq) c2 hgr
        have k3 := later_cell (w := wr.drewN nq) d1 hgr
        have k4 := later_cell (w := wr.drewN nq) d2 hgr
        have k5 := later_cell (w := wr.drewN nq) e3 hsz
        have k6 := later_cell (w := wr.drewN nq) e4 hsz
        have k7 := later_free (w := wr.drewN nq) fz1 hgr
        have k8 := later_free (w := wr.drewN nq) fz2 hgr
        refine wp_region_later_tail 35 (by kernel_rfl) (by kernel_rfl) ?_
        simp only [List.take_succ_cons, List.take_zero, List.drop_succ_cons, List.drop_zero]
        repeat (any_goals (first | go_big_quiet_step ((go_at_call 93; exact later_call _ (meet_any _ _ _ _ _))) | quiet_step ((go_at_call 93; exact later_call _ (meet_any _ _ _ _ _)))))
        refine wpQuiet_nil ?_
        rintro w' ⟨e, rfl⟩
        have Hge : ∀ row, Hid (wr.grownBy e.w row) := fun row => ⟨e.b.os, e.b.tape, e.b.output, e.b.size, fun i hi _ => e.b.block i hi⟩
        have Hoe := Lib.hid (World.ownsRow.kept (w' := e.w) Ho.out (Hge none).out (.inr (by simp [Value.ownBlock])))
        have Hpt := Lib.hid (own_put Hoe.out (i := j + 1) Hlen2.out (max l[j + 1].lo (F.lo - q.fall * (l[j + 1].t - l[j].t))) (min l[j + 1].hi (F.hi + q.rise * (l[j + 1].t - l[j].t))))
        have Hnew := Lib.hid (show (fwdAt q.rise q.fall l (j + 1)).set (j + 1) ⟨((fwdAt q.rise q.fall l (j + 1))[j + 1]'Hlen2.out).t, max l[j + 1].lo (F.lo - q.fall * (l[j + 1].t - l[j].t)), min l[j + 1].hi (F.hi + q.rise * (l[j + 1].t - l[j].t))⟩ = fwdAt q.rise q.fall l (j + 1 + 1) by
          rw [← Hput.out, HG.out, ← HF.out, Ft.out, HFt.out]; rfl)
        have HV : Hid (((fwdK q.rise q.fall l)[j + 1]'(by rw [fwdK_length]; exact hlt)).lo = max l[j + 1].lo (F.lo - q.fall * (l[j + 1].t - l[j].t)) ∧ ((fwdK q.rise q.fall l)[j + 1]'(by rw [fwdK_length]; exact hlt)).hi = min l[j + 1].hi (F.hi + q.rise * (l[j + 1].t - l[j].t))) := by rw [HG.out, ← HF.out, HFt.out]; exact ⟨rfl, rfl⟩
        have he1 : wr.heap.size ≤ e.w.heap.size := e.b.size
        cases hv : decide (min l[j + 1].hi (F.hi + q.rise * (l[j + 1].t - l[j].t)) < max l[j + 1].lo (F.lo - q.fall * (l[j + 1].t - l[j].t)))
        · go_wp2_with (go_at_call 94; refine (void_any _ _ _).mono ?_; rintro e2 w2 ⟨rfl, hb2⟩)
          go_roundw
          case rel =>
            refine ⟨j + 1 + 1, by omega, by go_num, Lib.hid ?_, Lib.hid ((Hg.out.trans (Hge _).out).trans (Hpt.out.2.trans (grown_of_below hb2 _))), Lib.hid ?_⟩
            · rw [← Hnew.out]; exact Hpt.out.1.kept (grown_of_below hb2 none) (.inr (by simp [Value.ownBlock]))
            · intro i hi hik
              by_cases hij : i = j + 1
              · subst hij; rw [HV.out.1, HV.out.2]; simp at hv; omega
              · exact Hall.out i hi (by omega)
          case measure => simp [intOf]; omega
        · go_wp2_with (go_at_call 94; refine (void_any _ _ _).mono ?_; rintro e2 w2 ⟨rfl, hb2⟩)
          go_ret
          refine ⟨fwdAt q.rise q.fall l (j + 1 + 1), ?_, (HB0.out.trans (Hg.out.trans (Hge _).out)).trans (Hpt.out.2.trans (grown_of_below hb2 _)), .inl ⟨rfl, fun hall => ?_⟩⟩
          · rw [← Hnew.out]; exact Hpt.out.1.kept (grown_of_below hb2 none) (.inr (by simp [Value.ownBlock]))
          · have := hall _ (List.getElem_mem (show j + 1 < (fwdK q.rise q.fall l).length by rw [fwdK_length]; exact hlt))
            rw [HV.out.1, HV.out.2] at this
            simp at hv
            omega
    · obtain rfl : k = l.length := by omega
      have HallF : Hid (∀ n ∈ fwdK q.rise q.fall l, n.lo ≤ n.hi) := fun n hn => by
        obtain ⟨i, hi, rfl⟩ := List.mem_iff_getElem.1 hn
        rw [fwdK_length] at hi
        exact Hall.out i hi hi
      obtain ⟨F, hF⟩ : ∃ F, F = fwdK q.rise q.fall l := ⟨_, rfl⟩
      have hFl : F.length = l.length := by rw [hF, fwdK_length]
      have HoF := Lib.hid (show wr.ownsRow base 132 3 (.slice (some ⟨g, 0, none⟩) l.length cap) l.length (encKs (bwdAt q.rise q.fall F (l.length - 1))) by
        have h := Ho.out
        have e : fwdAt q.rise q.fall l l.length = bwdAt q.rise q.fall F (l.length - 1) := by
          have h1 := bwdAt_succ (r := q.rise) (f := q.fall) F (l.length - 1) (by omega)
          rw [← h1]
          have h2 := bwdK_last (r := q.rise) (f := q.fall) F (by omega)
          apply List.ext_getElem
          · rw [fwdAt_len l _ (Nat.le_refl _), List.length_set, bwdAt_len F _ (by omega)]; omega
          · intro i h3 h4
            rw [fwdAt_len l _ (Nat.le_refl _)] at h3
            rw [fwdAt_old l l.length i (Nat.le_refl _) h3, List.getElem_set]
            split
            · rename_i hi
              subst hi
              simp only [hFl] at h2
              rw [h2]; simp only [hF]
            · rw [bwdAt_old F _ i (by omega) (by omega)]; simp only [hF]
        rw [← e]; exact h)
      have HsF := Lib.hid (show SortedK F by rw [hF]; exact fwdK_sorted l Hs.out)
      have HbF := Lib.hid (show ∀ x ∈ F, BndK 1000000000000 x by
        intro x hx
        obtain ⟨i, hi, rfl⟩ := List.mem_iff_getElem.1 hx
        simp only [hF]
        exact (fwdK_bndW (r := q.rise) (f := q.fall) l Hbd.out i (by omega)).k (Hall.out i (by omega) (by omega)))
      have HFF := Lib.hid hF
      clear hF
      have HFl := Lib.hid hFl
      have Hg1 := Lib.hid (HB0.out.trans Hg.out)
      have Hq3' := Lib.hid (Hg.out.cell Hq3.out (by simp; omega))
      have Hq4' := Lib.hid (Hg.out.cell Hq4.out (by simp; omega))
      clear hFl Ho Hall
      go_wp2
      obtain ⟨w3, hw3⟩ : ∃ W, W = wr := ⟨_, rfl⟩
      rw [← hw3] at HoF Hg1 hsz Hq3' Hq4' ⊢
      clear hw3 Hg
      go_loopw [7] (fun i wr => ∃ m : Nat, m + 1 ≤ l.length ∧ i = .int .i64 ((m : Int) - 1) ∧ Hid (wr.ownsRow base 132 3 (.slice (some ⟨g, 0, none⟩) l.length cap) l.length (encKs (bwdAt q.rise q.fall F m))) ∧ Hid (w3.grownBy wr (some g))) (fun i _ => (intOf i + 1).toNat)
      case atStart => exact ⟨l.length - 1, by omega, by congr 1; omega, HoF, Lib.hid (World.grownBy.refl _ _)⟩
      case round =>
        obtain ⟨m, hm, rfl, Ho, Hg⟩ := hrel
        have hsz2 : w.heap.size < wr.heap.size := Nat.lt_of_lt_of_le hsz Hg.out.size
        rcases Nat.eq_zero_or_pos m with rfl | hpos
        · go_wp2
          go_ret
          exact ⟨bwdAt q.rise q.fall F 0, Ho.out, Hg1.out.trans Hg.out, .inr ⟨rfl, HallF.out, by rw [← HFF.out]; simp [bwdAt]⟩⟩
        obtain ⟨j, rfl⟩ : ∃ j, m = j + 1 := ⟨m - 1, by omega⟩
        have ej : (((j + 1 : Nat) : Int) - 1) = (j : Int) := by omega
        rw [ej]
        clear ej
        have hjl : j + 1 < F.length := by rw [HFl.out]; omega
        have F1 := Lib.hid (bwdAt_old (r := q.rise) (f := q.fall) F (j + 1) j (by omega) (by omega) (by rw [bwdAt_len F _ (by omega)]; omega))
        have F2 := Lib.hid (bwdAt_new (r := q.rise) (f := q.fall) F (j + 1) (j + 1) (by omega) (by omega) hjl (by rw [bwdAt_len F _ (by omega)]; omega))
        have HG := Lib.hid (bwdK_get (r := q.rise) (f := q.fall) F j hjl)
        have Ht := Lib.hid (bwdK_t (r := q.rise) (f := q.fall) F (j + 1) hjl)
        have hb1 := bwdK_bnd hr hf F HsF.out HbF.out (F.length - 1 - (j + 1)) (j + 1) hjl (by omega)
        have hb2 := HbF.out F[j] (List.getElem_mem (by omega))
        have hb3 := HbF.out F[j + 1] (List.getElem_mem hjl)
        have htt : F[j].t ≤ F[j + 1].t := (List.pairwise_iff_getElem.1 HsF.out) j (j + 1) (by omega) hjl (by omega)
        have Hput := Lib.hid (bwdAt_succ (r := q.rise) (f := q.fall) F j (by omega))
        obtain ⟨c0, c1, c2⟩ := own_cells Ho.out (i := j) (by rw [bwdAt_len F _ (by omega)]; omega)
        obtain ⟨d0, d1, d2⟩ := own_cells Ho.out (i := j + 1) (by rw [bwdAt_len F _ (by omega)]; omega)
        rw [F1.out] at c0 c1 c2
        rw [F2.out] at d0 d1 d2
        rw [Ht.out] at d0
        have Hlen2 : Hid (j < (bwdAt q.rise q.fall F (j + 1)).length) := by rw [bwdAt_len F _ (by omega)]; show j < F.length; omega
        have Ft := Lib.hid (show ((bwdAt q.rise q.fall F (j + 1))[j]'Hlen2.out).t = F[j].t by rw [F1.out])
        obtain ⟨G, hG⟩ : ∃ G, G = (bwdK q.rise q.fall F)[j + 1]'(by rw [bwdK_length]; exact hjl) := ⟨_, rfl⟩
        rw [← hG] at d1 d2 hb1
        have HGt := Lib.hid (show G.t = F[j + 1].t by rw [hG, Ht.out])
        have HGG := Lib.hid hG
        clear hG F1 F2
        have e3 : wr.cell? ⟨w.heap.size, 3, none⟩ = some (.int .i64 q.rise) := Hg.out.cell Hq3'.out (by simp; omega)
        have e4 : wr.cell? ⟨w.heap.size, 4, none⟩ = some (.int .i64 q.fall) := Hg.out.cell Hq4'.out (by simp; omega)
        have fz1 := Ho.out.frozenAt (j * 3 + 1)
        have fz2 := Ho.out.frozenAt (j * 3 + 2)
        unfold BndK at hb1 hb2 hb3
        obtain ⟨m1, m2⟩ := Hmul.out q.fall (F[j + 1].t - F[j].t) hf hf2 (by omega) (by omega)
        obtain ⟨m3, m4⟩ := Hmul.out q.rise (F[j + 1].t - F[j].t) hr hr2 (by omega) (by omega)
        have i1 : (j : Int) + 1 < (l.length : Int) := by omega
        have i0 : (0 : Int) ≤ (j : Int) + 1 := by omega
        have i2 : (j : Int) < (l.length : Int) := by omega
        have hgr : g < wr.heap.size := by omega
        have w1' : IntKind.i64.wrap ((j : Int) + 1) = (j : Int) + 1 := IntWalk.i64_in _ (by omega)
        have w7' : ((j : Int) + 1).toNat = j + 1 := by omega
        have w2' : IntKind.i64.wrap (q.fall * (F[j + 1].t - F[j].t)) = q.fall * (F[j + 1].t - F[j].t) := IntWalk.i64_in _ (by omega)
        have w3' : IntKind.i64.wrap (q.rise * (F[j + 1].t - F[j].t)) = q.rise * (F[j + 1].t - F[j].t) := IntWalk.i64_in _ (by omega)
        have w4' : IntKind.i64.wrap (G.lo - q.rise * (F[j + 1].t - F[j].t)) = G.lo - q.rise * (F[j + 1].t - F[j].t) := IntWalk.i64_in _ (by omega)
        have w5' : IntKind.i64.wrap (G.hi + q.fall * (F[j + 1].t - F[j].t)) = G.hi + q.fall * (F[j + 1].t - F[j].t) := IntWalk.i64_in _ (by omega)
        go_wp2
        go_quiet (fail)
        go_wp2
        have k1 := later_cell (w := wr.drewN nq) c1 hgr
        have k2 := later_cell (w := wr.drewN nq) c2 hgr
        have k3 := later_cell (w := wr.drewN nq) d1 hgr
        have k4 := later_cell (w := wr.drewN nq) d2 hgr
        have k5 := later_cell (w := wr.drewN nq) e3 hsz2
        have k6 := later_cell (w := wr.drewN nq) e4 hsz2
        have k7 := later_free (w := wr.drewN nq) fz1 hgr
        have k8 := later_free (w := wr.drewN nq) fz2 hgr
        refine wp_region_later_tail 35 (by kernel_rfl) (by kernel_rfl) ?_
        simp only [List.take_succ_cons, List.take_zero, List.drop_succ_cons, List.drop_zero]
        repeat (any_goals (first | go_big_quiet_step ((go_at_call 93; exact later_call _ (meet_any _ _ _ _ _))) | quiet_step ((go_at_call 93; exact later_call _ (meet_any _ _ _ _ _)))))
        refine wpQuiet_nil ?_
        rintro w' ⟨e, rfl⟩
        have Hge : ∀ row, Hid (wr.grownBy e.w row) := fun row => ⟨e.b.os, e.b.tape, e.b.output, e.b.size, fun i hi _ => e.b.block i hi⟩
        have Hoe := Lib.hid (World.ownsRow.kept (w' := e.w) Ho.out (Hge none).out (.inr (by simp [Value.ownBlock])))
        have Hpt := Lib.hid (own_put Hoe.out (i := j) Hlen2.out (max F[j].lo (G.lo - q.rise * (F[j + 1].t - F[j].t))) (min F[j].hi (G.hi + q.fall * (F[j + 1].t - F[j].t))))
        have Hnew := Lib.hid (show (bwdAt q.rise q.fall F (j + 1)).set j ⟨((bwdAt q.rise q.fall F (j + 1))[j]'Hlen2.out).t, max F[j].lo (G.lo - q.rise * (F[j + 1].t - F[j].t)), min F[j].hi (G.hi + q.fall * (F[j + 1].t - F[j].t))⟩ = bwdAt q.rise q.fall F j by
          rw [← Hput.out, HG.out, ← HGG.out, Ft.out, HGt.out]; rfl)
        have he1 : wr.heap.size ≤ e.w.heap.size := e.b.size
        go_wp2
        go_roundw
        case rel => exact ⟨j, by omega, rfl, Lib.hid (by rw [← Hnew.out]; exact Hpt.out.1), Lib.hid ((Hg.out.trans (Hge _).out).trans Hpt.out.2)⟩
        case measure => simp [intOf]
theorem narrowed_any (q : Quantity) (l : List K) (base g cap : Nat) (w : World) (hown : w.ownsRow base 132 3 (.slice (some ⟨g, 0, none⟩) l.length cap) l.length (encKs l)) (hs : SortedK l) (hbd : ∀ x ∈ l, BndK 1000000000000 x)
    (hr : 0 ≤ q.rise) (hr2 : q.rise ≤ 10000) (hf : 0 ≤ q.fall) (hf2 : q.fall ≤ 10000) (hl : l.length ≤ 1000) (h0 : 0 < l.length) :
    Calls Tryz.prog 60 #[.agg #[.string q.name, .int .i64 q.lo, .int .i64 q.hi, .int .i64 q.rise, .int .i64 q.fall, .int .i64 q.bad, .slice q.gA q.gs.length q.gc], .slice (some ⟨g, 0, none⟩) l.length cap] w (Narrowed l q.rise q.fall base 132 g cap w) :=
  narrowedW_any q l base g cap w hown hs (fun x hx => (hbd x hx).w) hr hr2 hf hf2 hl h0
end Go.Proofs.YtcgnpndfhhcplaaGreatDoor
