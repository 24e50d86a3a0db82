/-
  The recursive function of package watch's subsets: it hands on the subsets in their order. Over every round that keeps what the iterator has laid.
  Package watch's subsets: what its iterator owes. Conditions: at most 20 gauges.
-/
import Derived.Test.YtcgnpndfhhcplaaGreatDoorClone
import Derived.Test.YtcgnpndfhhcplaaGreatDoorNodes
import Derived.RangeFuncBound
import Derived.RangeFuncLeaves
import Derived.Shelf.Abstract
import Derived.WalkKit
import Derived.OwnWalkIn
import Derived.TacticsInMore
import Derived.Laws.EntriesVeiled
namespace Go.Proofs.YtcgnpndfhhcplaaGreatDoor
open Go.RowKit W7
attribute [local go_sem] Oper.semAt_some
/-- what the recursive function has captured, in its boxes -/
structure HC (B0 l many n mb yb nb fb : Nat) (W : World) : Prop where
  m : B0 ≤ mb ∧ W.heap[mb]? = some (.cells #[.int .i64 many] 3 (0, 0))
  y : B0 ≤ yb ∧ W.heap[yb]? = some (.cells #[.func (.yield l) #[] #[]] 136 (0, 0))
  n : B0 ≤ nb ∧ W.heap[nb]? = some (.cells #[.int .i64 n] 3 (0, 0))
  f : B0 ≤ fb ∧ W.heap[fb]? = some (.cells #[.func (.func 91) #[] #[.pointer (some ⟨mb, 0, none⟩), .pointer (some ⟨yb, 0, none⟩), .pointer (some ⟨nb, 0, none⟩), .pointer (some ⟨fb, 0, none⟩)]] 137 (0, 0))
theorem HC.keep {B0 l many n mb yb nb fb : Nat} {W W' : World} (h : HC B0 l many n mb yb nb fb W) (k : KeepI B0 W W') : HC B0 l many n mb yb nb fb W' :=
  ⟨⟨h.m.1, k.same _ _ _ _ h.m.1 h.m.2 (by decide)⟩, ⟨h.y.1, k.same _ _ _ _ h.y.1 h.y.2 (by decide)⟩, ⟨h.n.1, k.same _ _ _ _ h.n.1 h.n.2 (by decide)⟩, ⟨h.f.1, k.same _ _ _ _ h.f.1 h.f.2 (by decide)⟩⟩
theorem cell_of_block {W : World} {b : Nat} {v : Value} {e : TypeId} {fz : Nat × Nat} (h : W.heap[b]? = some (.cells #[v] e fz)) : W.cell? ⟨b, 0, none⟩ = some v := by simp [World.cell?, h]
/-- what is handed on: a row and its value -/
def RY (B0 many n : Nat) (x : List Int × Value) (W : World) : Prop := x.1.length = many ∧ (∀ g ∈ x.1, 0 ≤ g ∧ g < (n : Int)) ∧ ∃ A c, x.2 = .slice A x.1.length c ∧ IRow B0 W A x.1 ∧ Hv A c x.1
def FromPost (many k a : Nat) (h : List Int) (J Jx : List (List Int × Value) → World → Prop) (B0 : Nat) (pre : List (List Int × Value)) (W : World) (e : Ending) (W' : World) : Prop :=
  (e = .returned (.bool true) ∧ ∃ ys : List (List Int × Value), ys.map Prod.fst = subsN many k a h ∧ J (pre ++ ys) W' ∧ KeepI B0 W W') ∨
  (e = .returned (.bool false) ∧ ∃ ys : List (List Int × Value), ys.map Prod.fst <+: subsN many k a h ∧ Jx (pre ++ ys) W')
/-- what holds in the region that clones and appends, whatever has come up -/
def FromInv (many n mb yb nb fb a j : Nat) (h : List Int) (A : Option Addr) (c : Nat) (wr : World) (u8 u21 u22 u31 u32 : Value) (L : Nat → Bool) (a' : Act) (w' : World) : Prop :=
  ∃ (e : Later wr) (v23 v24 v25 v26 v27 v28 v29 v30 : Value), w' = e.w ∧ a' = { tmps := #[.int .i64 a, .slice A h.length c, .pointer (some ⟨mb, 0, none⟩), .pointer (some ⟨yb, 0, none⟩), .pointer (some ⟨nb, 0, none⟩), .pointer (some ⟨fb, 0, none⟩), undef, undef, u8, .int .i64 ((a : Int) + (j : Int)), .slice A h.length c, .int .i64 h.length, .int .i64 many, .bool false, undef, undef, undef, .int .i64 a, .int .i64 ((a : Int) + (j : Int)), .int .i64 n, .bool true, u21, u22, v23, v24, v25, v26, v27, v28, v29, v30, u31, u32], defers := [] } ∧
    (L 0 = true → v23 = .func (.func 91) #[] #[.pointer (some ⟨mb, 0, none⟩), .pointer (some ⟨yb, 0, none⟩), .pointer (some ⟨nb, 0, none⟩), .pointer (some ⟨fb, 0, none⟩)]) ∧ (L 1 = true → v24 = .int .i64 ((a : Int) + (j : Int))) ∧ (L 2 = true → v25 = .int .i64 ((a : Int) + (j : Int) + 1)) ∧ (L 3 = true → v26 = .slice A h.length c) ∧
    (L 4 = true → L 7 = false → Hid (e.w.ownsRow wr.heap.size 3 1 v27 h.length (h.map (.int .i64)))) ∧ (L 5 = true → v28 = .int .i64 ((a : Int) + (j : Int))) ∧ (L 6 = true → L 7 = false → Hid (∃ gb, v29 = .slice (some ⟨gb, 0, none⟩) 1 1 ∧ e.w.cell? ⟨gb, 0, none⟩ = some (.int .i64 ((a : Int) + (j : Int))) ∧ gb < e.w.heap.size)) ∧
    (L 7 = true → Hid (e.w.ownsRow wr.heap.size 3 1 v30 (h.length + 1) (h.map (.int .i64) ++ [.int .i64 ((a : Int) + (j : Int))])))
set_option maxHeartbeats 1000000 in
set_option maxRecDepth 100000 in
theorem from_any (l many n N B0 mb yb nb fb : Nat) (J Jx : List (List Int × Value) → World → Prop) (hn : n ≤ 20) (hm : many ≤ 20)
    (hJ : ∀ s A B, J s A → Below A.heap.size A B → J s B)
    (hY : ∀ m pre x W1, J pre W1 → pre.length < N → RY B0 many n x W1 → YieldAt Fence.wide m Tryz.prog l #[x.2] W1 fun e W' =>
      (e = .returned (.bool true) ∧ J (pre ++ [x]) W' ∧ KeepI B0 W1 W') ∨ (e = .returned (.bool false) ∧ Jx (pre ++ [x]) W')) :
    ∀ (k a : Nat) (h : List Int) (A : Option Addr) (c : Nat) (pre : List (List Int × Value)) (W : World), a + k = n → h.length ≤ a → (∀ g ∈ h, 0 ≤ g ∧ g < (n : Int)) → B0 ≤ W.heap.size → IRow B0 W A h → Hv A c h → HC B0 l many n mb yb nb fb W → J pre W → pre.length + (subsN many k a h).length ≤ N →
    Calls Tryz.prog 91 #[.int .i64 a, .slice A h.length c, .pointer (some ⟨mb, 0, none⟩), .pointer (some ⟨yb, 0, none⟩), .pointer (some ⟨nb, 0, none⟩), .pointer (some ⟨fb, 0, none⟩)] W (FromPost many k a h J Jx B0 pre W) := by
  intro k
  induction k using Nat.strongRecOn with
  | ind k ih =>
  intro a h A c pre W hak hha hgs hB hrow hv hc hj hN
  have em := cell_of_block hc.m.2
  have ey := cell_of_block hc.y.2
  have en := cell_of_block hc.n.2
  have ef := cell_of_block hc.f.2
  have Hrow := Lib.hid hrow
  have Hc := Lib.hid hc
  have Hj := Lib.hid hj
  have Hih := Lib.hid ih
  have Hgs := Lib.hid hgs
  clear hrow hc hj ih hgs
  cases ht : ((h.length : Int) == (many : Int))
  · have hne : h.length ≠ many := fun e => by rw [e] at ht; simp at ht
    go_enter Tryz.func91, Tryz.ntmps91
    go_wp2
    go_loopw [9] (fun i wr => ∃ j : Nat, j ≤ k ∧ i = .int .i64 ((a : Int) + (j : Int)) ∧ Hid (∃ ys : List (List Int × Value), ys.map Prod.fst ++ subsN many (k - j) (a + j) h = subsN many k a h ∧ J (pre ++ ys) wr) ∧ Hid (KeepI B0 W wr)) (fun i _ => n - (intOf i).toNat)
    case atStart => exact ⟨0, by omega, by simp, Lib.hid ⟨[], by simp, by simpa using Hj.out⟩, Lib.hid ⟨Nat.le_refl _, fun _ _ _ _ _ h _ => h⟩⟩
    case round =>
      obtain ⟨j, hjk, rfl, Hy, Hk⟩ := hrel
      have hc2 := Hc.out.keep Hk.out
      have em2 := cell_of_block hc2.m.2
      have ey2 := cell_of_block hc2.y.2
      have en2 := cell_of_block hc2.n.2
      have ef2 := cell_of_block hc2.f.2
      have Hc2 := Lib.hid hc2
      clear hc2 em ey en ef
      by_cases hlt : j < k
      · have hI : decide ((a : Int) + (j : Int) < (n : Int)) = true := by simp; omega
        go_wp2
        refine wp_region_inv 8 (FromInv many n mb yb nb fb a j h A c wr u8 u21 u22 u31 u32) (by kernel_rfl) (by kernel_rfl) (by kernel_rfl) (by kernel_rfl) (by decide) (by kernel_rfl) ?_ ?_ ?_
        · exact ⟨⟨_, (Below.refl wr.heap.size wr).drew⟩, _, _, _, _, _, _, _, _, rfl, rfl, by simp, by simp, by simp, by simp, by simp, by simp, by simp, by simp⟩
        · rintro L a' w' i o hi ho hLi haf ⟨e, v23, v24, v25, v26, v27, v28, v29, v30, rfl, rfl, h0, h1, h2, h3, h4, h5, h6, h7⟩
          have f5 := later_cell ef2 (Array.getElem?_eq_some_iff.1 Hc2.out.f.2).1 e
          have hw1 : IntKind.i64.wrap ((a : Int) + (j : Int) + 1) = (a : Int) + (j : Int) + 1 := IntWalk.i64_in _ (by omega)
          have hse := e.b.size
          rcases i with _ | _ | _ | _ | _ | _ | _ | _ | i
          case succ.succ.succ.succ.succ.succ.succ.succ => omega
          all_goals (simp only [List.getElem?_cons_zero, List.getElem?_cons_succ, Option.some.injEq] at ho; subst ho)
          · go_wp2
            exact ⟨e, _, _, _, _, _, _, _, _, rfl, rfl, fun _ => rfl, fun q => h1 (by simpa using q), fun q => h2 (by simpa using q), fun q => h3 (by simpa using q), fun q r => h4 (by simpa using q) (by simpa using r), fun q => h5 (by simpa using q), fun q r => h6 (by simpa using q) (by simpa using r), fun q => h7 (by simpa using q)⟩
          · go_wp2
            exact ⟨e, _, _, _, _, _, _, _, _, rfl, rfl, fun q => h0 (by simpa using q), fun _ => rfl, fun q => h2 (by simpa using q), fun q => h3 (by simpa using q), fun q r => h4 (by simpa using q) (by simpa using r), fun q => h5 (by simpa using q), fun q r => h6 (by simpa using q) (by simpa using r), fun q => h7 (by simpa using q)⟩
          · obtain rfl := h1 (haf ⟨1, .data⟩ (by simp) rfl)
            go_wp2
            exact ⟨e, _, _, _, _, _, _, _, _, rfl, rfl, fun q => h0 (by simpa using q), fun _ => rfl, fun _ => rfl, fun q => h3 (by simpa using q), fun q r => h4 (by simpa using q) (by simpa using r), fun q => h5 (by simpa using q), fun q r => h6 (by simpa using q) (by simpa using r), fun q => h7 (by simpa using q)⟩
          · go_wp2
            exact ⟨e, _, _, _, _, _, _, _, _, rfl, rfl, fun q => h0 (by simpa using q), fun q => h1 (by simpa using q), fun q => h2 (by simpa using q), fun _ => rfl, fun q r => h4 (by simpa using q) (by simpa using r), fun q => h5 (by simpa using q), fun q r => h6 (by simpa using q) (by simpa using r), fun q => h7 (by simpa using q)⟩
          · obtain rfl := h3 (haf ⟨3, .data⟩ (by simp) rfl)
            go_wp2_with (go_at_call 92; refine (cloneInt_any h A c e.w ((IRow.below (Hrow.out.keep Hk.out) e.b).sl) hv (by omega)).mono ?_; rintro r w2 ⟨v, rfl, ho2, hb2⟩)
            exact ⟨⟨w2, e.b.trans (hb2.mono e.b.size)⟩, _, _, _, _, _, _, _, _, rfl, rfl, fun q => h0 (by simpa using q), fun q => h1 (by simpa using q), fun q => h2 (by simpa using q), fun _ => rfl, fun _ _ => Lib.hid (own_mono ho2 hse), fun q => h5 (by simpa using q),
              fun q r => (by obtain ⟨gb, p1, p2, p3⟩ := (h6 (by simpa using q) (by simpa using r)).out; exact Lib.hid ⟨gb, p1, (hb2.cell (p := ⟨gb, 0, none⟩) p3).trans p2, Nat.lt_of_lt_of_le p3 hb2.size⟩), fun q => Lib.hid (own_below (h7 (by simpa using q)).out hb2)⟩
          · go_wp2
            exact ⟨e, _, _, _, _, _, _, _, _, rfl, rfl, fun q => h0 (by simpa using q), fun q => h1 (by simpa using q), fun q => h2 (by simpa using q), fun q => h3 (by simpa using q), fun q r => h4 (by simpa using q) (by simpa using r), fun _ => rfl, fun q r => h6 (by simpa using q) (by simpa using r), fun q => h7 (by simpa using q)⟩
          · obtain rfl := h5 (haf ⟨5, .data⟩ (by simp) rfl)
            go_wp2
            refine ⟨⟨_, (e.b.alloc hse (.cells #[.int .i64 ((a : Int) + (j : Int))] 3))⟩, _, _, _, _, _, _, _, _, rfl, rfl, fun q => h0 (by simpa using q), fun q => h1 (by simpa using q), fun q => h2 (by simpa using q), fun q => h3 (by simpa using q), fun q r => Lib.hid ((h4 (by simpa using q) (by simpa using r)).out.alloc _), fun _ => rfl,
              fun _ _ => Lib.hid ⟨_, rfl, alloc_cell rfl, by simp [Later.w]⟩, fun q => Lib.hid ((h7 (by simpa using q)).out.alloc _)⟩
          · have hown := h4 (haf ⟨4, .data⟩ (by simp) rfl) hLi
            obtain ⟨gb, p1, p2, p3⟩ := (h6 (haf ⟨6, .data⟩ (by simp) rfl) hLi).out
            subst p1
            have HS := Lib.hid (show Src e.w 1 (some ⟨gb, 0, none⟩) 1 [.int .i64 ((a : Int) + (j : Int))] from .inr ⟨_, rfl, rfl, fun q u hu => by
              cases q with
              | zero => simp at hu; subst hu; exact p2
              | succ q => simp at hu⟩)
            clear p2
            refine wpList_appendL rfl _ _ 57 rfl wr.heap.size 3 _ 1 8 elemInt _ _ _ rfl hown.out _ _ _ _ rfl HS.out (by simp [Value.oneCell']) (by omega) hse ?_
            intro v4 w4 hown4 hb4 hsz4 hg4 hblk4
            exact ⟨⟨w4, e.b.trans hb4⟩, _, _, _, _, _, _, _, _, rfl, rfl, fun q => h0 (by simpa using q), fun q => h1 (by simpa using q), fun q => h2 (by simpa using q), fun q => h3 (by simpa using q), fun q r => (by simp at r), fun q => h5 (by simpa using q), fun q r => (by simp at r), fun _ => Lib.hid hown4⟩
        · rintro L a' w' hL ⟨e, v23, v24, v25, v26, v27, v28, v29, v30, rfl, rfl, h0, h1, h2, h3, h4, h5, h6, h7⟩
          have H7 := h7 (hL 7 (by omega))
          obtain rfl := h0 (hL 0 (by omega))
          obtain rfl := h2 (hL 2 (by omega))
          clear h0 h1 h2 h3 h4 h5 h6 h7 hL
          obtain ⟨g, cap, rfl, hgb⟩ := own_form H7.out (by omega)
          obtain ⟨ys, hys, hyj⟩ := Hy.out
          have hsub : subsN many (k - j) (a + j) h = subsN many (k - j - 1) (a + j + 1) (h ++ [((a + j : Nat) : Int)]) ++ subsN many (k - j - 1) (a + j + 1) h := by
            rw [show k - j = (k - j - 1) + 1 by omega]; exact subsN_succ hne
          have Hcall := Lib.hid (show Calls Tryz.prog 91 #[.int .i64 ((a : Int) + (j : Int) + 1), .slice (some ⟨g, 0, none⟩) (h.length + 1) cap, .pointer (some ⟨mb, 0, none⟩), .pointer (some ⟨yb, 0, none⟩), .pointer (some ⟨nb, 0, none⟩), .pointer (some ⟨fb, 0, none⟩)] e.w (FromPost many (k - j - 1) (a + j + 1) (h ++ [((a + j : Nat) : Int)]) J Jx B0 (pre ++ ys) e.w) by
            have hb0 : B0 ≤ wr.heap.size := Nat.le_trans hB Hk.out.size
            have := Hih.out (k - j - 1) (by omega) (a + j + 1) (h ++ [((a + j : Nat) : Int)]) (some ⟨g, 0, none⟩) cap (pre ++ ys) e.w (by omega) (by simp; omega) (fun y hy => by
                rcases List.mem_append.1 hy with hy | hy
                · exact Hgs.out y hy
                · simp at hy; omega) (Nat.le_trans hb0 e.b.size)
              (IRow.of_own (n := h.length + 1) (cap := cap) (base := wr.heap.size) (by have := H7.out; simpa using this) hb0) (.inr ⟨g, rfl, by simp⟩) (Hc2.out.keep (KeepI.of_below e.b)) (hJ _ _ _ hyj e.b) (by
                have h1 := congrArg List.length hys
                rw [hsub] at h1
                simp only [List.length_append, List.length_map] at h1 ⊢
                omega)
            simpa using this)
          have Hys := Lib.hid hys
          have Hsub := Lib.hid hsub
          clear hys hyj hsub
          go_wp2_with (go_at_call 91; refine Hcall.out.mono ?_; rintro r w2 (⟨rfl, ys2, q1, q2, q3⟩ | ⟨rfl, ys2, q1, q2⟩))
          · go_roundw
            case rel => exact ⟨j + 1, by omega, by first | (congr 1; done) | (congr 1; omega), Lib.hid ⟨ys ++ ys2, by rw [List.map_append, List.append_assoc, q1, show k - (j + 1) = k - j - 1 by omega, show a + (j + 1) = a + j + 1 by omega, ← Hsub.out]; exact Hys.out, by rw [← List.append_assoc]; exact q2⟩, Lib.hid ((Hk.out.trans (KeepI.of_below e.b)).trans q3)⟩
            case measure => simp [intOf]; omega
          · go_ret
            refine .inr ⟨rfl, ys ++ ys2, ?_, by rw [← List.append_assoc]; exact q2⟩
            rw [← Hys.out, List.map_append, Hsub.out]
            exact List.prefix_append_right_inj _ |>.2 (q1.trans (List.prefix_append _ _))
      · obtain rfl : j = k := by omega
        obtain ⟨ys, hys, hyj⟩ := Hy.out
        have hI : decide ((a : Int) + (j : Int) < (n : Int)) = false := by simp; omega
        rw [Nat.sub_self, subsN_zero hne, List.append_nil] at hys
        have Hys := Lib.hid hys
        clear hys
        go_wp2
        go_ret
        exact .inl ⟨rfl, ys, Hys.out, hyj, Hk.out⟩
  · have hh : h.length = many := by have : (h.length : Int) = (many : Int) := by simpa using ht
                                    omega
    subst hh
    clear ht
    obtain ⟨fn, tmps, assign, body, hy, hR⟩ := hY 0 pre (h, .slice A h.length c) W Hj.out (by rw [subsN_hit rfl] at hN; simp at hN; omega) ⟨rfl, Hgs.out, A, c, rfl, Hrow.out, hv⟩
    refine (callsIn_wide (n := 1)).1 ?_
    refine callsIn_of_wp Tryz.func91 rfl trivial ?_ rfl
    simp only [Tryz.ntmps91, List.size_toArray, List.length_cons, List.length_nil, Nat.reduceAdd, Nat.reduceSub, Array.replicate_succ, Array.replicate_zero, List.push_toArray, List.append_toArray, List.nil_append, List.cons_append]
    gi_wp2
    refine hR.mono ?_
    rintro e W' (⟨rfl, hJ', hk⟩ | ⟨rfl, hJx'⟩)
    · gi_wp2
      go_ret
      exact .inl ⟨rfl, [(h, .slice A h.length c)], by rw [subsN_hit rfl]; rfl, hJ', hk⟩
    · gi_wp2
      go_ret
      exact .inr ⟨rfl, [(h, .slice A h.length c)], by rw [subsN_hit rfl]; exact List.prefix_refl _, hJx'⟩
end Go.Proofs.YtcgnpndfhhcplaaGreatDoor
namespace Go.Proofs.YtcgnpndfhhcplaaGreatDoor
open Go.RowKit W7
set_option maxHeartbeats 1000000 in
set_option maxRecDepth 100000 in
theorem subsets_any (n many : Nat) (w : World) : Calls Tryz.prog 59 #[.int .i64 n, .int .i64 many] w fun e w' =>
    e = .returned (.func (.func 90) #[] #[.pointer (some ⟨w.heap.size + 1, 0, none⟩), .pointer (some ⟨w.heap.size, 0, none⟩)]) ∧ w' = (w.alloc (.cells #[.int .i64 n] 3)).alloc (.cells #[.int .i64 many] 3) := by
  go_enter Tryz.func59, Tryz.ntmps59
  go_wp2
  go_ret
  exact ⟨by simp, rfl⟩
set_option maxHeartbeats 1000000 in
set_option maxRecDepth 100000 in
theorem subsets_seq (n many B0 mb nb : Nat) (w0 : World) (hn : n ≤ 20) (hm : many ≤ 20) (hmb : B0 ≤ mb ∧ w0.heap[mb]? = some (.cells #[.int .i64 many] 3 (0, 0))) (hnb : B0 ≤ nb ∧ w0.heap[nb]? = some (.cells #[.int .i64 n] 3 (0, 0))) :
    SeqR Tryz.prog 90 #[.pointer (some ⟨mb, 0, none⟩), .pointer (some ⟨nb, 0, none⟩)] (fun x : List Int × Value => #[x.2]) (RY B0 many n) (KeepI B0)
      (fun ys => ys.map Prod.fst = subsN many n 0 []) (fun ys => ys.map Prod.fst <+: subsN many n 0 []) (subsN many n 0 []).length w0 := by
  intro l J Jx W hW hJ hJx hY h0
  obtain ⟨W1, hW1⟩ : ∃ W1, W1 = (W.alloc (.cells #[.func (.yield l) #[] #[]] 136)).alloc (.cells #[.func (.func 91) #[] #[.pointer (some ⟨mb, 0, none⟩), .pointer (some ⟨W.heap.size, 0, none⟩), .pointer (some ⟨nb, 0, none⟩), .pointer (some ⟨W.heap.size + 1, 0, none⟩)]] 137) := ⟨_, rfl⟩
  have hs1 := hW.size
  have hb : Below W.heap.size W W1 := by rw [hW1]; exact ((Below.refl _ _).alloc (Nat.le_refl _) _).alloc (by simp) _
  have lt1 := (Array.getElem?_eq_some_iff.1 hmb.2).1
  have lt2 := (Array.getElem?_eq_some_iff.1 hnb.2).1
  have hc : HC B0 l many n mb W.heap.size nb (W.heap.size + 1) W1 := by
    refine ⟨⟨hmb.1, (hb.block _ (by omega)).trans ((hW.block _ lt1).trans hmb.2)⟩, ⟨by omega, ?_⟩, ⟨hnb.1, (hb.block _ (by omega)).trans ((hW.block _ lt2).trans hnb.2)⟩, ⟨by omega, ?_⟩⟩
    · rw [hW1]; exact (Below.heap_alloc _ _ _ (by simp)).trans (World.alloc_heap_new W _)
    · rw [hW1]
      have := World.alloc_heap_new (W.alloc (.cells #[.func (.yield l) #[] #[]] 136)) (.cells #[.func (.func 91) #[] #[.pointer (some ⟨mb, 0, none⟩), .pointer (some ⟨W.heap.size, 0, none⟩), .pointer (some ⟨nb, 0, none⟩), .pointer (some ⟨W.heap.size + 1, 0, none⟩)]] 137)
      rwa [World.size_alloc] at this
  have H := Lib.hid (from_any l many n (subsN many n 0 []).length B0 mb W.heap.size nb (W.heap.size + 1) J Jx hn hm hJ hY n 0 [] none 0 [] W1 (by omega) (by simp) (by simp) (by have := hb.size; omega) (fun h => absurd h (by simp)) (.inl ⟨rfl, rfl, rfl⟩) hc (hJ _ _ _ h0 hb) (by simp))
  have HW1 := Lib.hid hW1
  clear hJ hJx hY h0 hb hc hW1 hmb hnb hW
  show Calls Tryz.prog 90 #[.func (.yield l) #[] #[], .pointer (some ⟨mb, 0, none⟩), .pointer (some ⟨nb, 0, none⟩)] W _
  go_enter Tryz.func90, Tryz.ntmps90
  go_wp2_with (go_at_call 91; go_loud (rw [← HW1.out]); refine H.out.mono ?_; rintro r w2 (⟨rfl, ys2, q1, q2, q3⟩ | ⟨rfl, ys2, q1, q2⟩))
  · go_end0
    exact ⟨⟨_, rfl⟩, .inl ⟨ys2, q1, by simpa using q2⟩⟩
  · go_end0
    exact ⟨⟨_, rfl⟩, .inr ⟨ys2, q1, by simpa using q2⟩⟩
end Go.Proofs.YtcgnpndfhhcplaaGreatDoor
