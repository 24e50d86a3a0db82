/-
  WorksSafe holds: for every input the law returns true, and each argument reads behind the call as it read before. No condition of its own; the row's form is as given.
-/
import Derived.Test.YtjpgnfekbojcaaaGreatWLawSafe
import Derived.Test.YtjpgnfekbojcaaaGreatWOpen
import Derived.Test.YtjpgnfekbojcaaaGreatWRowK
import Derived.ChangeMaps5
set_option maxRecDepth 100000
namespace Go.Proofs.YtjpgnfekbojcaaaGreat
open Go.ChangeShapes Go.WideShapes Go.ChangeAt Go.RowKit W7 W8
theorem worksSafe_lifted (os : Os) (started : os.Started) (H : Type) (enc : TypeId × Value -> H) :
  ReturnsInHanded {} Tryz.checked os 11 .any (Rows.worksSafeSpec.pre6 enc Tryz.prog Tryz.f11 Rows.worksSafeRow.domain false) (Rows.worksSafeSpec.post enc Tryz.prog Tryz.f11 false true false false) := by
 refine returnsInHanded_of_change (C := Tryz.checked) Tryz.own started (by kernel_rfl) Tryz.func11
  (ChangeSpec.witness6 (enc := enc) (C := Tryz.checked) false ⟨#[], #[.agg #[.slice none 0 0, .int .i64 0, .int .i64 0], .slice none 0 0, .string ByteArray.empty, .int .i64 0, .int .i64 0, .int .i64 0], []⟩ 8 (by kernel_rfl) (by kernel_rfl) (by kernel_rfl) (by kernel_rfl)) ?_
 intro W base args ds gs before hval0 hW hcnd _
 have hval : ∀ (j : Nat) t v, Tryz.f11.params[j]? = some t -> args[j]? = some v -> Value.okWide Tryz.prog W .any base t v := hval0
 have hW' := hW
 obtain ⟨p, q, hA0, hV, rfl, hfz, hnd⟩ := hW
 have hA : DataW.TrodAll enc Tryz.prog W 0 (fun _ => true) true Tryz.f11.params.toList args.toList ds p := hA0
 have hAll := hA
 rw [Tryz.params11] at hA hval
 obtain ⟨v0, v1, v2, v3, v4, v5, d0, d1, d2, d3, d4, d5, p0, p1, p2, p3, p4, p5, rfl, rfl, h0, h1, h2, h3, h4, h5⟩ := trodAll_six hA
 obtain ⟨rfl, rfl⟩ := trodVars_none hV
 obtain ⟨tb, rfl, htb⟩ := open_tab (hval 0 74 v0 rfl rfl) h0
 obtain ⟨a1, n1, c1, rfl⟩ := okWide_slice Tryz.underlying75 (hval 1 75 v1 rfl rfl)
 obtain ⟨fuel1, hf1⟩ := h1
 obtain ⟨A1, k1, ls, e1, hs1, hlc, hc2, hz1, hw1⟩ := open_dives hf1
 simp only [Value.cells, List.cons.injEq, and_true, Value.slice.injEq] at e1
 obtain ⟨rfl, rfl, rfl⟩ := e1
 obtain ⟨s, rfl, _, _, hss⟩ := Go.ChangeMaps.open_string Tryz.underlying9 (hval 2 9 v2 rfl rfl) h2
 obtain ⟨x3, rfl, rfl, rfl, _⟩ := open_int Tryz.underlying3 (hval 3 3 v3 rfl rfl) h3
 obtain ⟨x4, rfl, rfl, rfl, _⟩ := open_int Tryz.underlying3 (hval 4 3 v4 rfl rfl) h4
 obtain ⟨x5, rfl, rfl, rfl, _⟩ := open_int Tryz.underlying3 (hval 5 3 v5 rfl rfl) h5
 have hlt : ∀ x ∈ p, x.block < W.heap.size := fun x hx => hW'.lt x (by simp [hx])
 refine (LawSafe_any tb ls s x3 x4 x5 a1 ls.length c1 W.heap.size W htb rfl hs1 hz1 (Nat.le_refl _) hlc hc2 hw1 hss).mono fun e W' ⟨he, hb⟩ => ?_
 subst he
 exact ⟨_, rfl, post_of_below (pa := p) (pv := []) hW' (fun _ _ _ => trodAll_mk1 (shut_bool Tryz.underlying4 true))
  (fun sp hsp => all_stay Tryz.laidOut _ _ _ _ (fun t ht => by
   rw [Tryz.params11] at ht
   simp only [List.mem_cons, List.not_mem_nil, or_false] at ht
   rcases ht with rfl | rfl | rfl | rfl | rfl | rfl <;> exact ⟨by kernel_rfl, of_decide_eq_true (by kernel_rfl)⟩) hAll (fun x hx => hb.same (hlt x hx)) (fun x hx => hsp x (by simp [hx])))
  (fun _ _ => rfl) rfl hb (ok_one (by kernel_rfl) rfl (okWide_bool_mk Tryz.underlying4 true))⟩
theorem q_place : (Rows.worksSafeRow.inPlace == Tryz.pinned.checked.prog.inPlace 11) = true := by kernel_rfl
theorem q_unf : (Rows.worksSafeRow.unfollowed == Tryz.pinned.checked.prog.unfollowed 11) = true := by kernel_rfl
theorem q_rec : (Rows.worksSafeRow.recurses == Tryz.pinned.checked.prog.recurses 11) = true := by kernel_rfl
theorem q_named : (Rows.worksSafeRow.named == Tryz.pinned.checked.prog.varsNamed 11) = true := by kernel_rfl
theorem q_func : Tryz.pinned.checked.prog.funcNamed Rows.worksSafeRow.func = some 11 := by kernel_rfl
theorem q_closed : joinedFacts Tryz.pinned.checked.prog 11 Tryz.f11 Rows.worksSafeSpec Rows.worksSafeRow = true := by
 unfold joinedFacts
 rw [k_laid, k_maps, k_stops, k_knobs, q_place, q_unf, q_rec, q_named, k_plain, k_heard, k_enter, show (Rows.worksSafeRow.lifted == Tryz.pinned.checked.prog.liftsFinal) = true from k_lift, show (Tryz.pinned.checked.prog.make == some Rows.worksSafeRow.make) = true from k_make]
 kernel_rfl
theorem worksSafe_holds : Rows.WorksSafeSaid :=
 OpenClaim.holds_of_wide 11 Tryz.f11 rfl rfl rfl rfl rfl rfl rfl ⟨rfl, rfl, rfl, rfl, rfl⟩ rfl rfl rfl rfl rfl q_func Tryz.func11 q_closed
  (of_decide_eq_true (by kernel_rfl)) (by unfold Func.isWrapper; first | (rw [if_pos (by decide +kernel)]; kernel_rfl) | (rw [if_neg (by decide +kernel)]; exact ⟨rfl, rfl⟩))
  (fun os started H enc _ => worksSafe_lifted os started H enc)
end Go.Proofs.YtjpgnfekbojcaaaGreat
