/- WorksSerial holds: for every input the law returns true,and each argument reads behind the call as it read before. -/
import Derived.Test.YtjpgnfekbojcaaaGreatWLawSer
import Derived.Test.YtjpgnfekbojcaaaGreatWOpenJ
import Derived.Test.YtjpgnfekbojcaaaGreatWRowK
import Derived.ChangeMaps5
set_option maxRecDepth 100000
namespace Go.Proofs.YtjpgnfekbojcaaaGreat
open Go.ChangeShapes Go.WideShapes Go.ChangeAt Go.RowKit W7 W8
theorem worksSerial_lifted (os : Os) (started : os.Started) (H : Type) (enc : TypeId × Value -> H) :
  ReturnsInHanded {} Tryz.checked os 3 .any (Rows.worksSerialSpec.pre6 enc Tryz.prog Tryz.f3 Rows.worksSerialRow.domain false) (Rows.worksSerialSpec.post enc Tryz.prog Tryz.f3 false true false false) := by
 refine returnsInHanded_of_change (C := Tryz.checked) Tryz.own started (by kernel_rfl) Tryz.func3
  (ChangeSpec.witness6 (enc := enc) (C := Tryz.checked) false ⟨#[],#[.agg #[.slice none 0 0,.slice none 0 0],.slice none 0 0],[]⟩ 8 (by kernel_rfl) (by kernel_rfl) (by kernel_rfl) (by kernel_rfl)) ?_
 intro W base args ds gs before hval0 hW hcnd _; have hval : ∀ (j : Nat) t v,Tryz.f3.params[j]? = some t -> args[j]? = some v -> Value.okWide Tryz.prog W .any base t v := hval0; have hW' := hW; obtain ⟨p,q,hA0,hV,rfl,hfz,hnd⟩ := hW; have hA : DataW.TrodAll enc Tryz.prog W 0 (fun _ => true) true Tryz.f3.params.toList args.toList ds p := hA0; have hAll := hA; rw [Tryz.params3] at hA hval; obtain ⟨v0,v1,d0,d1,p0,p1,rfl,rfl,rfl,h0,h1⟩ := trodAll_two hA; obtain ⟨rfl,rfl⟩ := trodVars_none hV; obtain ⟨jb,rfl,hjb⟩ := open_job (hval 0 25 v0 rfl rfl) h0; obtain ⟨a1,n1,c1,rfl⟩ := okWide_slice Tryz.underlying26 (hval 1 26 v1 rfl rfl); obtain ⟨fuel1,hf1⟩ := h1; obtain ⟨A1,k1,ls,e1,hs1,hlc,hc2⟩ := open_is hf1; simp only [Value.cells,List.cons.injEq,and_true,Value.slice.injEq] at e1; obtain ⟨rfl,rfl,rfl⟩ := e1; have hlt : ∀ x ∈ p0 ++ p1,x.block < W.heap.size := fun x hx => hW'.lt x (by simpa using hx)
 refine (LawSerial_any jb ls a1 ls.length c1 W.heap.size W hjb rfl hs1 (Nat.le_refl _) hlc hc2).mono fun e W' ⟨he,hb⟩ => ?_
 subst he
 exact ⟨_,rfl,post_of_below (pa := p0 ++ p1) (pv := []) hW' (fun _ _ _ => trodAll_mk1 (shut_bool Tryz.underlying4 true))
  (fun sp hsp => all_stay Tryz.laidOut _ _ _ _ (fun t ht => by
   rw [Tryz.params3] at ht; simp only [List.mem_cons,List.not_mem_nil,or_false] at ht; rcases ht with rfl | rfl <;> exact ⟨by kernel_rfl,of_decide_eq_true (by kernel_rfl)⟩) hAll (fun x hx => hb.same (hlt x hx)) (fun x hx => hsp x (by simpa using hx)))
  (fun _ _ => rfl) rfl hb (ok_one (by kernel_rfl) rfl (okWide_bool_mk Tryz.underlying4 true))⟩
theorem r_place : (Rows.worksSerialRow.inPlace == Tryz.pinned.checked.prog.inPlace 3) = true := by kernel_rfl
theorem r_unf : (Rows.worksSerialRow.unfollowed == Tryz.pinned.checked.prog.unfollowed 3) = true := by kernel_rfl
theorem r_rec : (Rows.worksSerialRow.recurses == Tryz.pinned.checked.prog.recurses 3) = true := by kernel_rfl
theorem r_named : (Rows.worksSerialRow.named == Tryz.pinned.checked.prog.varsNamed 3) = true := by kernel_rfl
theorem r_func : Tryz.pinned.checked.prog.funcNamed Rows.worksSerialRow.func = some 3 := by kernel_rfl
theorem r_closed : joinedFacts Tryz.pinned.checked.prog 3 Tryz.f3 Rows.worksSerialSpec Rows.worksSerialRow = true := by
 unfold joinedFacts; rw [k_laid,k_maps,k_stops,k_knobs,r_place,r_unf,r_rec,r_named,k_plain,k_heard,k_enter,show (Rows.worksSerialRow.lifted == Tryz.pinned.checked.prog.liftsFinal) = true from k_lift,show (Tryz.pinned.checked.prog.make == some Rows.worksSerialRow.make) = true from k_make]
 kernel_rfl
theorem worksSerial_holds : Rows.WorksSerialSaid :=
 OpenClaim.holds_of_wide 3 Tryz.f3 rfl rfl rfl rfl rfl rfl rfl ⟨rfl,rfl,rfl,rfl,rfl⟩ rfl rfl rfl rfl rfl r_func Tryz.func3 r_closed
  (of_decide_eq_true (by kernel_rfl)) (by unfold Func.isWrapper; first | (rw [if_pos (by decide +kernel)]; kernel_rfl) | (rw [if_neg (by decide +kernel)]; exact ⟨rfl,rfl⟩))
  (fun os started H enc _ => worksSerial_lifted os started H enc)
end Go.Proofs.YtjpgnfekbojcaaaGreat
