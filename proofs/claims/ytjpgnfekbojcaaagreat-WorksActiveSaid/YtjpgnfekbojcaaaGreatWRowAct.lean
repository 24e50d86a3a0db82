/- WorksActive holds: for every input the law returns true,and each argument reads behind the call as it read before. -/
import Derived.Test.YtjpgnfekbojcaaaGreatWLawAct
import Derived.Test.YtjpgnfekbojcaaaGreatWOpenJ
import Derived.Test.YtjpgnfekbojcaaaGreatWRowK
import Derived.ChangeMaps5
set_option maxRecDepth 100000
namespace Go.Proofs.YtjpgnfekbojcaaaGreat
open Go.ChangeShapes Go.WideShapes Go.ChangeAt Go.RowKit W7 W8
theorem trodAll_4 {H : Type} {enc : TypeId × Value -> H} {P : Program} {w : World} {base : Nat} {spare : Nat -> Bool} {held : Bool} {t0 t1 t2 t3 : TypeId} {args : Array Value} {ds : List (DataW H)} {ps : List MemPlace} (h : DataW.TrodAll enc P w base spare held [t0,t1,t2,t3] args.toList ds ps) :
  ∃ v0 v1 v2 v3 d0 d1 d2 d3 p0 p1 p2 p3,args = #[v0,v1,v2,v3] /\ ds = [d0,d1,d2,d3] /\ DataW.Trod enc P w base spare held t0 v0 d0 p0 /\ DataW.Trod enc P w base spare held t1 v1 d1 p1 /\ DataW.Trod enc P w base spare held t2 v2 d2 p2 /\ DataW.Trod enc P w base spare held t3 v3 d3 p3 := by
 obtain ⟨v0,vs0,d0,ds0,p0,q0,hargs,rfl,_,h0,r0⟩ := trodAll_cons h; obtain ⟨v1,vs1,d1,ds1,p1,q1,rfl,rfl,_,h1,r1⟩ := trodAll_cons r0; obtain ⟨v2,vs2,d2,ds2,p2,q2,rfl,rfl,_,h2,r2⟩ := trodAll_cons r1; obtain ⟨v3,vs3,d3,ds3,p3,q3,rfl,rfl,_,h3,r3⟩ := trodAll_cons r2; obtain ⟨rfl,rfl,_⟩ := trodAll_nil r3; exact ⟨v0,v1,v2,v3,d0,d1,d2,d3,p0,p1,p2,p3,by cases args; simp_all,rfl,h0,h1,h2,h3⟩
theorem worksActive_lifted (os : Os) (started : os.Started) (H : Type) (enc : TypeId × Value -> H) :
  ReturnsInHanded {} Tryz.checked os 4 .any (Rows.worksActiveSpec.pre6 enc Tryz.prog Tryz.f4 Rows.worksActiveRow.domain false) (Rows.worksActiveSpec.post enc Tryz.prog Tryz.f4 false true false false) := by
 refine returnsInHanded_of_change (C := Tryz.checked) Tryz.own started (by kernel_rfl) Tryz.func4
  (ChangeSpec.witness6 (enc := enc) (C := Tryz.checked) false ⟨#[],#[.agg #[.slice none 0 0,.slice none 0 0],.slice none 0 0,.int .i64 0,.int .i64 0],[]⟩ 8 (by kernel_rfl) (by kernel_rfl) (by kernel_rfl) (by kernel_rfl)) ?_
 intro W base args ds gs before hval0 hW hcnd _; have hval : ∀ (j : Nat) t v,Tryz.f4.params[j]? = some t -> args[j]? = some v -> Value.okWide Tryz.prog W .any base t v := hval0; have hW' := hW; obtain ⟨p,q,hA0,hV,rfl,hfz,hnd⟩ := hW; have hA : DataW.TrodAll enc Tryz.prog W 0 (fun _ => true) true Tryz.f4.params.toList args.toList ds p := hA0; have hAll := hA; rw [Tryz.params4] at hA hval; obtain ⟨v0,v1,v2,v3,d0,d1,d2,d3,p0,p1,p2,p3,rfl,rfl,h0,h1,h2,h3⟩ := trodAll_4 hA; obtain ⟨rfl,rfl⟩ := trodVars_none hV; obtain ⟨jb,rfl,hjb⟩ := open_job (hval 0 25 v0 rfl rfl) h0; obtain ⟨a1,n1,c1,rfl⟩ := okWide_slice Tryz.underlying26 (hval 1 26 v1 rfl rfl); obtain ⟨fuel1,hf1⟩ := h1; obtain ⟨A1,k1,ls,e1,hs1,hlc,hc2⟩ := open_is hf1; simp only [Value.cells,List.cons.injEq,and_true,Value.slice.injEq] at e1; obtain ⟨rfl,rfl,rfl⟩ := e1; obtain ⟨x2,rfl,rfl,rfl,_⟩ := open_int Tryz.underlying3 (hval 2 3 v2 rfl rfl) h2
 obtain ⟨x3,rfl,rfl,rfl,_⟩ := open_int Tryz.underlying3 (hval 3 3 v3 rfl rfl) h3; have hlt : ∀ x ∈ p,x.block < W.heap.size := fun x hx => hW'.lt x (by simp [hx])
 refine (LawActive_any jb ls x2 x3 a1 ls.length c1 W.heap.size W hjb rfl hs1 (Nat.le_refl _) hlc hc2).mono fun e W' ⟨he,hb⟩ => ?_
 subst he
 exact ⟨_,rfl,post_of_below (pa := p) (pv := []) hW' (fun _ _ _ => trodAll_mk1 (shut_bool Tryz.underlying4 true))
  (fun sp hsp => all_stay Tryz.laidOut _ _ _ _ (fun t ht => by
   rw [Tryz.params4] at ht; simp only [List.mem_cons,List.not_mem_nil,or_false] at ht; rcases ht with rfl | rfl | rfl | rfl <;> exact ⟨by kernel_rfl,of_decide_eq_true (by kernel_rfl)⟩) hAll (fun x hx => hb.same (hlt x hx)) (fun x hx => hsp x (by simp [hx])))
  (fun _ _ => rfl) rfl hb (ok_one (by kernel_rfl) rfl (okWide_bool_mk Tryz.underlying4 true))⟩
theorem r_place : (Rows.worksActiveRow.inPlace == Tryz.pinned.checked.prog.inPlace 4) = true := by kernel_rfl
theorem r_unf : (Rows.worksActiveRow.unfollowed == Tryz.pinned.checked.prog.unfollowed 4) = true := by kernel_rfl
theorem r_rec : (Rows.worksActiveRow.recurses == Tryz.pinned.checked.prog.recurses 4) = true := by kernel_rfl
theorem r_named : (Rows.worksActiveRow.named == Tryz.pinned.checked.prog.varsNamed 4) = true := by kernel_rfl
theorem r_func : Tryz.pinned.checked.prog.funcNamed Rows.worksActiveRow.func = some 4 := by kernel_rfl
theorem r_closed : joinedFacts Tryz.pinned.checked.prog 4 Tryz.f4 Rows.worksActiveSpec Rows.worksActiveRow = true := by
 unfold joinedFacts; rw [k_laid,k_maps,k_stops,k_knobs,r_place,r_unf,r_rec,r_named,k_plain,k_heard,k_enter,show (Rows.worksActiveRow.lifted == Tryz.pinned.checked.prog.liftsFinal) = true from k_lift,show (Tryz.pinned.checked.prog.make == some Rows.worksActiveRow.make) = true from k_make]
 kernel_rfl
theorem worksActive_holds : Rows.WorksActiveSaid :=
 OpenClaim.holds_of_wide 4 Tryz.f4 rfl rfl rfl rfl rfl rfl rfl ⟨rfl,rfl,rfl,rfl,rfl⟩ rfl rfl rfl rfl rfl r_func Tryz.func4 r_closed
  (of_decide_eq_true (by kernel_rfl)) (by unfold Func.isWrapper; first | (rw [if_pos (by decide +kernel)]; kernel_rfl) | (rw [if_neg (by decide +kernel)]; exact ⟨rfl,rfl⟩))
  (fun os started H enc _ => worksActive_lifted os started H enc)
end Go.Proofs.YtjpgnfekbojcaaaGreat
