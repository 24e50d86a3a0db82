/- WorksFloors holds: for every input the law returns true,and each argument reads behind the call as it read before. -/
import Derived.Test.YtjpgnfekbojcaaaGreatWLawFlo
import Derived.Test.YtjpgnfekbojcaaaGreatWOpenJ
import Derived.Test.YtjpgnfekbojcaaaGreatWRowK
import Derived.ChangeMaps5
set_option maxRecDepth 100000
namespace Go.Proofs.YtjpgnfekbojcaaaGreat
open Go.ChangeShapes Go.WideShapes Go.ChangeAt Go.RowKit Go.Deep W7 W8
theorem open_floor {H : Type} {enc : TypeId × Value -> H} {W : World} {base : Nat} {spare : Nat -> Bool} {held : Bool} {r : Reach} {b0 : Nat} {v : Value} {d : DataW H} {p : List MemPlace} (hv : Value.okWide Tryz.prog W r b0 92 v) (h : DataW.Trod enc Tryz.prog W base spare held 92 v d p) :
  ∃ (fm fr : Int) (A : Option Addr) (c : Nat) (l : List Int),v = .agg #[.int .i64 fm,.slice A l.length c,.int .i64 fr] /\ Sl W W.heap.size 1 encInt1 A l /\ l.length <= c /\ c <= 9223372036854775807 /\ fm <= 9223372036854775807 := by
 obtain ⟨cs,rfl,hsz⟩ := okWide_struct Tryz.underlying92 hv; have hC : Tryz.prog.cellsOf 92 = 3 := by kernel_rfl
 have k3 : Tryz.prog.cellsOf 3 = 1 := by kernel_rfl
 have k4 : Tryz.prog.cellsOf 26 = 1 := by kernel_rfl
 obtain ⟨l⟩ := cs
 match l,hsz.trans hC with
 | [c0,c1,c2],_ =>
  obtain ⟨fuel,hf⟩ := h; obtain ⟨xs,n,_,_,_,hlen,hg⟩ := DataW.trod_struct Tryz.underlying92 hf
  match xs,hlen with
  | [y0,y1,y2],_ =>
   have g0 : DataW.trod enc Tryz.prog W base spare held n 3 (([c0,c1,c2].drop 0).take (Tryz.prog.cellsOf 3)) = some y0 := hg 0 _ rfl; have g1 : DataW.trod enc Tryz.prog W base spare held n 26 (([c0,c1,c2].drop 1).take (Tryz.prog.cellsOf 26)) = some y1 := hg 1 _ rfl; have g2 : DataW.trod enc Tryz.prog W base spare held n 3 (([c0,c1,c2].drop 2).take (Tryz.prog.cellsOf 3)) = some y2 := hg 2 _ rfl; rw [k4] at g1; rw [k3] at g0 g2; obtain ⟨fm,e0,_,hw⟩ := DataW.trod_int Tryz.underlying3 g0; obtain ⟨A,c,rs,e1,hsl,hl,hc⟩ := open_is g1; obtain ⟨fr,e2,_,_⟩ := DataW.trod_int Tryz.underlying3 g2; simp at e0 e1 e2; subst e0 e1 e2; refine ⟨fm,fr,A,c,rs,rfl,hsl,hl,hc,?_⟩; unfold Lit.wf at hw; rw [Bool.and_eq_true] at hw; exact of_decide_eq_true hw.2
theorem worksFloors_lifted (os : Os) (started : os.Started) (H : Type) (enc : TypeId × Value -> H) :
  ReturnsInHanded {} Tryz.checked os 12 .any (Rows.worksFloorsSpec.pre6 enc Tryz.prog Tryz.f12 Rows.worksFloorsRow.domain false) (Rows.worksFloorsSpec.post enc Tryz.prog Tryz.f12 false true false false) := by
 refine returnsInHanded_of_change (C := Tryz.checked) Tryz.own started (by kernel_rfl) Tryz.func12
  (ChangeSpec.witness6 (enc := enc) (C := Tryz.checked) false ⟨#[],#[.agg #[.slice none 0 0,.slice none 0 0],.agg #[.int .i64 0,.slice none 0 0,.int .i64 0]],[]⟩ 8 (by kernel_rfl) (by kernel_rfl) (by kernel_rfl) (by kernel_rfl)) ?_
 intro W base args ds gs before hval0 hW hcnd _; have hval : ∀ (j : Nat) t v,Tryz.f12.params[j]? = some t -> args[j]? = some v -> Value.okWide Tryz.prog W .any base t v := hval0; have hW' := hW; obtain ⟨p,q,hA0,hV,rfl,hfz,hnd⟩ := hW; have hA : DataW.TrodAll enc Tryz.prog W 0 (fun _ => true) true Tryz.f12.params.toList args.toList ds p := hA0; have hAll := hA; rw [Tryz.params12] at hA hval; obtain ⟨v0,v1,d0,d1,p0,p1,rfl,rfl,rfl,h0,h1⟩ := trodAll_two hA; obtain ⟨rfl,rfl⟩ := trodVars_none hV; obtain ⟨jb,rfl,hjb⟩ := open_job (hval 0 25 v0 rfl rfl) h0; obtain ⟨fm,fr,A1,c1,ls,rfl,hs1,hlc,hc2,hfm⟩ := open_floor (hval 1 92 v1 rfl rfl) h1; have hlt : ∀ x ∈ p0 ++ p1,x.block < W.heap.size := fun x hx => hW'.lt x (by simpa using hx)
 refine (LawFloors_any jb fm fr ls A1 ls.length c1 W.heap.size W hjb rfl hs1 (Nat.le_refl _) hlc hc2 hfm).mono fun e W' ⟨he,hb⟩ => ?_
 subst he
 exact ⟨_,rfl,post_of_below (pa := p0 ++ p1) (pv := []) hW' (fun _ _ _ => trodAll_mk1 (shut_bool Tryz.underlying4 true))
  (fun sp hsp => all_stay Tryz.laidOut _ _ _ _ (fun t ht => by
   rw [Tryz.params12] at ht; simp only [List.mem_cons,List.not_mem_nil,or_false] at ht; rcases ht with rfl | rfl <;> exact ⟨by kernel_rfl,of_decide_eq_true (by kernel_rfl)⟩) hAll (fun x hx => hb.same (hlt x hx)) (fun x hx => hsp x (by simpa using hx)))
  (fun _ _ => rfl) rfl hb (ok_one (by kernel_rfl) rfl (okWide_bool_mk Tryz.underlying4 true))⟩
theorem r_place : (Rows.worksFloorsRow.inPlace == Tryz.pinned.checked.prog.inPlace 12) = true := by kernel_rfl
theorem r_unf : (Rows.worksFloorsRow.unfollowed == Tryz.pinned.checked.prog.unfollowed 12) = true := by kernel_rfl
theorem r_rec : (Rows.worksFloorsRow.recurses == Tryz.pinned.checked.prog.recurses 12) = true := by kernel_rfl
theorem r_named : (Rows.worksFloorsRow.named == Tryz.pinned.checked.prog.varsNamed 12) = true := by kernel_rfl
theorem r_func : Tryz.pinned.checked.prog.funcNamed Rows.worksFloorsRow.func = some 12 := by kernel_rfl
theorem r_closed : joinedFacts Tryz.pinned.checked.prog 12 Tryz.f12 Rows.worksFloorsSpec Rows.worksFloorsRow = true := by
 unfold joinedFacts; rw [k_laid,k_maps,k_stops,k_knobs,r_place,r_unf,r_rec,r_named,k_plain,k_heard,k_enter,show (Rows.worksFloorsRow.lifted == Tryz.pinned.checked.prog.liftsFinal) = true from k_lift,show (Tryz.pinned.checked.prog.make == some Rows.worksFloorsRow.make) = true from k_make]
 kernel_rfl
theorem worksFloors_holds : Rows.WorksFloorsSaid :=
 OpenClaim.holds_of_wide 12 Tryz.f12 rfl rfl rfl rfl rfl rfl rfl ⟨rfl,rfl,rfl,rfl,rfl⟩ rfl rfl rfl rfl rfl r_func Tryz.func12 r_closed
  (of_decide_eq_true (by kernel_rfl)) (by unfold Func.isWrapper; first | (rw [if_pos (by decide +kernel)]; kernel_rfl) | (rw [if_neg (by decide +kernel)]; exact ⟨rfl,rfl⟩))
  (fun os started H enc _ => worksFloors_lifted os started H enc)
end Go.Proofs.YtjpgnfekbojcaaaGreat
