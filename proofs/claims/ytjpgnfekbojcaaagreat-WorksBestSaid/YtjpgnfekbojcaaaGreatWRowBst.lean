/- WorksBest holds: for every input the law returns true,and each argument reads behind the call as it read before. -/
import Derived.Test.YtjpgnfekbojcaaaGreatWBst7
import Derived.Test.YtjpgnfekbojcaaaGreatWOpenJ
import Derived.Test.YtjpgnfekbojcaaaGreatWRowK
import Derived.ChangeMaps5
set_option maxRecDepth 100000
namespace Go.Proofs.YtjpgnfekbojcaaaGreat
open Go.ChangeShapes Go.WideShapes Go.ChangeAt Go.RowKit W7 W8
theorem worksBest_lifted (os:Os) (started:os.Started) (H:Type) (enc:TypeId×Value->H) :
  ReturnsInHanded {} Tryz.checked os 13 .any (Rows.worksBestSpec.pre6 enc Tryz.prog Tryz.f13 Rows.worksBestRow.domain false) (Rows.worksBestSpec.post enc Tryz.prog Tryz.f13 false true false false):=by
 refine returnsInHanded_of_change (C:=Tryz.checked) Tryz.own started (by kernel_rfl) Tryz.func13
  (ChangeSpec.witness6 (enc:=enc) (C:=Tryz.checked) false ⟨#[],#[.agg #[.slice none 0 0,.slice none 0 0]],[]⟩ 8 (by kernel_rfl) (by kernel_rfl) (by kernel_rfl) (by kernel_rfl)) ?_
 intro W base args ds gs before hval0 hW hcnd _;have hval:∀(j:Nat) t v,Tryz.f13.params[j]? =some t->args[j]? =some v->Value.okWide Tryz.prog W .any base t v:=hval0;have hW':=hW;obtain⟨p,q,hA0,hV,rfl,hfz,hnd⟩:=hW;have hA:DataW.TrodAll enc Tryz.prog W 0 (fun _=>true) true Tryz.f13.params.toList args.toList ds p:=hA0;have hAll:=hA;rw[Tryz.params13] at hA hval;obtain⟨v0,d0,rfl,rfl,h0⟩:=trodAll_one hA;obtain⟨rfl,rfl⟩:=trodVars_none hV;obtain⟨jb,rfl,hjb⟩:=open_job (hval 0 25 v0 rfl rfl) h0;have hlt:∀x∈p,x.block<W.heap.size:=fun x hx=>hW'.lt x (by simpa using hx)
 refine(LawBest_any jb W.heap.size W hjb (Nat.le_refl _)).mono fun e W' ⟨he,hb⟩=> ?_
 subst he
 exact⟨_,rfl,post_of_below (pa:=p) (pv:=[]) hW' (fun _ _ _=>trodAll_mk1 (shut_bool Tryz.underlying4 true))
  (fun sp hsp=>all_stay Tryz.laidOut _ _ _ _ (fun t ht=>by
   rw[Tryz.params13] at ht;simp only[List.mem_cons,List.not_mem_nil,or_false] at ht;subst ht;exact⟨by kernel_rfl,of_decide_eq_true (by kernel_rfl)⟩) hAll (fun x hx=>hb.same (hlt x hx)) (fun x hx=>hsp x (by simpa using hx)))
  (fun _ _=>rfl) rfl hb (ok_one (by kernel_rfl) rfl (okWide_bool_mk Tryz.underlying4 true))⟩
theorem r_place:(Rows.worksBestRow.inPlace==Tryz.pinned.checked.prog.inPlace 13)=true:=by kernel_rfl
theorem r_unf:(Rows.worksBestRow.unfollowed==Tryz.pinned.checked.prog.unfollowed 13)=true:=by kernel_rfl
theorem r_rec:(Rows.worksBestRow.recurses==Tryz.pinned.checked.prog.recurses 13)=true:=by kernel_rfl
theorem r_named:(Rows.worksBestRow.named==Tryz.pinned.checked.prog.varsNamed 13)=true:=by kernel_rfl
theorem r_func:Tryz.pinned.checked.prog.funcNamed Rows.worksBestRow.func=some 13:=by kernel_rfl
theorem r_closed:joinedFacts Tryz.pinned.checked.prog 13 Tryz.f13 Rows.worksBestSpec Rows.worksBestRow=true:=by
 unfold joinedFacts;rw[k_laid,k_maps,k_stops,k_knobs,r_place,r_unf,r_rec,r_named,k_plain,k_heard,k_enter,show(Rows.worksBestRow.lifted==Tryz.pinned.checked.prog.liftsFinal)=true from k_lift,show(Tryz.pinned.checked.prog.make==some Rows.worksBestRow.make)=true from k_make]
 kernel_rfl
theorem worksBest_holds:Rows.WorksBestSaid:=
 OpenClaim.holds_of_wide 13 Tryz.f13 rfl rfl rfl rfl rfl rfl rfl ⟨rfl,rfl,rfl,rfl,rfl⟩ rfl rfl rfl rfl rfl r_func Tryz.func13 r_closed
  (of_decide_eq_true (by kernel_rfl)) (by unfold Func.isWrapper;first | (rw[if_pos (by decide +kernel)];kernel_rfl) | (rw[if_neg (by decide +kernel)];exact⟨rfl,rfl⟩))
  (fun os started H enc _=>worksBest_lifted os started H enc)
end Go.Proofs.YtjpgnfekbojcaaaGreat
