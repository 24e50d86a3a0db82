/- WorksGoes holds: for every input the law returns true,and each argument reads behind the call as it read before. -/
import Derived.Test.YtjpgnfekbojcaaaGreatWLawGoe
import Derived.Test.YtjpgnfekbojcaaaGreatWOpenJ
import Derived.Test.YtjpgnfekbojcaaaGreatWRowK
import Derived.ChangeMaps5
set_option maxRecDepth 100000
namespace Go.Proofs.YtjpgnfekbojcaaaGreat
open Go.ChangeShapes Go.WideShapes Go.ChangeAt Go.RowKit W7 W8
theorem worksGoes_lifted (os:Os) (started:os.Started) (H:Type) (enc:TypeId×Value->H) :
  ReturnsInHanded {} Tryz.checked os 6 .any (Rows.worksGoesSpec.pre6 enc Tryz.prog Tryz.f6 Rows.worksGoesRow.domain false) (Rows.worksGoesSpec.post enc Tryz.prog Tryz.f6 false true false false):=by
 refine returnsInHanded_of_change (C:=Tryz.checked) Tryz.own started (by kernel_rfl) Tryz.func6
  (ChangeSpec.witness6 (enc:=enc) (C:=Tryz.checked) false ⟨#[],#[.agg #[.slice none 0 0,.slice none 0 0],.slice none 0 0,.int .i64 0,.int .i64 0,.int .i64 0],[]⟩ 8 (by kernel_rfl) (by kernel_rfl) (by kernel_rfl) (by kernel_rfl)) ?_
 intro W base args ds gs before hval0 hW hcnd _;have hval:∀(j:Nat) t v,Tryz.f6.params[j]? =some t->args[j]? =some v->Value.okWide Tryz.prog W .any base t v:=hval0;have hW':=hW;obtain⟨p,q,hA0,hV,rfl,hfz,hnd⟩:=hW;have hA:DataW.TrodAll enc Tryz.prog W 0 (fun _=>true) true Tryz.f6.params.toList args.toList ds p:=hA0;have hAll:=hA;rw[Tryz.params6] at hA hval;obtain⟨v0,v1,v2,v3,v4,d0,d1,d2,d3,d4,p0,p1,p2,p3,p4,rfl,rfl,h0,h1,h2,h3,h4⟩:=trodAll_five hA;obtain⟨rfl,rfl⟩:=trodVars_none hV;obtain⟨jb,rfl,hjb,hjn,hjm⟩:=open_jobN (hval 0 25 v0 rfl rfl) h0;obtain⟨a1,n1,c1,rfl⟩:=okWide_slice Tryz.underlying26 (hval 1 26 v1 rfl rfl);obtain⟨fuel1,hf1⟩:=h1;obtain⟨A1,k1,ls,e1,hs1,hlc,hc2⟩:=open_is hf1;simp only[Value.cells,List.cons.injEq,and_true,Value.slice.injEq] at e1;obtain⟨rfl,rfl,rfl⟩:=e1;obtain⟨x2,rfl,rfl,rfl,_⟩:=open_int Tryz.underlying3 (hval 2 3 v2 rfl rfl) h2
 obtain⟨x3,rfl,rfl,rfl,_⟩:=open_int Tryz.underlying3 (hval 3 3 v3 rfl rfl) h3;obtain⟨x4,rfl,rfl,rfl,_⟩:=open_int Tryz.underlying3 (hval 4 3 v4 rfl rfl) h4;have hlt:∀x∈p,x.block<W.heap.size:=fun x hx=>hW'.lt x (by simp[hx])
 refine(LawGoes_any jb ls x2 x3 x4 a1 ls.length c1 W.heap.size W hjb ⟨fun t ht=>(hjn t ht).1,fun t ht=>(hjn t ht).2,fun t ht=>hjm t ht⟩ rfl hs1 (Nat.le_refl _) hlc hc2).mono fun e W' ⟨he,hb⟩=> ?_
 subst he
 exact⟨_,rfl,post_of_below (pa:=p) (pv:=[]) hW' (fun _ _ _=>trodAll_mk1 (shut_bool Tryz.underlying4 true))
  (fun sp hsp=>all_stay Tryz.laidOut _ _ _ _ (fun t ht=>by
   rw[Tryz.params6] at ht;simp only[List.mem_cons,List.not_mem_nil,or_false] at ht;rcases ht with rfl | rfl | rfl | rfl | rfl<;>exact⟨by kernel_rfl,of_decide_eq_true (by kernel_rfl)⟩) hAll (fun x hx=>hb.same (hlt x hx)) (fun x hx=>hsp x (by simp[hx])))
  (fun _ _=>rfl) rfl hb (ok_one (by kernel_rfl) rfl (okWide_bool_mk Tryz.underlying4 true))⟩
theorem g_place:(Rows.worksGoesRow.inPlace==Tryz.pinned.checked.prog.inPlace 6)=true:=by kernel_rfl
theorem g_unf:(Rows.worksGoesRow.unfollowed==Tryz.pinned.checked.prog.unfollowed 6)=true:=by kernel_rfl
theorem g_rec:(Rows.worksGoesRow.recurses==Tryz.pinned.checked.prog.recurses 6)=true:=by kernel_rfl
theorem g_named:(Rows.worksGoesRow.named==Tryz.pinned.checked.prog.varsNamed 6)=true:=by kernel_rfl
theorem g_func:Tryz.pinned.checked.prog.funcNamed Rows.worksGoesRow.func=some 6:=by kernel_rfl
theorem g_closed:joinedFacts Tryz.pinned.checked.prog 6 Tryz.f6 Rows.worksGoesSpec Rows.worksGoesRow=true:=by
 unfold joinedFacts;rw[k_laid,k_maps,k_stops,k_knobs,g_place,g_unf,g_rec,g_named,k_plain,k_heard,k_enter,show(Rows.worksGoesRow.lifted==Tryz.pinned.checked.prog.liftsFinal)=true from k_lift,show(Tryz.pinned.checked.prog.make==some Rows.worksGoesRow.make)=true from k_make]
 kernel_rfl
theorem worksGoes_holds:Rows.WorksGoesSaid:=
 OpenClaim.holds_of_wide 6 Tryz.f6 rfl rfl rfl rfl rfl rfl rfl ⟨rfl,rfl,rfl,rfl,rfl⟩ rfl rfl rfl rfl rfl g_func Tryz.func6 g_closed
  (of_decide_eq_true (by kernel_rfl)) (by unfold Func.isWrapper;first | (rw[if_pos (by decide +kernel)];kernel_rfl) | (rw[if_neg (by decide +kernel)];exact⟨rfl,rfl⟩))
  (fun os started H enc _=>worksGoes_lifted os started H enc)
end Go.Proofs.YtjpgnfekbojcaaaGreat
