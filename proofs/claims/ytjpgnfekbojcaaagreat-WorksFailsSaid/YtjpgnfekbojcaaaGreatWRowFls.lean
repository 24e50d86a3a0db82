/- WorksFails holds: for every input the law returns true,and each argument reads behind the call as it read before. -/
import Derived.Test.YtjpgnfekbojcaaaGreatWLawFls
import Derived.ChangeMaps5
set_option maxRecDepth 100000
namespace Go.Proofs.YtjpgnfekbojcaaaGreat
open Go.ChangeShapes Go.WideShapes Go.ChangeAt Go.RowKit Go.Deep W7 W8
theorem open_isz {H:Type} {enc:TypeId×Value->H} {W:World} {base:Nat} {spare:Nat->Bool} {held:Bool} {fuel:Nat} {cs:List Value} {x:DataW H×List MemPlace} (h:DataW.trod enc Tryz.prog W base spare held fuel 26 cs=some x) :
  ∃(A:Option Addr) (c:Nat) (l:List Int),cs=[.slice A l.length c]/\Sl W W.heap.size 1 encInt1 A l/\l.length<=c/\c<=9223372036854775807/\(A=none->l.length=0/\c=0)/\∀i, -9223372036854775808<=l.getD i 0/\l.getD i 0<=9223372036854775807:=by
 have hz:∀l:List Int,(∀x∈l, -9223372036854775808<=x/\x<=9223372036854775807)->∀i, -9223372036854775808<=l.getD i 0/\l.getD i 0<=9223372036854775807:=fun l hl i=>by
  rw[zA]
  by_cases hi:i<l.length
  ·rw[zB hi];exact hl _ (zC hi)
  ·rw[List.getElem?_eq_none (by omega)];exact⟨by decide,by decide⟩
 rcases open_slice Tryz.underlying26 h with h0 | ⟨a,len,cap,m,n,D,Pl,rfl,hb,hl,hm,hmm,hx,hi⟩
 ·exact⟨none,0,[],h0.1,Sl.nil,by simp,by decide,fun _=>⟨rfl,rfl⟩,hz [] (by simp)⟩
 ·obtain⟨xs,hx1,hx2,hx3⟩:=mk_sl (enc:=encInt1) (k:=1) (W:=W) (Q:=fun x=> -9223372036854775808<=x/\x<=9223372036854775807) (by decide) (fun _=>rfl) a len (fun i him=>by
   obtain⟨cs',hc,ht'⟩:=hi i (by rw[hmm];split<;>omega);have k3:Tryz.prog.cellsOf 3=1:=by kernel_rfl
   rw[k3] at hc;obtain⟨_,hcl,hat⟩:=World.cells?_some hc;obtain⟨n0,e0,_,hw⟩:=DataW.trod_int Tryz.underlying3 ht';subst e0
   have hr: -9223372036854775808<=n0/\n0<=9223372036854775807:=by
    unfold Lit.wf at hw;rw[zY] at hw;exact⟨zI hw.1,zI hw.2⟩
   refine⟨n0,hr,fun j v hv=> ?_⟩;rcases j with _ | j
   ·have h1:=hat 0 (by omega);simp[encInt1] at hv;subst hv;rw[<- Go.Deep.add_add,h1]
    rfl
   ·simp[encInt1] at hv)
  subst hx1;exact⟨some a,cap,xs,rfl,hx2,hl,by unfold maxLen at hm;omega,fun h=>(by cases h),hz xs hx3⟩
theorem worksFails_lifted (os:Os) (started:os.Started) (H:Type) (enc:TypeId×Value->H) :
  ReturnsInHanded {} Tryz.checked os 5 .any (Rows.worksFailsSpec.pre6 enc Tryz.prog Tryz.f5 Rows.worksFailsRow.domain false) (Rows.worksFailsSpec.post enc Tryz.prog Tryz.f5 false true false false):=by
 refine returnsInHanded_of_change (C:=Tryz.checked) Tryz.own started (by kernel_rfl) Tryz.func5
  (ChangeSpec.witness6 (enc:=enc) (C:=Tryz.checked) false ⟨#[],#[.agg #[.slice none 0 0,.slice none 0 0],.slice none 0 0,.int .i64 0,.int .i64 0,.int .i64 0],[]⟩ 8 (by kernel_rfl) (by kernel_rfl) (by kernel_rfl) (by kernel_rfl)) ?_
 intro W base args ds gs before hval0 hW hcnd _;have hval:∀(j:Nat) t v,Tryz.f5.params[j]? =some t->args[j]? =some v->Value.okWide Tryz.prog W .any base t v:=hval0;have hW':=hW;obtain⟨p,q,hA0,hV,rfl,hfz,hnd⟩:=hW;have hA:DataW.TrodAll enc Tryz.prog W 0 (fun _=>true) true Tryz.f5.params.toList args.toList ds p:=hA0;have hAll:=hA;rw[Tryz.params5] at hA hval;obtain⟨v0,v1,v2,v3,v4,d0,d1,d2,d3,d4,p0,p1,p2,p3,p4,rfl,rfl,h0,h1,h2,h3,h4⟩:=trodAll_five hA;obtain⟨rfl,rfl⟩:=trodVars_none hV;obtain⟨jb,rfl,hjb,hjn,hjm⟩:=open_jobN (hval 0 25 v0 rfl rfl) h0;obtain⟨a1,n1,c1,rfl⟩:=okWide_slice Tryz.underlying26 (hval 1 26 v1 rfl rfl);obtain⟨fuel1,hf1⟩:=h1;obtain⟨A1,k1,ls,e1,hs1,hlc,hc2,hz1,hrg⟩:=open_isz hf1;simp only[Value.cells,List.cons.injEq,and_true,Value.slice.injEq] at e1;obtain⟨rfl,rfl,rfl⟩:=e1;obtain⟨x2,rfl,rfl,rfl,_⟩:=open_int Tryz.underlying3 (hval 2 3 v2 rfl rfl) h2
 obtain⟨x3,rfl,rfl,rfl,_⟩:=open_int Tryz.underlying3 (hval 3 3 v3 rfl rfl) h3;obtain⟨x4,rfl,rfl,rfl,_⟩:=open_int Tryz.underlying3 (hval 4 3 v4 rfl rfl) h4;have hlt:∀x∈p,x.block<W.heap.size:=fun x hx=>hW'.lt x (by simp[hx])
 refine(LawFails_any jb ls x2 x3 x4 a1 ls.length c1 W.heap.size W hjb ⟨fun t ht=>(hjn t ht).1,fun t ht=>(hjn t ht).2,fun t ht=>hjm t ht⟩ rfl hs1 (zm _) hlc hc2 hz1 hrg).mono fun e W' ⟨he,hb⟩=> ?_
 subst he
 exact⟨_,rfl,post_of_below (pa:=p) (pv:=[]) hW' (fun _ _ _=>trodAll_mk1 (shut_bool Tryz.underlying4 true))
  (fun sp hsp=>all_stay Tryz.laidOut _ _ _ _ (fun t ht=>by
   rw[Tryz.params5] at ht;simp only[List.mem_cons,List.not_mem_nil,or_false] at ht;rcases ht with rfl | rfl | rfl | rfl | rfl<;>exact⟨by kernel_rfl,zI (by kernel_rfl)⟩) hAll (fun x hx=>hb.same (hlt x hx)) (fun x hx=>hsp x (by simp[hx])))
  (fun _ _=>rfl) rfl hb (ok_one (by kernel_rfl) rfl (okWide_bool_mk Tryz.underlying4 true))⟩
theorem f_place:(Rows.worksFailsRow.inPlace==Tryz.pinned.checked.prog.inPlace 5)=true:=by kernel_rfl
theorem f_unf:(Rows.worksFailsRow.unfollowed==Tryz.pinned.checked.prog.unfollowed 5)=true:=by kernel_rfl
theorem f_rec:(Rows.worksFailsRow.recurses==Tryz.pinned.checked.prog.recurses 5)=true:=by kernel_rfl
theorem f_named:(Rows.worksFailsRow.named==Tryz.pinned.checked.prog.varsNamed 5)=true:=by kernel_rfl
theorem f_func:Tryz.pinned.checked.prog.funcNamed Rows.worksFailsRow.func=some 5:=by kernel_rfl
theorem f_closed:joinedFacts Tryz.pinned.checked.prog 5 Tryz.f5 Rows.worksFailsSpec Rows.worksFailsRow=true:=by
 unfold joinedFacts;rw[k_laid,k_maps,k_stops,k_knobs,f_place,f_unf,f_rec,f_named,k_plain,k_heard,k_enter,show(Rows.worksFailsRow.lifted==Tryz.pinned.checked.prog.liftsFinal)=true from k_lift,show(Tryz.pinned.checked.prog.make==some Rows.worksFailsRow.make)=true from k_make]
 kernel_rfl
theorem worksFails_holds:Rows.WorksFailsSaid:=
 OpenClaim.holds_of_wide 5 Tryz.f5 rfl rfl rfl rfl rfl rfl rfl ⟨rfl,rfl,rfl,rfl,rfl⟩ rfl rfl rfl rfl rfl f_func Tryz.func5 f_closed
  (zI (by kernel_rfl)) (by unfold Func.isWrapper;first | (rw[if_pos (by decide +kernel)];kernel_rfl) | (rw[if_neg (by decide +kernel)];exact⟨rfl,rfl⟩))
  (fun os started H enc _=>worksFails_lifted os started H enc)
end Go.Proofs.YtjpgnfekbojcaaaGreat
