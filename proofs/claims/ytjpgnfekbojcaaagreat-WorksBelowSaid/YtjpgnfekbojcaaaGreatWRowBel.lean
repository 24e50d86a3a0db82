/- WorksBelow holds: for every input the law returns true,and each argument reads behind the call as it read before. -/
import Derived.Test.YtjpgnfekbojcaaaGreatWLawBel
import Derived.Test.YtjpgnfekbojcaaaGreatWOpen
import Derived.Test.YtjpgnfekbojcaaaGreatWRowK
import Derived.ChangeMaps5
set_option maxRecDepth 100000
namespace Go.Proofs.YtjpgnfekbojcaaaGreat
open Go.ChangeShapes Go.WideShapes Go.ChangeAt Go.RowKit Go.Deep W7 W8
theorem trodAll_4 {H:Type} {enc:TypeId×Value->H} {P:Program} {w:World} {base:Nat} {spare:Nat->Bool} {held:Bool} {t0 t1 t2 t3:TypeId} {args:Array Value} {ds:List (DataW H)} {ps:List MemPlace} (h:DataW.TrodAll enc P w base spare held [t0,t1,t2,t3] args.toList ds ps) :
  ∃v0 v1 v2 v3 d0 d1 d2 d3 p0 p1 p2 p3,args= #[v0,v1,v2,v3]/\ds=[d0,d1,d2,d3]/\DataW.Trod enc P w base spare held t0 v0 d0 p0/\DataW.Trod enc P w base spare held t1 v1 d1 p1/\DataW.Trod enc P w base spare held t2 v2 d2 p2/\DataW.Trod enc P w base spare held t3 v3 d3 p3:=by
 obtain⟨v0,vs0,d0,ds0,p0,q0,hargs,rfl,_,h0,r0⟩:=trodAll_cons h;obtain⟨v1,vs1,d1,ds1,p1,q1,rfl,rfl,_,h1,r1⟩:=trodAll_cons r0;obtain⟨v2,vs2,d2,ds2,p2,q2,rfl,rfl,_,h2,r2⟩:=trodAll_cons r1;obtain⟨v3,vs3,d3,ds3,p3,q3,rfl,rfl,_,h3,r3⟩:=trodAll_cons r2;obtain⟨rfl,rfl,_⟩:=trodAll_nil r3;exact⟨v0,v1,v2,v3,d0,d1,d2,d3,p0,p1,p2,p3,by cases args;simp_all,rfl,h0,h1,h2,h3⟩
theorem open_floor {H:Type} {enc:TypeId×Value->H} {W:World} {base:Nat} {spare:Nat->Bool} {held:Bool} {r:Reach} {b0:Nat} {v:Value} {d:DataW H} {p:List MemPlace} (hv:Value.okWide Tryz.prog W r b0 92 v) (h:DataW.Trod enc Tryz.prog W base spare held 92 v d p) :
  ∃(fm fr:Int) (A:Option Addr) (c:Nat) (l:List Int),v= .agg #[.int .i64 fm,.slice A l.length c,.int .i64 fr]/\Sl W W.heap.size 1 encInt1 A l/\l.length<=c/\c<=9223372036854775807/\fm<=9223372036854775807:=by
 obtain⟨cs,rfl,hsz⟩:=okWide_struct Tryz.underlying92 hv;have hC:Tryz.prog.cellsOf 92=3:=by kernel_rfl
 have k3:Tryz.prog.cellsOf 3=1:=by kernel_rfl
 have k4:Tryz.prog.cellsOf 26=1:=by kernel_rfl
 obtain⟨l⟩:=cs
 match l,hsz.trans hC with
 | [c0,c1,c2],_=>
  obtain⟨fuel,hf⟩:=h;obtain⟨xs,n,_,_,_,hlen,hg⟩:=DataW.trod_struct Tryz.underlying92 hf
  match xs,hlen with
  | [y0,y1,y2],_=>
   have g0:DataW.trod enc Tryz.prog W base spare held n 3 (([c0,c1,c2].drop 0).take (Tryz.prog.cellsOf 3))=some y0:=hg 0 _ rfl;have g1:DataW.trod enc Tryz.prog W base spare held n 26 (([c0,c1,c2].drop 1).take (Tryz.prog.cellsOf 26))=some y1:=hg 1 _ rfl;have g2:DataW.trod enc Tryz.prog W base spare held n 3 (([c0,c1,c2].drop 2).take (Tryz.prog.cellsOf 3))=some y2:=hg 2 _ rfl;rw[k4] at g1;rw[k3] at g0 g2;obtain⟨fm,e0,_,hw⟩:=DataW.trod_int Tryz.underlying3 g0;obtain⟨A,c,rs,e1,hsl,hl,hc⟩:=open_is g1;obtain⟨fr,e2,_,_⟩:=DataW.trod_int Tryz.underlying3 g2;simp at e0 e1 e2;subst e0 e1 e2;refine⟨fm,fr,A,c,rs,rfl,hsl,hl,hc,?_⟩;unfold Lit.wf at hw;rw[Bool.and_eq_true] at hw;exact of_decide_eq_true hw.2
theorem worksBelow_lifted (os:Os) (started:os.Started) (H:Type) (enc:TypeId×Value->H) :
  ReturnsInHanded {} Tryz.checked os 14 .any (Rows.worksBelowSpec.pre6 enc Tryz.prog Tryz.f14 Rows.worksBelowRow.domain false) (Rows.worksBelowSpec.post enc Tryz.prog Tryz.f14 false true false false):=by
 refine returnsInHanded_of_change (C:=Tryz.checked) Tryz.own started (by kernel_rfl) Tryz.func14
  (ChangeSpec.witness6 (enc:=enc) (C:=Tryz.checked) false ⟨#[],#[.agg #[.slice none 0 0,.slice none 0 0],.slice none 0 0,.slice none 0 0,.agg #[.int .i64 0,.slice none 0 0,.int .i64 0]],[]⟩ 8 (by kernel_rfl) (by kernel_rfl) (by kernel_rfl) (by kernel_rfl)) ?_
 intro W base args ds gs before hval0 hW hcnd _;have hval:∀(j:Nat) t v,Tryz.f14.params[j]? =some t->args[j]? =some v->Value.okWide Tryz.prog W .any base t v:=hval0;have hW':=hW;obtain⟨p,q,hA0,hV,rfl,hfz,hnd⟩:=hW;have hA:DataW.TrodAll enc Tryz.prog W 0 (fun _=>true) true Tryz.f14.params.toList args.toList ds p:=hA0;have hAll:=hA;rw[Tryz.params14] at hA hval;obtain⟨v0,v1,v2,v3,d0,d1,d2,d3,p0,p1,p2,p3,rfl,rfl,h0,h1,h2,h3⟩:=trodAll_4 hA;obtain⟨rfl,rfl⟩:=trodVars_none hV;obtain⟨jb,rfl,hjb⟩:=open_job (hval 0 25 v0 rfl rfl) h0;obtain⟨a1,n1,c1,rfl⟩:=okWide_slice Tryz.underlying26 (hval 1 26 v1 rfl rfl);obtain⟨fuel1,hf1⟩:=h1;obtain⟨A1,k1,ls,e1,hs1,hlc,hc2⟩:=open_is hf1;simp only[Value.cells,List.cons.injEq,and_true,Value.slice.injEq] at e1;obtain⟨rfl,rfl,rfl⟩:=e1;obtain⟨a2,n2,c2,rfl⟩:=okWide_slice Tryz.underlying26 (hval 2 26 v2 rfl rfl);obtain⟨fuel2,hf2⟩:=h2
 obtain⟨A2,k2,ods,e2,hs2,hlc2,hc3⟩:=open_is hf2;simp only[Value.cells,List.cons.injEq,and_true,Value.slice.injEq] at e2;obtain⟨rfl,rfl,rfl⟩:=e2;obtain⟨fm,fr,A3,c3,l3,rfl,hs3,hlc3,hc4,hfm⟩:=open_floor (hval 3 92 v3 rfl rfl) h3;have hlt:∀x∈p,x.block<W.heap.size:=fun x hx=>hW'.lt x (by simp[hx])
 refine(LawBelow_any jb ls ods l3 fm fr a1 a2 A3 ls.length c1 ods.length c2 l3.length c3 W.heap.size W hjb rfl hs1 hlc hc2 rfl hs2 hlc2 hc3 rfl hs3 hlc3 hc4 (Nat.le_refl _) hfm).mono fun e W' ⟨he,hb⟩=> ?_
 subst he
 exact⟨_,rfl,post_of_below (pa:=p) (pv:=[]) hW' (fun _ _ _=>trodAll_mk1 (shut_bool Tryz.underlying4 true))
  (fun sp hsp=>all_stay Tryz.laidOut _ _ _ _ (fun t ht=>by
   rw[Tryz.params14] at ht;simp only[List.mem_cons,List.not_mem_nil,or_false] at ht;rcases ht with rfl | rfl | rfl | rfl<;>exact⟨by kernel_rfl,of_decide_eq_true (by kernel_rfl)⟩) hAll (fun x hx=>hb.same (hlt x hx)) (fun x hx=>hsp x (by simp[hx])))
  (fun _ _=>rfl) rfl hb (ok_one (by kernel_rfl) rfl (okWide_bool_mk Tryz.underlying4 true))⟩
theorem b_place:(Rows.worksBelowRow.inPlace==Tryz.pinned.checked.prog.inPlace 14)=true:=by kernel_rfl
theorem b_unf:(Rows.worksBelowRow.unfollowed==Tryz.pinned.checked.prog.unfollowed 14)=true:=by kernel_rfl
theorem b_rec:(Rows.worksBelowRow.recurses==Tryz.pinned.checked.prog.recurses 14)=true:=by kernel_rfl
theorem b_named:(Rows.worksBelowRow.named==Tryz.pinned.checked.prog.varsNamed 14)=true:=by kernel_rfl
theorem b_func:Tryz.pinned.checked.prog.funcNamed Rows.worksBelowRow.func=some 14:=by kernel_rfl
theorem b_closed:joinedFacts Tryz.pinned.checked.prog 14 Tryz.f14 Rows.worksBelowSpec Rows.worksBelowRow=true:=by
 unfold joinedFacts;rw[k_laid,k_maps,k_stops,k_knobs,b_place,b_unf,b_rec,b_named,k_plain,k_heard,k_enter,show(Rows.worksBelowRow.lifted==Tryz.pinned.checked.prog.liftsFinal)=true from k_lift,show(Tryz.pinned.checked.prog.make==some Rows.worksBelowRow.make)=true from k_make]
 kernel_rfl
theorem worksBelow_holds:Rows.WorksBelowSaid:=
 OpenClaim.holds_of_wide 14 Tryz.f14 rfl rfl rfl rfl rfl rfl rfl ⟨rfl,rfl,rfl,rfl,rfl⟩ rfl rfl rfl rfl rfl b_func Tryz.func14 b_closed
  (of_decide_eq_true (by kernel_rfl)) (by unfold Func.isWrapper;first | (rw[if_pos (by decide +kernel)];kernel_rfl) | (rw[if_neg (by decide +kernel)];exact⟨rfl,rfl⟩))
  (fun os started H enc _=>worksBelow_lifted os started H enc)
end Go.Proofs.YtjpgnfekbojcaaaGreat
