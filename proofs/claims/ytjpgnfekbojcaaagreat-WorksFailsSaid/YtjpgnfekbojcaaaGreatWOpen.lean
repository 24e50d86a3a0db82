/- The laws' arguments opened: rows of structs,of ints;an air table,stays. -/
import Derived.Test.YtjpgnfekbojcaaaGreatWAir2
import Derived.Deep.Slices
import Derived.Deep.Fields
import Derived.ChangeSame
import Derived.OpenShut
set_option maxRecDepth 100000
namespace Go.Proofs.YtjpgnfekbojcaaaGreat
open Go.RowKit Go.ChangeShapes Go.WideShapes Go.Deep W7 W8
section
variable {H:Type} {enc:TypeId×Value->H} {P:Program} {w:World} {base:Nat} {spare:Nat->Bool} {held:Bool}
theorem open_slice_fields {t e:TypeId} {fs:Array Field} {fuel:Nat} {cs:List Value} {x:DataW H×List MemPlace} (ht:P.underlying t=some (.slice e)) (he:P.underlying e=some (.struct fs))
  (hone:oneCellFields P fs=true) (hC:P.cellsOf e=fs.size) (h:DataW.trod enc P w base spare held fuel t cs=some x) :
  (cs=[.slice none 0 0]/\x=(.nil,[])) ∨
  ∃(a:Addr) (len cap:Nat),cs=[.slice (some a) len cap]/\len<=cap/\cap<=maxLen ∧
   ∀i,i<len->∃(n:Nat),∀(j:Nat) (f:Field),fs[j]? =some f->∃(v:Value) (y:DataW H×List MemPlace),w.cell? (a.add (i*fs.size+j))=some v/\DataW.trod enc P w base spare held n f.type [v]=some y:=by
 rcases open_slice ht h with h0 | ⟨a,len,cap,m,n,D,Pl,hcs,hb,hl,hm,hmm,hx,hi⟩
 ·exact .inl ⟨h0.1,h0.2⟩
 ·refine .inr ⟨a,len,cap,hcs,hl,hm,fun i him=> ?_⟩;obtain⟨cs',hc,ht'⟩:=hi i (by rw[hmm];split<;>omega);rw[hC] at hc;obtain⟨ys,n',hn',hy,hlen,hyl,hf⟩:=DataW.trod_struct he ht';obtain⟨_,hcl,hat⟩:=World.cells?_some hc;refine⟨n',fun j f hj=> ?_⟩;obtain⟨ho,hk⟩:=hone_of hone j f hj;have hjl:j<fs.size:=(zT.1 hj).1;have hcell:=hat j hjl;have hv:cs'[j]? =some (cs'[j]'(by omega)):=zB (by omega);have h1:=hf j f hj;rw[ho,hk] at h1
  have hone':(cs'.drop j).take 1=[cs'[j]'(by omega)]:=by
   rw[List.drop_eq_getElem_cons (by omega)]
   rfl
  rw[hone'] at h1;have hys:ys[j]? =some (ys[j]'(by omega)):=zB (by omega);refine⟨_,_,?_,h1.trans hys⟩;rw[<- Go.Deep.add_add,hcell,hv]
end
theorem mk_sl {α:Type} [Inhabited α] {enc:α->List Value} {k:Nat} (hk0:0<k) (hk:∀x,(enc x).length=k) {W:World} {Q:α->Prop} (a:Addr) (len:Nat)
  (h:∀i,i<len->∃x:α,Q x/\∀j v,(enc x)[j]? =some v->W.cell? (a.add (i*k+j))=some v):∃xs:List α,xs.length=len/\Sl W W.heap.size k enc (some a) xs/\∀x∈xs,Q x:=by
 have hf:∃f:Nat->α,∀i,i<len->Q (f i)/\∀j v,(enc (f i))[j]? =some v->W.cell? (a.add (i*k+j))=some v:=by
  refine⟨fun i=>if hi:i<len then Classical.choose (h i hi) else default,fun i hi=> ?_⟩;simp only[hi,dite_true];exact Classical.choose_spec (h i hi)
 obtain⟨f,hf⟩:=hf;refine⟨(List.range len).map f,by simp,fun h0=> ?_,fun x hx=> ?_⟩
 ·have hl0:0<len:=by simpa using h0
  have hx0:(enc (f 0))[0]? =some ((enc (f 0))[0]'(by rw[hk];exact hk0)):=zB _;have hc0:=(hf 0 hl0).2 0 _ hx0;have ha:a.add (0*k+0)=a:=by simp[Addr.add]
  rw[ha] at hc0;have hsp:=World.cell?_spot hc0;obtain⟨b,off,spot⟩:=a;simp only at hsp;subst hsp;refine⟨b,off,rfl,World.block_lt_of_cell? W _ hc0,fun i hi j v hv=> ?_⟩;have hi':i<len:=by simpa using hi
  have e:((List.range len).map f)[i]=f i:=by simp
  rw[e] at hv;have:=(hf i hi').2 j v hv
  have ea:(⟨b,off,none⟩:Addr).add (i*k+j)=⟨b,off+i*k+j,none⟩:=by
   rw[show off+i*k+j=off+(i*k+j) by omega];unfold Addr.add;split<;>simp_all
  rwa [ea] at this
 ·obtain⟨i,hi,rfl⟩:=List.mem_map.1 hx;exact(hf i (by simpa using hi)).1
section
variable {H:Type} {enc:TypeId×Value->H} {W:World} {base:Nat} {spare:Nat->Bool} {held:Bool}
theorem open_is {fuel:Nat} {cs:List Value} {x:DataW H×List MemPlace} (h:DataW.trod enc Tryz.prog W base spare held fuel 26 cs=some x) :
  ∃(A:Option Addr) (c:Nat) (l:List Int),cs=[.slice A l.length c]/\Sl W W.heap.size 1 encInt1 A l/\l.length<=c/\c<=9223372036854775807:=by
 rcases open_slice Tryz.underlying26 h with h0 | ⟨a,len,cap,m,n,D,Pl,rfl,hb,hl,hm,hmm,hx,hi⟩
 ·exact⟨none,0,[],h0.1,Sl.nil,by simp,by decide⟩
 ·obtain⟨xs,hx1,hx2,_⟩:=mk_sl (enc:=encInt1) (k:=1) (W:=W) (Q:=fun _=>True) (by decide) (fun _=>rfl) a len (fun i him=>by
   obtain⟨cs',hc,ht'⟩:=hi i (by rw[hmm];split<;>omega);have k3:Tryz.prog.cellsOf 3=1:=by kernel_rfl
   rw[k3] at hc;obtain⟨_,hcl,hat⟩:=World.cells?_some hc;obtain⟨n0,e0,_,_⟩:=DataW.trod_int Tryz.underlying3 ht';subst e0;refine⟨n0,trivial,fun j v hv=> ?_⟩;rcases j with _ | j
   ·have h1:=hat 0 (by omega);simp[encInt1] at hv;subst hv;rw[<- Go.Deep.add_add,h1]
    rfl
   ·simp[encInt1] at hv)
  subst hx1;exact⟨some a,cap,xs,rfl,hx2,hl,by unfold maxLen at hm;omega⟩
end
section
variable {H:Type} {enc:TypeId×Value->H} {P:Program} {w:World} {base:Nat} {spare:Nat->Bool} {held:Bool}
theorem trodAll_five {t0 t1 t2 t3 t4:TypeId} {args:Array Value} {ds:List (DataW H)} {ps:List MemPlace} (h:DataW.TrodAll enc P w base spare held [t0,t1,t2,t3,t4] args.toList ds ps) :
  ∃v0 v1 v2 v3 v4 d0 d1 d2 d3 d4 p0 p1 p2 p3 p4,args= #[v0,v1,v2,v3,v4]/\ds=[d0,d1,d2,d3,d4]/\DataW.Trod enc P w base spare held t0 v0 d0 p0/\DataW.Trod enc P w base spare held t1 v1 d1 p1/\DataW.Trod enc P w base spare held t2 v2 d2 p2/\DataW.Trod enc P w base spare held t3 v3 d3 p3/\DataW.Trod enc P w base spare held t4 v4 d4 p4:=by
 obtain⟨v0,vs0,d0,ds0,p0,q0,hargs,rfl,_,h0,r0⟩:=trodAll_cons h;obtain⟨v1,vs1,d1,ds1,p1,q1,rfl,rfl,_,h1,r1⟩:=trodAll_cons r0;obtain⟨v2,vs2,d2,ds2,p2,q2,rfl,rfl,_,h2,r2⟩:=trodAll_cons r1;obtain⟨v3,vs3,d3,ds3,p3,q3,rfl,rfl,_,h3,r3⟩:=trodAll_cons r2;obtain⟨v4,vs4,d4,ds4,p4,q4,rfl,rfl,_,h4,r4⟩:=trodAll_cons r3;obtain⟨rfl,rfl,_⟩:=trodAll_nil r4;exact⟨v0,v1,v2,v3,v4,d0,d1,d2,d3,d4,p0,p1,p2,p3,p4,by cases args;simp_all,rfl,h0,h1,h2,h3,h4⟩
end
section
variable {H:Type} {enc:TypeId×Value->H} {W:World} {base:Nat} {spare:Nat->Bool} {held:Bool}
end
section
variable {H:Type} {enc:TypeId×Value->H} {P:Program}
theorem post_of_below {f:Func} {s:ChangeSpec} {apart fresh handsOn again:Bool} {W W':World} {args:Array Value} {v:Value} {ds gs:List (DataW H)} {before pa pv:List MemPlace}
  (hW:DataW.Whole enc P f.params.toList s.vars apart W args.toList ds gs before)
  (hres:∀(b:Nat) (sp:Nat->Bool) (hd:Bool),DataW.TrodAll enc P W' b sp hd f.resultTypes.toList (v.resultList f.resultTypes.size) (s.fn H (ds++gs)).results [])
  (hargs:∀sp:Nat->Bool,(∀p∈before,sp p.block=true)->DataW.TrodAll enc P W' 0 sp true f.params.toList args.toList (s.fn H (ds++gs)).args pa)
  (hvars:∀sp:Nat->Bool,(∀p∈before,sp p.block=true)->DataW.TrodVars enc P W' sp s.vars (s.fn H (ds++gs)).vars pv)
  (hps:before=pa++pv) (hb:Bl W W')
  (hok:∀(j:Nat) (t:TypeId) (r:Value),f.resultTypes[j]? =some t->(v.resultList f.resultTypes.size)[j]? =some r->Value.okWide P W' .any 0 t r) :
  s.post enc P f apart fresh handsOn again W args v W':=by
 have hlt:∀p∈before,p.block<W.heap.size:=fun p hp=>hW.lt p hp
 have hold:∀p∈before,(fun b=>decide (b<W.heap.size)) p.block=true:=fun p hp=>by simpa using hlt p hp
 refine⟨ds,gs,before,[],pa,pv,hW,hres _ _ _,hargs _ hold,hvars _ hold,World.keptBut_mono (fun p hp=>⟨hp,?_⟩) (hb.frame (· ∈before)),fun _=> ?_⟩
 ·rw[hps,List.mem_append] at hp;exact Or.inr hp
 ·obtain⟨_,_,_,_,_,hz,hn⟩:=hW;refine⟨hok,_,_,([]++pa)++pv,⟨[]++pa,pv,trodAll_append (hargs _ (fun _ _=>rfl)) (hres _ _ _),hvars _ (fun _ _=>rfl),rfl,?_,?_⟩,?_⟩
  ·intro b off hp;have hin:MemPlace.cell b off∈before:=by rw[hps];simpa using hp
   rw[hb.frozen (hlt _ hin)];exact hz b off hin
  ·intro ha;have:=hn ha;rw[hps] at this
   simpa using this
  ·intro p hp _;rw[hps]
   simpa using hp
theorem all_stay (hl:laidOutB P=true) {W W':World} {sp:Nat->Bool}:∀(ts:List TypeId) (vs:List Value) (ds:List (DataW H)) (ps:List MemPlace),(∀t∈ts,P.readableRec t=true/\t<P.types.size) →
  DataW.TrodAll enc P W 0 (fun _=>true) true ts vs ds ps->(∀x∈ps,W.sameAt W' x)->(∀x∈ps,sp x.block=true)->DataW.TrodAll enc P W' 0 sp true ts vs ds ps
 | [],vs,ds,ps,_,h,_,_=>by
  obtain⟨rfl,rfl,rfl⟩:=trodAll_nil h;exact trodAll_mk0
 | t::ts,vs,ds,ps,hr,h,h1,h2=>by
  obtain⟨v,vs',d,ds',p,q,rfl,rfl,rfl,hd,hrest⟩:=trodAll_cons h
  exact trodAll_cons_mk (WideElems.Trod_stays hl (hr t (by simp)).1 (hr t (by simp)).2 hd (fun x hx=>h1 x (by simp[hx])) (fun x hx=>h2 x (by simp[hx])))
   (all_stay hl ts vs' ds' q (fun t ht=>hr t (by simp[ht])) hrest (fun x hx=>h1 x (by simp[hx])) (fun x hx=>h2 x (by simp[hx])))
end
theorem Tryz.own:ownKnob Tryz.prog.godebug=none:=by kernel_rfl
theorem Tryz.laidOut:laidOutB Tryz.prog=true:=by kernel_rfl
section
variable {H:Type} {enc:TypeId×Value->H} {W:World} {base:Nat} {spare:Nat->Bool} {held:Bool}
theorem slice_nil {t e:TypeId} {fuel n c:Nat} {A:Option Addr} {x:DataW H×List MemPlace} (ht:Tryz.prog.underlying t=some (.slice e)) (h:DataW.trod enc Tryz.prog W base spare held fuel t [.slice A n c]=some x) (hA:A=none):n=0/\c=0:=by
 rcases open_slice ht h with h0 | ⟨a,_,_,_,_,_,_,hcs,_⟩
 ·simp only[List.cons.injEq,and_true,Value.slice.injEq] at h0;exact⟨h0.1.2.1,h0.1.2.2⟩
 ·simp only[List.cons.injEq,and_true,Value.slice.injEq] at hcs;rw[hA] at hcs;cases hcs.1
def TkNil (t:Task):Prop:=(t.NA=none->t.p.needs.length=0/\t.nc=0)/\(t.UA=none->t.p.uses.length=0/\t.uc=0)
def RsNil (r:Res):Prop:=r.OA=none->r.p.off.length=0/\r.oc=0
theorem open_uses {fuel:Nat} {cs:List Value} {x:DataW H×List MemPlace} (h:DataW.trod enc Tryz.prog W base spare held fuel 44 cs=some x) :
  ∃(A:Option Addr) (c:Nat) (l:List JUse),cs=[.slice A l.length c]/\Sl W W.heap.size 2 encUse A l/\l.length<=c/\c<=9223372036854775807:=by
 rcases open_slice_fields Tryz.underlying44 Tryz.underlying48 (by kernel_rfl) (by kernel_rfl) h with⟨rfl,_⟩ | ⟨a,len,cap,rfl,hl,hm,hi⟩
 ·exact⟨none,0,[],rfl,Sl.nil,by simp,by decide⟩
 ·obtain⟨xs,hx1,hx2,_⟩:=mk_sl (enc:=encUse) (k:=2) (W:=W) (Q:=fun _=>True) (by decide) (fun _=>rfl) a len (fun i hi'=>by
   obtain⟨n,hf⟩:=hi i hi';obtain⟨v0,y0,c0,t0⟩:=hf 0 _ rfl;obtain⟨v1,y1,c1,t1⟩:=hf 1 _ rfl;obtain⟨n0,e0,_,_⟩:=DataW.trod_int Tryz.underlying3 t0;obtain⟨n1,e1,_,_⟩:=DataW.trod_int Tryz.underlying3 t1;simp only[List.cons.injEq,and_true] at e0 e1;subst e0 e1;refine⟨⟨n0,n1⟩,trivial,fun j v hv=> ?_⟩;rcases j with _ | _ | j
   ·simp[encUse] at hv;subst hv;exact c0
   ·simp[encUse] at hv;subst hv;exact c1
   ·simp[encUse] at hv)
  subst hx1;exact⟨some a,cap,xs,rfl,hx2,hl,by unfold maxLen at hm;omega⟩
theorem open_spans {fuel:Nat} {cs:List Value} {x:DataW H×List MemPlace} (h:DataW.trod enc Tryz.prog W base spare held fuel 41 cs=some x) :
  ∃(A:Option Addr) (c:Nat) (l:List JSpan),cs=[.slice A l.length c]/\Sl W W.heap.size 2 encJSpan A l/\l.length<=c/\c<=9223372036854775807:=by
 rcases open_slice_fields Tryz.underlying41 Tryz.underlying50 (by kernel_rfl) (by kernel_rfl) h with⟨rfl,_⟩ | ⟨a,len,cap,rfl,hl,hm,hi⟩
 ·exact⟨none,0,[],rfl,Sl.nil,by simp,by decide⟩
 ·obtain⟨xs,hx1,hx2,_⟩:=mk_sl (enc:=encJSpan) (k:=2) (W:=W) (Q:=fun _=>True) (by decide) (fun _=>rfl) a len (fun i hi'=>by
   obtain⟨n,hf⟩:=hi i hi';obtain⟨v0,y0,c0,t0⟩:=hf 0 _ rfl;obtain⟨v1,y1,c1,t1⟩:=hf 1 _ rfl;obtain⟨n0,e0,_,_⟩:=DataW.trod_int Tryz.underlying3 t0;obtain⟨n1,e1,_,_⟩:=DataW.trod_int Tryz.underlying3 t1;simp only[List.cons.injEq,and_true] at e0 e1;subst e0 e1;refine⟨⟨n0,n1⟩,trivial,fun j v hv=> ?_⟩;rcases j with _ | _ | j
   ·simp[encJSpan] at hv;subst hv;exact c0
   ·simp[encJSpan] at hv;subst hv;exact c1
   ·simp[encJSpan] at hv)
  subst hx1;exact⟨some a,cap,xs,rfl,hx2,hl,by unfold maxLen at hm;omega⟩
theorem open_tasks {fuel:Nat} {cs:List Value} {x:DataW H×List MemPlace} (h:DataW.trod enc Tryz.prog W base spare held fuel 22 cs=some x) :
  ∃(A:Option Addr) (c:Nat) (l:List Task),cs=[.slice A l.length c]/\Sl W W.heap.size 4 encTask A l/\l.length<=c/\c<=9223372036854775807/\∀t∈l,TkIn W W.heap.size t/\TkNil t:=by
 rcases open_slice_fields Tryz.underlying22 Tryz.underlying46 (by kernel_rfl) (by kernel_rfl) h with⟨rfl,_⟩ | ⟨a,len,cap,rfl,hl,hm,hi⟩
 ·exact⟨none,0,[],rfl,Sl.nil,by simp,by decide,by simp⟩
 ·obtain⟨xs,hx1,hx2,hx3⟩:=mk_sl (enc:=encTask) (k:=4) (W:=W) (Q:=fun t=>TkIn W W.heap.size t/\TkNil t) (by decide) (fun _=>rfl) a len (fun i hi'=>by
   obtain⟨n,hf⟩:=hi i hi';obtain⟨v0,y0,c0,t0⟩:=hf 0 _ rfl;obtain⟨v1,y1,c1,t1⟩:=hf 1 _ rfl;obtain⟨v2,y2,c2,t2⟩:=hf 2 _ rfl;obtain⟨v3,y3,c3,t3⟩:=hf 3 _ rfl;obtain⟨n0,e0,_,hs0⟩:=DataW.trod_string Tryz.underlying9 t0;obtain⟨n1,e1,_,_⟩:=DataW.trod_int Tryz.underlying3 t1;obtain⟨A2,k2,l2,e2,s2,g2,m2⟩:=open_is t2;obtain⟨A3,k3,l3,e3,s3,g3,m3⟩:=open_uses t3;simp only[List.cons.injEq,and_true] at e0 e1 e2 e3;subst e0 e1 e2 e3;refine⟨⟨⟨n0,n1,l2,l3⟩,A2,k2,A3,k3⟩,⟨⟨hs0,s2,s3,g2,m2,g3,m3⟩,slice_nil Tryz.underlying26 t2,slice_nil Tryz.underlying44 t3⟩,fun j v hv=> ?_⟩;rcases j with _ | _ | _ | _ | j
   ·simp[encTask] at hv;subst hv;exact c0
   ·simp[encTask] at hv;subst hv;exact c1
   ·simp[encTask] at hv;subst hv;exact c2
   ·simp[encTask] at hv;subst hv;exact c3
   ·simp[encTask] at hv)
  subst hx1;exact⟨some a,cap,xs,rfl,hx2,hl,by unfold maxLen at hm;omega,hx3⟩
theorem open_ress {fuel:Nat} {cs:List Value} {x:DataW H×List MemPlace} (h:DataW.trod enc Tryz.prog W base spare held fuel 23 cs=some x) :
  ∃(A:Option Addr) (c:Nat) (l:List Res),cs=[.slice A l.length c]/\Sl W W.heap.size 3 encRes A l/\l.length<=c/\c<=9223372036854775807/\∀t∈l,RsIn W W.heap.size t/\RsNil t:=by
 rcases open_slice_fields Tryz.underlying23 Tryz.underlying43 (by kernel_rfl) (by kernel_rfl) h with⟨rfl,_⟩ | ⟨a,len,cap,rfl,hl,hm,hi⟩
 ·exact⟨none,0,[],rfl,Sl.nil,by simp,by decide,by simp⟩
 ·obtain⟨xs,hx1,hx2,hx3⟩:=mk_sl (enc:=encRes) (k:=3) (W:=W) (Q:=fun t=>RsIn W W.heap.size t/\RsNil t) (by decide) (fun _=>rfl) a len (fun i hi'=>by
   obtain⟨n,hf⟩:=hi i hi';obtain⟨v0,y0,c0,t0⟩:=hf 0 _ rfl;obtain⟨v1,y1,c1,t1⟩:=hf 1 _ rfl;obtain⟨v2,y2,c2,t2⟩:=hf 2 _ rfl;obtain⟨n0,e0,_,hs0⟩:=DataW.trod_string Tryz.underlying9 t0;obtain⟨n1,e1,_,_⟩:=DataW.trod_int Tryz.underlying3 t1;obtain⟨A2,k2,l2,e2,s2,g2,m2⟩:=open_spans t2;simp only[List.cons.injEq,and_true] at e0 e1 e2;subst e0 e1 e2;refine⟨⟨⟨n0,n1,l2⟩,A2,k2⟩,⟨⟨hs0,s2,g2,m2⟩,slice_nil Tryz.underlying41 t2⟩,fun j v hv=> ?_⟩;rcases j with _ | _ | _ | j
   ·simp[encRes] at hv;subst hv;exact c0
   ·simp[encRes] at hv;subst hv;exact c1
   ·simp[encRes] at hv;subst hv;exact c2
   ·simp[encRes] at hv)
  subst hx1;exact⟨some a,cap,xs,rfl,hx2,hl,by unfold maxLen at hm;omega,hx3⟩
theorem open_jobN {r:Reach} {b0:Nat} {v:Value} {d:DataW H} {p:List MemPlace} (hv:Value.okWide Tryz.prog W r b0 25 v) (h:DataW.Trod enc Tryz.prog W base spare held 25 v d p) :
  ∃j:Job,v=jobV j/\JIn W W.heap.size j/\(∀t∈j.tasks,TkNil t)/\∀t∈j.res,RsNil t:=by
 obtain⟨cs,rfl,hsz⟩:=okWide_struct Tryz.underlying25 hv;have hC:Tryz.prog.cellsOf 25=2:=by kernel_rfl
 have k3:Tryz.prog.cellsOf 22=1:=by kernel_rfl
 have k4:Tryz.prog.cellsOf 23=1:=by kernel_rfl
 obtain⟨l⟩:=cs
 match l,hsz.trans hC with
 | [c0,c1],_=>
  obtain⟨fuel,hf⟩:=h;obtain⟨xs,n,_,_,_,hlen,hg⟩:=DataW.trod_struct Tryz.underlying25 hf
  match xs,hlen with
  | [y0,y1],_=>
   have g0:DataW.trod enc Tryz.prog W base spare held n 22 (([c0,c1].drop 0).take (Tryz.prog.cellsOf 22))=some y0:=hg 0 _ rfl;have g1:DataW.trod enc Tryz.prog W base spare held n 23 (([c0,c1].drop 1).take (Tryz.prog.cellsOf 23))=some y1:=hg 1 _ rfl;rw[k3] at g0;rw[k4] at g1;obtain⟨TA,tc,ts,e0,s0,l0,m0,q0⟩:=open_tasks g0;obtain⟨RA,rc,rs,e1,s1,l1,m1,q1⟩:=open_ress g1;simp at e0 e1;subst e0 e1;exact⟨⟨TA,tc,ts,RA,rc,rs⟩,rfl,⟨s0,s1,l0,m0,l1,m1,fun t ht=>(q0 t ht).1,fun t ht=>(q1 t ht).1⟩,fun t ht=>(q0 t ht).2,fun t ht=>(q1 t ht).2⟩
end
end Go.Proofs.YtjpgnfekbojcaaaGreat
