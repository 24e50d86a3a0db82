/- A job among a law's arguments opened: rows of structs that hold rows themselves. -/
import Derived.Test.YtjpgnfekbojcaaaGreatWOpen
set_option maxRecDepth 100000
namespace Go.Proofs.YtjpgnfekbojcaaaGreat
open Go.RowKit Go.ChangeShapes Go.WideShapes Go.Deep W7 W8
section
variable {H:Type} {enc:TypeId×Value->H} {W:World} {base:Nat} {spare:Nat->Bool} {held:Bool}
theorem slice_nil {t e:TypeId} {fuel n c:Nat} {A:Option Addr} {x:DataW H×List MemPlace} (ht:Tryz.prog.underlying t=some (.slice e)) (h:DataW.trod enc Tryz.prog W base spare held fuel t [.slice A n c]=some x) (hA:A=none):n=0/\c=0:=by
 rcases open_slice ht h with h0 | ⟨a,_,_,_,_,_,_,hcs,_⟩
 ·simp only[List.cons.injEq,and_true,Value.slice.injEq] at h0;exact⟨h0.1.2.1,h0.1.2.2⟩
 ·simp only[List.cons.injEq,and_true,Value.slice.injEq] at hcs;rw[hA] at hcs;cases hcs.1
def TkNil (t:Task):Prop:=(t.NA=none->t.p.needs.length=0/\t.nc=0)/\(t.UA=none->t.p.uses.length=0/\t.uc=0)
def RsNil (r:Res):Prop:=r.OA=none->r.p.off.length=0/\r.oc=0
theorem open_uses {fuel:Nat} {cs:List Value} {x:DataW H×List MemPlace} (h:DataW.trod enc Tryz.prog W base spare held fuel 44 cs=some x) :
  ∃(A:Option Addr) (c:Nat) (l:List JUse),cs=[.slice A l.length c]/\Sl W W.heap.size 2 encUse A l/\l.length<=c/\c<=9223372036854775807:=by
 rcases open_slice_fields Tryz.underlying44 Tryz.underlying48 (by kernel_rfl) (by kernel_rfl) h with⟨rfl,_⟩ | ⟨a,len,cap,rfl,hl,hm,hi⟩
 ·exact⟨none,0,[],rfl,Sl.nil,by simp,by decide⟩
 ·obtain⟨xs,hx1,hx2,_⟩:=mk_sl (enc:=encUse) (k:=2) (W:=W) (Q:=fun _=>True) (by decide) (fun _=>rfl) a len (fun i hi'=>by
   obtain⟨n,hf⟩:=hi i hi';obtain⟨v0,y0,c0,t0⟩:=hf 0 _ rfl;obtain⟨v1,y1,c1,t1⟩:=hf 1 _ rfl;obtain⟨n0,e0,_,_⟩:=DataW.trod_int Tryz.underlying3 t0;obtain⟨n1,e1,_,_⟩:=DataW.trod_int Tryz.underlying3 t1;simp only[List.cons.injEq,and_true] at e0 e1;subst e0 e1;refine⟨⟨n0,n1⟩,trivial,fun j v hv=> ?_⟩;rcases j with _ | _ | j
   ·simp[encUse] at hv;subst hv;exact c0
   ·simp[encUse] at hv;subst hv;exact c1
   ·simp[encUse] at hv)
  subst hx1;exact⟨some a,cap,xs,rfl,hx2,hl,by unfold maxLen at hm;omega⟩
theorem open_spans {fuel:Nat} {cs:List Value} {x:DataW H×List MemPlace} (h:DataW.trod enc Tryz.prog W base spare held fuel 41 cs=some x) :
  ∃(A:Option Addr) (c:Nat) (l:List JSpan),cs=[.slice A l.length c]/\Sl W W.heap.size 2 encJSpan A l/\l.length<=c/\c<=9223372036854775807:=by
 rcases open_slice_fields Tryz.underlying41 Tryz.underlying50 (by kernel_rfl) (by kernel_rfl) h with⟨rfl,_⟩ | ⟨a,len,cap,rfl,hl,hm,hi⟩
 ·exact⟨none,0,[],rfl,Sl.nil,by simp,by decide⟩
 ·obtain⟨xs,hx1,hx2,_⟩:=mk_sl (enc:=encJSpan) (k:=2) (W:=W) (Q:=fun _=>True) (by decide) (fun _=>rfl) a len (fun i hi'=>by
   obtain⟨n,hf⟩:=hi i hi';obtain⟨v0,y0,c0,t0⟩:=hf 0 _ rfl;obtain⟨v1,y1,c1,t1⟩:=hf 1 _ rfl;obtain⟨n0,e0,_,_⟩:=DataW.trod_int Tryz.underlying3 t0;obtain⟨n1,e1,_,_⟩:=DataW.trod_int Tryz.underlying3 t1;simp only[List.cons.injEq,and_true] at e0 e1;subst e0 e1;refine⟨⟨n0,n1⟩,trivial,fun j v hv=> ?_⟩;rcases j with _ | _ | j
   ·simp[encJSpan] at hv;subst hv;exact c0
   ·simp[encJSpan] at hv;subst hv;exact c1
   ·simp[encJSpan] at hv)
  subst hx1;exact⟨some a,cap,xs,rfl,hx2,hl,by unfold maxLen at hm;omega⟩
theorem open_tasks {fuel:Nat} {cs:List Value} {x:DataW H×List MemPlace} (h:DataW.trod enc Tryz.prog W base spare held fuel 22 cs=some x) :
  ∃(A:Option Addr) (c:Nat) (l:List Task),cs=[.slice A l.length c]/\Sl W W.heap.size 4 encTask A l/\l.length<=c/\c<=9223372036854775807/\∀t∈l,TkIn W W.heap.size t/\TkNil t:=by
 rcases open_slice_fields Tryz.underlying22 Tryz.underlying46 (by kernel_rfl) (by kernel_rfl) h with⟨rfl,_⟩ | ⟨a,len,cap,rfl,hl,hm,hi⟩
 ·exact⟨none,0,[],rfl,Sl.nil,by simp,by decide,by simp⟩
 ·obtain⟨xs,hx1,hx2,hx3⟩:=mk_sl (enc:=encTask) (k:=4) (W:=W) (Q:=fun t=>TkIn W W.heap.size t/\TkNil t) (by decide) (fun _=>rfl) a len (fun i hi'=>by
   obtain⟨n,hf⟩:=hi i hi';obtain⟨v0,y0,c0,t0⟩:=hf 0 _ rfl;obtain⟨v1,y1,c1,t1⟩:=hf 1 _ rfl;obtain⟨v2,y2,c2,t2⟩:=hf 2 _ rfl;obtain⟨v3,y3,c3,t3⟩:=hf 3 _ rfl;obtain⟨n0,e0,_,hs0⟩:=DataW.trod_string Tryz.underlying9 t0;obtain⟨n1,e1,_,_⟩:=DataW.trod_int Tryz.underlying3 t1;obtain⟨A2,k2,l2,e2,s2,g2,m2⟩:=open_is t2;obtain⟨A3,k3,l3,e3,s3,g3,m3⟩:=open_uses t3;simp only[List.cons.injEq,and_true] at e0 e1 e2 e3;subst e0 e1 e2 e3;refine⟨⟨⟨n0,n1,l2,l3⟩,A2,k2,A3,k3⟩,⟨⟨hs0,s2,s3,g2,m2,g3,m3⟩,slice_nil Tryz.underlying26 t2,slice_nil Tryz.underlying44 t3⟩,fun j v hv=> ?_⟩;rcases j with _ | _ | _ | _ | j
   ·simp[encTask] at hv;subst hv;exact c0
   ·simp[encTask] at hv;subst hv;exact c1
   ·simp[encTask] at hv;subst hv;exact c2
   ·simp[encTask] at hv;subst hv;exact c3
   ·simp[encTask] at hv)
  subst hx1;exact⟨some a,cap,xs,rfl,hx2,hl,by unfold maxLen at hm;omega,hx3⟩
theorem open_ress {fuel:Nat} {cs:List Value} {x:DataW H×List MemPlace} (h:DataW.trod enc Tryz.prog W base spare held fuel 23 cs=some x) :
  ∃(A:Option Addr) (c:Nat) (l:List Res),cs=[.slice A l.length c]/\Sl W W.heap.size 3 encRes A l/\l.length<=c/\c<=9223372036854775807/\∀t∈l,RsIn W W.heap.size t/\RsNil t:=by
 rcases open_slice_fields Tryz.underlying23 Tryz.underlying43 (by kernel_rfl) (by kernel_rfl) h with⟨rfl,_⟩ | ⟨a,len,cap,rfl,hl,hm,hi⟩
 ·exact⟨none,0,[],rfl,Sl.nil,by simp,by decide,by simp⟩
 ·obtain⟨xs,hx1,hx2,hx3⟩:=mk_sl (enc:=encRes) (k:=3) (W:=W) (Q:=fun t=>RsIn W W.heap.size t/\RsNil t) (by decide) (fun _=>rfl) a len (fun i hi'=>by
   obtain⟨n,hf⟩:=hi i hi';obtain⟨v0,y0,c0,t0⟩:=hf 0 _ rfl;obtain⟨v1,y1,c1,t1⟩:=hf 1 _ rfl;obtain⟨v2,y2,c2,t2⟩:=hf 2 _ rfl;obtain⟨n0,e0,_,hs0⟩:=DataW.trod_string Tryz.underlying9 t0;obtain⟨n1,e1,_,_⟩:=DataW.trod_int Tryz.underlying3 t1;obtain⟨A2,k2,l2,e2,s2,g2,m2⟩:=open_spans t2;simp only[List.cons.injEq,and_true] at e0 e1 e2;subst e0 e1 e2;refine⟨⟨⟨n0,n1,l2⟩,A2,k2⟩,⟨⟨hs0,s2,g2,m2⟩,slice_nil Tryz.underlying41 t2⟩,fun j v hv=> ?_⟩;rcases j with _ | _ | _ | j
   ·simp[encRes] at hv;subst hv;exact c0
   ·simp[encRes] at hv;subst hv;exact c1
   ·simp[encRes] at hv;subst hv;exact c2
   ·simp[encRes] at hv)
  subst hx1;exact⟨some a,cap,xs,rfl,hx2,hl,by unfold maxLen at hm;omega,hx3⟩
theorem open_jobN {r:Reach} {b0:Nat} {v:Value} {d:DataW H} {p:List MemPlace} (hv:Value.okWide Tryz.prog W r b0 25 v) (h:DataW.Trod enc Tryz.prog W base spare held 25 v d p) :
  ∃j:Job,v=jobV j/\JIn W W.heap.size j/\(∀t∈j.tasks,TkNil t)/\∀t∈j.res,RsNil t:=by
 obtain⟨cs,rfl,hsz⟩:=okWide_struct Tryz.underlying25 hv;have hC:Tryz.prog.cellsOf 25=2:=by kernel_rfl
 have k3:Tryz.prog.cellsOf 22=1:=by kernel_rfl
 have k4:Tryz.prog.cellsOf 23=1:=by kernel_rfl
 obtain⟨l⟩:=cs
 match l,hsz.trans hC with
 | [c0,c1],_=>
  obtain⟨fuel,hf⟩:=h;obtain⟨xs,n,_,_,_,hlen,hg⟩:=DataW.trod_struct Tryz.underlying25 hf
  match xs,hlen with
  | [y0,y1],_=>
   have g0:DataW.trod enc Tryz.prog W base spare held n 22 (([c0,c1].drop 0).take (Tryz.prog.cellsOf 22))=some y0:=hg 0 _ rfl;have g1:DataW.trod enc Tryz.prog W base spare held n 23 (([c0,c1].drop 1).take (Tryz.prog.cellsOf 23))=some y1:=hg 1 _ rfl;rw[k3] at g0;rw[k4] at g1;obtain⟨TA,tc,ts,e0,s0,l0,m0,q0⟩:=open_tasks g0;obtain⟨RA,rc,rs,e1,s1,l1,m1,q1⟩:=open_ress g1;simp at e0 e1;subst e0 e1;exact⟨⟨TA,tc,ts,RA,rc,rs⟩,rfl,⟨s0,s1,l0,m0,l1,m1,fun t ht=>(q0 t ht).1,fun t ht=>(q1 t ht).1⟩,fun t ht=>(q0 t ht).2,fun t ht=>(q1 t ht).2⟩
theorem open_job {r:Reach} {b0:Nat} {v:Value} {d:DataW H} {p:List MemPlace} (hv:Value.okWide Tryz.prog W r b0 25 v) (h:DataW.Trod enc Tryz.prog W base spare held 25 v d p) :
  ∃j:Job,v=jobV j/\JIn W W.heap.size j:=by
 obtain⟨j,h1,h2,_⟩:=open_jobN hv h;exact⟨j,h1,h2⟩
end
end Go.Proofs.YtjpgnfekbojcaaaGreat
