/- The queue of moments: put and take. -/
import Derived.Test.YtjpgnfekbojcaaaGreatWQue
set_option maxHeartbeats 8000000
set_option maxRecDepth 100000
namespace Go.Proofs.YtjpgnfekbojcaaaGreat
open Go.RowKit W7 W8
attribute [local go_sem] Oper.semAt_some
theorem wpList_append_run {P:Program} {w w':World} {ops:Array Oper} {rest:List Oper} {o:Oper} {a:Act} {Q:Exit->Act->World->Prop} (hgd:o.guard=none) (s x:Operand) (t:TypeId)
  (ho:o.op= .call { callee:= .builtin .append,args:= #[s,x],argTypes:= #[t,t] }) {u y v:Value} (hs:a.eval s=u) (hx:a.eval x=y) (hr:(Builtin.append_ #[t,t] o.type #[u,y]).run P w= .ok v w')
  (h:wpList P ops Q rest (a.put o.dst v) w'):wpList P ops Q (o::rest) a w:=by
 refine wpList_plain hgd fun K hK=> ?_
 unfold Oper.wp execOp;simp only[ho,resolve,invoke,builtin,Sem.run_bind,Sem.run_pure,Result.andThen_ok,List.map_toArray,List.map_cons,List.map_nil,hs,hx,hr];exact hK _ _ h
theorem QRow.sl {X:World} {base:Nat} {v:Value} {ms:List (Nat×Int)} (h:QRow X base v ms):∃A c,v= .slice A ms.length c/\ms.length<=c/\c<=9223372036854775807:=by
 rcases h with⟨rfl,rfl⟩ | ⟨g,off,cap,cur,h1,h2,h3,h4,h5,h6⟩
 ·exact⟨none,0,rfl,by simp,by decide⟩
 ·exact⟨_,_,h1,h4,by rw[show maxLen=9223372036854775807 from rfl] at h5;exact h5⟩
theorem KeptS.below {X Y:World} {S:Nat->Prop} {B:Nat} (h:KeptS X Y S) (hB:B<=X.heap.size) (hS:∀i,S i->B<=i):Below B X Y:=⟨h.os,h.tape,h.output,h.size,fun i hi=>h.block i (Nat.lt_of_lt_of_le hi hB) (fun hs=>by have:=hS i hs;omega)⟩
structure PutR (base qb:Nat) (v:Value) (ms:List (Nat×Int)) (w:World) (e:Ending) (w':World):Prop where
 val:e= .returned (.tuple #[])
 ex:∃v',QIn w' base qb v' ms/\(v'.ownBlock=v.ownBlock\/∃g,v'.ownBlock=some g/\w.heap.size<=g)
 k:KeptS w w' (fun i=>i=qb\/v.ownBlock=some i)
theorem put_any (base qb:Nat) (v:Value) (ms:List (Nat×Int)) (k:Nat) (t:Int) (w:World) (h:QIn w base qb v ms) (hl:ms.length<=100000000) (hb:base<=w.heap.size) :
  Calls Tryz.prog 156 #[.pointer (some ⟨qb,0,none⟩),moV k t] w (PutR base qb v (ms++[(k,t)]) w):=by
 obtain⟨W0,hW0⟩:∃W0,W0=w.alloc (.cells #[.int .i64 (k:Int),.int .i64 t] 136):=⟨_,rfl⟩
 have hs0:W0.heap.size=w.heap.size+1:=by rw[hW0];simp
 have hB0:Bl w W0:=by rw[hW0];exact(Below.refl _ _).alloc (Nat.le_refl _) _
 have hX0:W0.heap[w.heap.size]? =some (.cells #[.int .i64 (k:Int),.int .i64 t] 136 (0,0)):=by rw[hW0];exact heap_alloc_new _ _
 have HQ0:=hI (show QIn W0 base qb v ms from⟨(hB0.block _ (blk_lt h.blk)).trans h.blk,h.row.kept (fun g hg=>hB0.block _ (h.row.lt hg).2.1)⟩);obtain⟨S,hS⟩:∃S:Nat->Prop,S=fun i=>i=qb\/v.ownBlock=some i:=⟨_,rfl⟩
 have hqs:=blk_lt h.blk;have hb0:base<=W0.heap.size:=by omega
 have HW0r:=hI (show ∀g:Nat,v.ownBlock=some g->g<W0.heap.size from fun g hg=>by have:=(h.row.lt hg).2.1;omega);have hne:∀g,v.ownBlock=some g->g=qb->False:=fun g hg he=>h.ne hg he
 have hSx: ¬S w.heap.size:=fun hs=>by
  rw[hS] at hs;rcases hs with hs | hs
  ·omega
  ·have:=(h.row.lt hs).2.1;omega
 have HBx:=hI (fun(e:SLater W0 S)=>(e.k.block w.heap.size (by omega) hSx).trans hX0);obtain⟨A0,c0,e0,hn0,hc0⟩:=h.row.sl;have HB0:=hI hB0;have HW0:=hI hW0;have Hh:=hI h;have q0:=W7.bc (j:=0) hX0 rfl;have q1:=W7.bc (j:=1) hX0 rfl;have hqW:qb<W0.heap.size:=by omega
 have HS:=hI hS;unfold moV;clear hW0 hB0 hX0 h hSx e0 hn0 hc0;go_enter Tryz.func156,Tryz.ntmps156;go_upto_region 1 with fail;rw[<- HW0.o]
 obtain⟨C,hC⟩:∃C:(Nat->Bool)->(Nat->Value)->World->Prop,C=fun L V w'=>∃(e:SLater W0 S) (pp:Nat),w'=e.w/\(L 10=false->Hid (e.w.heap[qb]? =some (.cells #[v] 204 (0,0))))/\(L 10=true->L 7=true)/\(L 7=true->L 4=true)/\(L 6=true->Hid (e.w.heap[pp]? =some (.cells #[.int .i64 (k:Int),.int .i64 t] 136 (0,0))/\W0.heap.size<=pp))/\(L 7=false->Hid (QRow e.w base v ms))/\(L 10=true->Hid (e.w.heap[qb]? =some (.cells #[V 7] 204 (0,0))))/\(L 7=true->L 6=true)/\(L 0=true->V 0= .pointer (some ⟨qb,0,none⟩))/\(L 1=true->V 1= .pointer (some ⟨qb,0,none⟩))/\(L 2=true->V 2= .pointer (some ⟨qb,0,none⟩))/\(L 3=true->V 3= .pointer (some ⟨qb,0,none⟩))/\(L 4=true->V 4=v)/\(L 5=true->V 5= .agg #[.int .i64 (k:Int),.int .i64 t])/\(L 6=true->V 6= .slice (some ⟨pp,0,none⟩) 1 1)/\(L 7=true->Hid (QRow e.w base (V 7) (ms++[(k,t)])/\((V 7).ownBlock=v.ownBlock\/∃g,(V 7).ownBlock=some g/\W0.heap.size<=g)))/\(L 8=true->V 8= .pointer (some ⟨qb,0,none⟩))/\(L 9=true->V 9= .pointer (some ⟨qb,0,none⟩))/\(L 10=true->L 10=true):=⟨_,rfl⟩
 have HC:=hI hC;clear hC;refine wp_region_opsA [4,5,6,7,8,9,10,11,12,13] C (by kernel_rfl) (by kernel_rfl) (by decide) (by kernel_rfl) (by kernel_rfl) ?_ ?_ ?_
 ·rw[HC.o];exact⟨⟨W0.drew,KeptS.of_below (Below.refl W0.heap.size W0).drew⟩,0,rfl,fun _=>hI HQ0.o.blk,nff,nff,nff,fun _=>hI (HQ0.o.row.kept (fun _ _=>rfl)),nff,nff,nff,nff,nff,nff,nff,nff,nff,nff,nff,nff,nff⟩
 ·rintro L V w' ii o AA hii ho hLi haf hInv hAA hFF;rw[HC.o] at hInv;obtain⟨e,pp,rfl,p0,p1,p2,p3,p4,p5,p6,h0,h1,h2,h3,h4,h5,h6,h7,h8,h9,h10⟩:=hInv;rcases ii with _ | _ | _ | _ | _ | _ | _ | _ | _ | _ | _ | ii;case succ.succ.succ.succ.succ.succ.succ.succ.succ.succ.succ=>(simp at hii;try omega)
  all_goals (simp only[List.getElem?_cons_zero,List.getElem?_cons_succ,Option.some.injEq] at ho;subst ho)
  all_goals clear hii
  ·have f0:AA.tmps[0]?.getD undef= .pointer (some ⟨qb,0,none⟩):=hFF.out 0 (by decide);go_wp2;rw[HC.o];exact⟨_,rfl,e,pp,rfl,p0,p1,p2,p3,p4,p5,p6,fun _=>rfl,h1,h2,h3,h4,h5,h6,h7,h8,h9,h10⟩
  ·have f0:AA.tmps[0]?.getD undef= .pointer (some ⟨qb,0,none⟩):=hFF.out 0 (by decide);go_wp2;rw[HC.o];exact⟨_,rfl,e,pp,rfl,p0,p1,p2,p3,p4,p5,p6,h0,fun _=>rfl,h2,h3,h4,h5,h6,h7,h8,h9,h10⟩
  ·have a1:=(hAA.out 1 5 rfl).trans (h1 (haf ⟨1,.data⟩ (by simp) rfl));go_wp2;rw[HC.o];exact⟨_,rfl,e,pp,rfl,p0,p1,p2,p3,p4,p5,p6,h0,h1,fun _=>rfl,h3,h4,h5,h6,h7,h8,h9,h10⟩
  ·have a2:=(hAA.out 2 6 rfl).trans (h2 (haf ⟨2,.data⟩ (by simp) rfl));go_wp2;rw[HC.o];exact⟨_,rfl,e,pp,rfl,p0,p1,p2,p3,p4,p5,p6,h0,h1,h2,fun _=>rfl,h4,h5,h6,h7,h8,h9,h10⟩
  ·have a3:=(hAA.out 3 7 rfl).trans (h3 (haf ⟨3,.data⟩ (by simp) rfl));have hL10:L 10=false:=(by cases h:L 10 with | false=>rfl | true=>exact absurd (hLi.symm.trans (p2 (p1 h))) (by decide))
   have z0:=bc (j:=0) (p0 hL10).out rfl;clear hL10;go_wp2;rw[HC.o];exact⟨_,rfl,e,pp,rfl,p0,p1,fun _=>rfl,p3,p4,p5,p6,h0,h1,h2,h3,fun _=>rfl,h5,h6,h7,h8,h9,h10⟩
  ·have f3:AA.tmps[3]?.getD undef= .pointer (some ⟨w.heap.size,0,none⟩):=hFF.out 3 (by decide);have z0:=bc (j:=0) (HBx.o e) rfl;have z1:=bc (j:=1) (HBx.o e) rfl;go_wp2;rw[HC.o];exact⟨_,rfl,e,pp,rfl,p0,p1,p2,p3,p4,p5,p6,h0,h1,h2,h3,h4,fun _=>rfl,h6,h7,h8,h9,h10⟩
  ·have a5:=(hAA.out 5 9 rfl).trans (h5 (haf ⟨5,.data⟩ (by simp) rfl));go_wp2;rw[HC.o];exact⟨_,rfl,⟨_,e.k.trans (KeptS.of_below ((Below.refl _ _).alloc (Nat.le_refl _) _))⟩,e.w.heap.size,rfl,fun z=>hI ((Below.heap_alloc _ _ _ (blk_lt (p0 z).out)).trans (p0 z).out),p1,p2,fun _=>hI ⟨heap_alloc_new _ _,e.k.size⟩,fun z=>hI ((p4 z).out.kept (fun g hg=>Below.heap_alloc _ _ _ ((p4 z).out.lt hg).2.1)),fun z=>absurd (hLi.symm.trans (p6 (p1 z))) (by decide),fun _=>rfl,h0,h1,h2,h3,h4,h5,fun _=>rfl,fun z=>absurd (hLi.symm.trans (p6 z)) (by decide),h8,h9,h10⟩
  ·have a4:=(hAA.out 4 8 rfl).trans (h4 (haf ⟨4,.data⟩ (by simp) rfl));have a6:=(hAA.out 6 10 rfl).trans (h6 (haf ⟨6,.data⟩ (by simp) rfl));obtain⟨v',w',hr,hq1,hq2,hq3⟩:=run_qput base 202 pp v ms k t 1 e.w (p4 hLi).out hl (Nat.le_trans hb0 e.k.size) (p3 (haf ⟨6,.data⟩ (by simp) rfl)).out.1;have Hq1:=hI hq1;have Hq2:=hI hq2;have Hq3:=hI hq3;have Hp0:=hI (show L 10=false from(by cases h:L 10 with | false=>rfl | true=>exact absurd (hLi.symm.trans (p1 h)) (by decide)));have HLi:=hI hLi;have hrw:=(p4 hLi).out;clear hq1 hq2 hq3;refine wpList_append_run rfl _ _ 202 rfl (by rw[<- a4];simp[Act.eval]) (by rw[<- a6];simp[Act.eval]) hr ?_;clear hr;go_wp2;rw[HC.o]
   exact⟨_,rfl,⟨_,e.k.trans (KeptS.of_grown Hq2.o (fun i hi=>by rw[HS.o];exact .inr hi))⟩,pp,rfl,fun z=>hI ((Hq2.o.block qb (blk_lt (p0 z).out) (fun e9=>hne _ e9.symm rfl)).trans (p0 z).out),fun _=>rfl,fun _=>haf ⟨4,.data⟩ (by simp) rfl,fun z=>hI ⟨(Hq2.o.block pp (blk_lt (p3 z).out.1) (fun e9=>by have h1:=(HW0r.o _ e9.symm);have h2:=(p3 z).out.2;omega)).trans (p3 z).out.1,(p3 z).out.2⟩,fun z=>absurd z (by simp),fun z=>absurd (Hp0.o.symm.trans z) (by decide),fun _=>haf ⟨6,.data⟩ (by simp) rfl,h0,h1,h2,h3,h4,h5,h6,fun _=>hI ⟨Hq1.o,Hq3.o.imp id (fun⟨g,h1,h2⟩=>⟨g,h1,Nat.le_trans e.k.size h2⟩)⟩,h8,h9,h10⟩
  ·have a0:=(hAA.out 0 4 rfl).trans (h0 (haf ⟨0,.data⟩ (by simp) rfl));go_wp2;rw[HC.o];exact⟨_,rfl,e,pp,rfl,p0,p1,p2,p3,p4,p5,p6,h0,h1,h2,h3,h4,h5,h6,h7,fun _=>rfl,h9,h10⟩
  ·have a8:=(hAA.out 8 12 rfl).trans (h8 (haf ⟨8,.data⟩ (by simp) rfl));go_wp2;rw[HC.o];exact⟨_,rfl,e,pp,rfl,p0,p1,p2,p3,p4,p5,p6,h0,h1,h2,h3,h4,h5,h6,h7,h8,fun _=>rfl,h10⟩
  ·have a9:=(hAA.out 9 13 rfl).trans (h9 (haf ⟨9,.data⟩ (by simp) rfl));have a7:=(hAA.out 7 11 rfl)
   have hq7:=(h7 (haf ⟨7,.data⟩ (by simp) rfl)).out;obtain⟨A7,c7,e7,hsl7⟩:=hq7.1.sl;rw[List.length_append] at e7;rw[e7] at a7;have hx:=(p0 hLi).out;have n0:=W7.bf (j:=0) hx;have z0:=bc (j:=0) hx rfl;have Hx:=hI hx;have Hq7:=hI hq7;have He7:=hI e7;clear hx hq7 hsl7;go_wp2;rw[HC.o]
   exact⟨rfl,undef,⟨_,e.k.trans (KeptS.of_grown (grown_setM e.w qb 0 (.slice A7 (ms.length+1) c7)) (fun i hi=>by rw[HS.o];exact .inl (Option.some.inj hi).symm))⟩,pp,rfl,fun z=>absurd z (by simp),fun _=>haf ⟨7,.data⟩ (by simp) rfl,p2,fun z=>hI ⟨(blk_set_ne (by have h1:=(p3 z).out.2;omega) _).trans (p3 z).out.1,(p3 z).out.2⟩,fun z=>absurd ((haf ⟨7,.data⟩ (by simp) rfl).symm.trans z) (by decide),fun _=>hI (by show(e.w.setCell ⟨qb,0,none⟩ _).heap[qb]? =_;rw[blk_set Hx.o];exact congrArg (fun x=>some (Obj.cells #[x] 204 (0,0))) He7.o.symm),p6,h0,h1,h2,h3,h4,h5,h6,fun z=>hI ⟨Hq7.o.1.kept (fun g hg=>by have h9:=(Hq7.o.1.lt hg).2.2;exact blk_set_ne (fun e9=>by obtain⟨cs,h9⟩:=h9;rw[<- e9,Hx.o] at h9;cases h9) _),Hq7.o.2⟩,h8,h9,fun _=>rfl⟩
 rintro L V w' hL hInv;rw[HC.o] at hInv;obtain⟨e,pp,rfl,p0,p1,p2,p3,p4,p5,p6,h0,h1,h2,h3,h4,h5,h6,h7,h8,h9,h10⟩:=hInv;have k0:=h0 (hL 0 (by simp));have k1:=h1 (hL 1 (by simp));have k2:=h2 (hL 2 (by simp));have k3:=h3 (hL 3 (by simp));have k4:=h4 (hL 4 (by simp));have k5:=h5 (hL 5 (by simp));have k6:=h6 (hL 6 (by simp));have k7:=h7 (hL 7 (by simp));have k8:=h8 (hL 8 (by simp));have k9:=h9 (hL 9 (by simp));have k10:=h10 (hL 10 (by simp));clear h0 h1 h2 h3 h4 h5 h6 h7 h8 h9 h10 hL HC;have HQ1:=hI (show QIn e.w base qb (V 7) (ms++[(k,t)]) from⟨(p5 k10).out,k7.out.1⟩);have HO1:=hI k7.out.2;have HK1:=hI e.k;generalize e.w=w1 at HQ1 HO1 HK1;generalize V 7=v7 at HQ1 HO1;clear k0 k1 k2 k3 k4 k5 k6 k7 k8 k9 k10 p0 p1 p2 p3 p4 p5 p6
 have HR:=hI (show PutR base qb v (ms++[(k,t)]) w (.returned (.tuple #[])) w1 from⟨rfl,⟨v7,HQ1.o,HO1.o.imp id (fun⟨g,h1,h2⟩=>⟨g,h1,by omega⟩)⟩,by
  have h1:=(KeptS.of_below (S:=S) HB0.o).trans HK1.o;rw[HS.o] at h1;exact h1⟩)
 go_wp2;go_end0;exact HR.o
theorem take0_any (base qb:Nat) (v:Value) (w:World) (h:QIn w base qb v []) :
  Calls Tryz.prog 157 #[.pointer (some ⟨qb,0,none⟩)] w fun e w'=>e= .returned (.tuple #[.agg #[.int .i64 0,.int .i64 0],.bool false])/\Bl w w':=by
 obtain⟨W0,HW0,hs0,HB0,HX00,HX01,HU0⟩:=boxes2 w (.cells #[.int .i64 0,.int .i64 0] 136) (.cells #[.int .i64 0,.int .i64 0] 136);obtain⟨A0,c0,ev,hn0,hc0⟩:=h.row.sl;have hblk:=(HB0.o.block _ (blk_lt h.blk)).trans h.blk;rw[ev] at hblk;have z0:=bc (j:=0) hblk rfl;have x1:=HX01.o W0 (Below.refl _ _);have x0:=HX00.o W0 (Below.refl _ _);obtain⟨X1,hX1⟩:∃X1,(W0.setCell ⟨w.heap.size,0,none⟩ (.int .i64 0)).setCell ⟨w.heap.size,1,none⟩ (.int .i64 0)=X1:=⟨_,rfl⟩
 have hG1:X1.heap[w.heap.size]? =some (.cells #[.int .i64 0,.int .i64 0] 136 (0,0)):=by rw[<- hX1,blk_set (blk_set x0 _)];rfl
 have HR:=hI (show Bl w X1 by rw[<- hX1];exact(HB0.o.setCell (p:=⟨w.heap.size,0,none⟩) (Nat.le_refl _) _).setCell (p:=⟨w.heap.size,1,none⟩) (Nat.le_refl _) _);have a0:=W7.bc (j:=0) x1 rfl;have a1:=W7.bc (j:=1) x1 rfl;have b0:=W7.bc (j:=0) x0 rfl;have b1:=W7.bc (j:=1) x0 rfl;have f0:=W7.bf (j:=0) x0;have f1:=W7.bf (j:=1) x0;have e0:=W7.bc (j:=0) hG1 rfl;have e1:=W7.bc (j:=1) hG1 rfl;have HX1:=hI hX1;clear h ev hblk x0 x1 hX1 hG1 hn0;go_enter Tryz.func157,Tryz.ntmps157;go_upto_region 2 with fail;rw[<- HW0.o];go_wp2;rw[HX1.o];refine bodyPost_ret (v:= .tuple #[.agg #[.int .i64 0,.int .i64 0],.bool false]) (by simp[results,Tryz.results157,go_sem,e0,e1]) rfl ?_;exact⟨rfl,HR.o⟩
structure TakeR (base qb:Nat) (v:Value) (k:Nat) (t:Int) (ms:List (Nat×Int)) (w:World) (e:Ending) (w':World):Prop where
 val:e= .returned (.tuple #[moV k t,.bool true])
 ex:∃v',QIn w' base qb v' ms/\v'.ownBlock=v.ownBlock
 k:KeptS w w' (fun i=>i=qb)
theorem take1_any (base qb:Nat) (v:Value) (k:Nat) (t:Int) (ms:List (Nat×Int)) (w:World) (h:QIn w base qb v ((k,t)::ms)) :
  Calls Tryz.prog 157 #[.pointer (some ⟨qb,0,none⟩)] w (TakeR base qb v k t ms w):=by
 obtain⟨W0,HW0,hs0,HB0,HX00,HX01,HU0⟩:=boxes2 w (.cells #[.int .i64 0,.int .i64 0] 136) (.cells #[.int .i64 0,.int .i64 0] 136);obtain⟨n,hn⟩:∃n,ms.length=n:=⟨_,rfl⟩
 have hqs:=blk_lt h.blk;rcases h.row with⟨h1,h2⟩ | ⟨g,off,cap,cur,h1,h2,h3,h4,h5,h6,h7⟩
 ·cases h2
 rw[List.length_cons,hn] at h1 h4;have hc63:cap<=9223372036854775807:=by rw[show maxLen=9223372036854775807 from rfl] at h5;exact h5
 have h70:=h7 0 (by simp);obtain⟨off',ho'⟩:∃x,(if cap=1 then off else off+2)=x:=⟨_,rfl⟩
 have Hsl:=hI (fun(X:World)=>by have h8:=slice1 g off n cap h4 hc63 X;rw[ho'] at h8;exact h8);obtain⟨n1,hn1⟩:∃x,n+1=x:=⟨_,rfl⟩
 have hn1z:((n1:Int)==0)=false:=beq_false_of_ne (by omega);have hn1p:0<n1:=by omega
 rw[hn1] at h1 h4 Hsl;have Hn1:=hI hn1;have hgl:=blk_lt h3;have hgq:g≠qb:=h.ne (by rw[h1];rfl);have HQ0:=hI (show QIn W0 base qb (.slice (some ⟨g,off,none⟩) n1 cap) ((k,t)::ms) from⟨by rw[<- h1];exact(HB0.o.block _ hqs).trans h.blk,by rw[<- h1];exact h.row.kept (fun i hi=>HB0.o.block _ (h.row.lt hi).2.1)⟩);obtain⟨S,hS⟩:∃S:Nat->Prop,S=fun i=>i=w.heap.size+1\/i=qb:=⟨_,rfl⟩
 have hqx:w.heap.size+1≠qb:=by omega
 have hnS:∀i,i<w.heap.size->i≠qb-> ¬S i:=fun i hi hne hs=>by
  rw[hS] at hs;rcases hs with hs | hs
  ·omega
  ·exact hne hs
 have HRk:=hI (fun(e:SLater W0 S)=>show e.w.heap[g]? =_ from(e.k.block g (by omega) (hnS g hgl hgq)).trans ((HB0.o.block g hgl).trans h3));have HRw0:=hI (fun(e:SLater W0 S)=>show e.w.cell? ⟨g,off,none⟩=some (.int .i64 (k:Int)) from bc (HRk.o e) h70.1);have HRw1:=hI (fun(e:SLater W0 S)=>show e.w.cell? ⟨g,off+1,none⟩=some (.int .i64 t) from bc (HRk.o e) h70.2)
 have HRow:=hI (fun(X:World) (hX:X.heap[g]? =some (.cells cur 136 (0,0)))=>show QRow X base (.slice (some ⟨g,off',none⟩) n (cap-1)) ms from .inr ⟨g,off',cap-1,cur,by rw[hn],h2,hX,by omega,by omega,by rw[<- ho'];split<;>omega,fun i hi=>by
  have h8:=h7 (i+1) (by simp;omega);rw[show((k,t)::ms).getD (i+1) default=ms.getD i default from rfl] at h8;have h9:off'=off+2:=by rw[<- ho',if_neg (by omega)]
  rw[h9,show off+2+i*2=off+(i+1)*2 by omega];exact h8⟩)
 have hns9:n1<=cap:=h4;have z0:=bc (j:=0) HQ0.o.blk rfl;have hb2:base<=g:=h2;have HS:=hI hS;have HG0:=hI ((HB0.o.block g hgl).trans h3);have Hv:=hI h1;clear h h3 h5 h6 h7 h70 ho' hn h1 hnS hS hn1;go_enter Tryz.func157,Tryz.ntmps157;go_upto_region 2 with fail;rw[<- HW0.o];go_upto_region 4 with fail;clear z0
 obtain⟨C,hC⟩:∃C:(Nat->Bool)->(Nat->Value)->World->Prop,C=fun L V w'=>∃(e:SLater W0 S),w'=e.w/\(L 15=false->Hid (e.w.heap[qb]? =some (.cells #[.slice (some ⟨g,off,none⟩) n1 cap] 204 (0,0))))/\(L 15=true->L 4=true)/\(L 15=true->L 10=true)/\(L 11=true->L 10=true)/\Hid (∃y z:Value,e.w.heap[w.heap.size+1]? =some (.cells #[y,z] 136 (0,0))/\(L 12=true->y= .int .i64 (k:Int)/\z= .int .i64 t))/\(L 15=true->Hid (e.w.heap[qb]? =some (.cells #[.slice (some ⟨g,off',none⟩) n (cap-1)] 204 (0,0))))/\(L 0=true->V 0= .pointer (some ⟨qb,0,none⟩))/\(L 1=true->V 1= .pointer (some ⟨qb,0,none⟩))/\(L 2=true->V 2= .pointer (some ⟨qb,0,none⟩))/\(L 3=true->V 3= .pointer (some ⟨qb,0,none⟩))/\(L 4=true->V 4= .slice (some ⟨g,off,none⟩) n1 cap)/\(L 5=true->V 5= .pointer (some ⟨g,off,none⟩))/\(L 6=true->V 6= .agg #[.int .i64 (k:Int),.int .i64 t])/\(L 7=true->V 7= .pointer (some ⟨qb,0,none⟩))/\(L 8=true->V 8= .pointer (some ⟨qb,0,none⟩))/\(L 9=true->V 9= .pointer (some ⟨qb,0,none⟩))/\(L 10=true->V 10= .slice (some ⟨g,off,none⟩) n1 cap)/\(L 11=true->V 11= .slice (some ⟨g,off',none⟩) n (cap-1))/\(L 12=true->L 12=true)/\(L 13=true->V 12= .pointer (some ⟨qb,0,none⟩))/\(L 14=true->V 13= .pointer (some ⟨qb,0,none⟩))/\(L 15=true->L 15=true):=⟨_,rfl⟩
 have HC:=hI hC;clear hC;refine wp_region_opsA [12,13,14,15,16,17,18,19,20,21,22,23,24,25] C (by kernel_rfl) (by kernel_rfl) (by decide) (by kernel_rfl) (by kernel_rfl) ?_ ?_ ?_
 ·rw[HC.o];exact⟨⟨W0.drew,KeptS.of_below (Below.refl W0.heap.size W0).drew⟩,rfl,fun _=>hI HQ0.o.blk,nff,nff,nff,hI ⟨_,_,(HX01.o W0 (Below.refl _ _)),nff⟩,nff,nff,nff,nff,nff,nff,nff,nff,nff,nff,nff,nff,nff,nff,nff,nff,nff⟩
 ·rintro L V w' ii o AA hii ho hLi haf hInv hAA hFF;rw[HC.o] at hInv;obtain⟨e,rfl,p0,p1,p2,p3,p4,p5,h0,h1,h2,h3,h4,h5,h6,h7,h8,h9,h10,h11,h12,h13,h14,h15⟩:=hInv;rcases ii with _ | _ | _ | _ | _ | _ | _ | _ | _ | _ | _ | _ | _ | _ | _ | _ | ii;case succ.succ.succ.succ.succ.succ.succ.succ.succ.succ.succ.succ.succ.succ.succ.succ=>(simp at hii;try omega)
  all_goals (simp only[List.getElem?_cons_zero,List.getElem?_cons_succ,Option.some.injEq] at ho;subst ho)
  all_goals clear hii
  ·have f0:AA.tmps[0]?.getD undef= .pointer (some ⟨qb,0,none⟩):=hFF.out 0 (by decide);go_wp2;rw[HC.o];exact⟨_,rfl,e,rfl,p0,p1,p2,p3,p4,p5,fun _=>rfl,h1,h2,h3,h4,h5,h6,h7,h8,h9,h10,h11,h12,h13,h14,h15⟩
  ·have f0:AA.tmps[0]?.getD undef= .pointer (some ⟨qb,0,none⟩):=hFF.out 0 (by decide);go_wp2;rw[HC.o];exact⟨_,rfl,e,rfl,p0,p1,p2,p3,p4,p5,h0,fun _=>rfl,h2,h3,h4,h5,h6,h7,h8,h9,h10,h11,h12,h13,h14,h15⟩
  ·have a1:=(hAA.out 1 13 rfl).trans (h1 (haf ⟨1,.data⟩ (by simp) rfl));go_wp2;rw[HC.o];exact⟨_,rfl,e,rfl,p0,p1,p2,p3,p4,p5,h0,h1,fun _=>rfl,h3,h4,h5,h6,h7,h8,h9,h10,h11,h12,h13,h14,h15⟩
  ·have a2:=(hAA.out 2 14 rfl).trans (h2 (haf ⟨2,.data⟩ (by simp) rfl));go_wp2;rw[HC.o];exact⟨_,rfl,e,rfl,p0,p1,p2,p3,p4,p5,h0,h1,h2,fun _=>rfl,h4,h5,h6,h7,h8,h9,h10,h11,h12,h13,h14,h15⟩
  ·have a3:=(hAA.out 3 15 rfl).trans (h3 (haf ⟨3,.data⟩ (by simp) rfl));have hL15:L 15=false:=(by cases h:L 15 with | false=>rfl | true=>exact absurd (hLi.symm.trans (p1 h)) (by decide))
   have z0:=bc (j:=0) (p0 hL15).out rfl;clear hL15;go_wp2;rw[HC.o];exact⟨_,rfl,e,rfl,p0,fun _=>rfl,p2,p3,p4,p5,h0,h1,h2,h3,fun _=>rfl,h5,h6,h7,h8,h9,h10,h11,h12,h13,h14,h15⟩
  ·have a4:=(hAA.out 4 16 rfl).trans (h4 (haf ⟨4,.data⟩ (by simp) rfl));go_wp2;rw[HC.o];exact⟨_,rfl,e,rfl,p0,p1,p2,p3,p4,p5,h0,h1,h2,h3,h4,fun _=>rfl,h6,h7,h8,h9,h10,h11,h12,h13,h14,h15⟩
  ·have a5:=(hAA.out 5 17 rfl).trans (h5 (haf ⟨5,.data⟩ (by simp) rfl));have z0:=HRw0.o e;have z1:=HRw1.o e;go_wp2;rw[HC.o];exact⟨_,rfl,e,rfl,p0,p1,p2,p3,p4,p5,h0,h1,h2,h3,h4,h5,fun _=>rfl,h7,h8,h9,h10,h11,h12,h13,h14,h15⟩
  ·have f0:AA.tmps[0]?.getD undef= .pointer (some ⟨qb,0,none⟩):=hFF.out 0 (by decide);go_wp2;rw[HC.o];exact⟨_,rfl,e,rfl,p0,p1,p2,p3,p4,p5,h0,h1,h2,h3,h4,h5,h6,fun _=>rfl,h8,h9,h10,h11,h12,h13,h14,h15⟩
  ·have a7:=(hAA.out 7 19 rfl).trans (h7 (haf ⟨7,.data⟩ (by simp) rfl));go_wp2;rw[HC.o];exact⟨_,rfl,e,rfl,p0,p1,p2,p3,p4,p5,h0,h1,h2,h3,h4,h5,h6,h7,fun _=>rfl,h9,h10,h11,h12,h13,h14,h15⟩
  ·have a8:=(hAA.out 8 20 rfl).trans (h8 (haf ⟨8,.data⟩ (by simp) rfl));go_wp2;rw[HC.o];exact⟨_,rfl,e,rfl,p0,p1,p2,p3,p4,p5,h0,h1,h2,h3,h4,h5,h6,h7,h8,fun _=>rfl,h10,h11,h12,h13,h14,h15⟩
  ·have a9:=(hAA.out 9 21 rfl).trans (h9 (haf ⟨9,.data⟩ (by simp) rfl));have hL15:L 15=false:=(by cases h:L 15 with | false=>rfl | true=>exact absurd (hLi.symm.trans (p2 h)) (by decide))
   have z0:=bc (j:=0) (p0 hL15).out rfl;clear hL15;go_wp2;rw[HC.o];exact⟨_,rfl,e,rfl,p0,p1,fun _=>rfl,fun _=>rfl,p4,p5,h0,h1,h2,h3,h4,h5,h6,h7,h8,h9,fun _=>rfl,h11,h12,h13,h14,h15⟩
  ·have a10:=(hAA.out 10 22 rfl).trans (h10 (haf ⟨10,.data⟩ (by simp) rfl));have hsl:=Hsl.o e.w;go_wp2;rw[HC.o];exact⟨_,rfl,e,rfl,p0,p1,p2,fun _=>haf ⟨10,.data⟩ (by simp) rfl,p4,p5,h0,h1,h2,h3,h4,h5,h6,h7,h8,h9,h10,fun _=>rfl,h12,h13,h14,h15⟩
  ·have a6:=(hAA.out 6 18 rfl).trans (h6 (haf ⟨6,.data⟩ (by simp) rfl));have f4:AA.tmps[4]?.getD undef= .pointer (some ⟨w.heap.size+1,0,none⟩):=hFF.out 4 (by decide);obtain⟨y,z,hx,hz⟩:=p4.out;have z0:=bc (j:=0) hx rfl;have z1:=bc (j:=1) hx rfl;have n0:=W7.bf (j:=0) hx;have n1:=W7.bf (j:=1) hx;have Hx:=hI hx;clear hx hz;go_wp2;rw[HC.o]
   exact⟨rfl,undef,⟨_,(e.k.trans (KeptS.of_grown (grown_setM e.w (w.heap.size+1) 0 _) (fun i hi=>by rw[HS.o];exact .inl (Option.some.inj hi).symm))).trans (KeptS.of_grown (grown_setM _ (w.heap.size+1) 1 _) (fun i hi=>by rw[HS.o];exact .inl (Option.some.inj hi).symm))⟩,rfl,fun z=>hI ((blk_set_ne hqx _).trans ((blk_set_ne hqx _).trans (p0 z).out)),p1,p2,p3,hI ⟨.int .i64 (k:Int),.int .i64 t,(by show((e.w.setCell ⟨w.heap.size+1,0,none⟩ _).setCell ⟨w.heap.size+1,1,none⟩ _).heap[w.heap.size+1]? =_;rw[blk_set (blk_set Hx.o _)];rfl),fun _=>⟨rfl,rfl⟩⟩,fun z=>hI ((blk_set_ne hqx _).trans ((blk_set_ne hqx _).trans (p5 z).out)),h0,h1,h2,h3,h4,h5,h6,h7,h8,h9,h10,h11,fun _=>rfl,h13,h14,h15⟩
  ·have a0:=(hAA.out 0 12 rfl).trans (h0 (haf ⟨0,.data⟩ (by simp) rfl));go_wp2;rw[HC.o];exact⟨_,rfl,e,rfl,p0,p1,p2,p3,p4,p5,h0,h1,h2,h3,h4,h5,h6,h7,h8,h9,h10,h11,h12,fun _=>rfl,h14,h15⟩
  ·have a13:=(hAA.out 12 24 rfl).trans (h13 (haf ⟨13,.data⟩ (by simp) rfl));go_wp2;rw[HC.o];exact⟨_,rfl,e,rfl,p0,p1,p2,p3,p4,p5,h0,h1,h2,h3,h4,h5,h6,h7,h8,h9,h10,h11,h12,h13,fun _=>rfl,h15⟩
  ·have a14:=(hAA.out 13 25 rfl).trans (h14 (haf ⟨14,.data⟩ (by simp) rfl));have a11:=(hAA.out 11 23 rfl).trans (h11 (haf ⟨11,.data⟩ (by simp) rfl));have hx:=(p0 hLi).out;have n0:=W7.bf (j:=0) hx;have z0:=bc (j:=0) hx rfl;have Hx:=hI hx;clear hx;go_wp2;rw[HC.o];exact⟨rfl,undef,⟨_,e.k.trans (KeptS.of_grown (grown_setM e.w qb 0 _) (fun i hi=>by rw[HS.o];exact .inr (Option.some.inj hi).symm))⟩,rfl,fun z=>absurd z (by simp),fun _=>haf ⟨4,.phase⟩ (by simp) rfl,fun _=>p3 (haf ⟨11,.data⟩ (by simp) rfl),p3,(by obtain⟨y,z,hx,hz⟩:=p4.out;exact hI ⟨y,z,(blk_set_ne hqx.symm _).trans hx,hz⟩),fun _=>hI (by show(e.w.setCell ⟨qb,0,none⟩ _).heap[qb]? =_;rw[blk_set Hx.o];rfl),h0,h1,h2,h3,h4,h5,h6,h7,h8,h9,h10,h11,h12,h13,h14,fun _=>rfl⟩
 rintro L V w' hL hInv;rw[HC.o] at hInv;obtain⟨e,rfl,p0,p1,p2,p3,p4,p5,h0,h1,h2,h3,h4,h5,h6,h7,h8,h9,h10,h11,h12,h13,h14,h15⟩:=hInv;have k0:=h0 (hL 0 (by simp));have k1:=h1 (hL 1 (by simp));have k2:=h2 (hL 2 (by simp));have k3:=h3 (hL 3 (by simp));have k4:=h4 (hL 4 (by simp));have k5:=h5 (hL 5 (by simp));have k6:=h6 (hL 6 (by simp));have k7:=h7 (hL 7 (by simp));have k8:=h8 (hL 8 (by simp));have k9:=h9 (hL 9 (by simp));have k10:=h10 (hL 10 (by simp));have k11:=h11 (hL 11 (by simp));have k12:=h12 (hL 12 (by simp));have k13:=h13 (hL 13 (by simp));have k14:=h14 (hL 14 (by simp));have k15:=h15 (hL 15 (by simp));clear h0 h1 h2 h3 h4 h5 h6 h7 h8 h9 h10 h11 h12 h13 h14 h15 hL HC;obtain⟨y,z,hxx,hz⟩:=p4.out;obtain⟨rfl,rfl⟩:=hz k12;have HQB:=hI (p5 k15).out;have HK1:=hI e.k;generalize e.w=w1 at hxx HQB HK1;clear k0 k1 k2 k3 k4 k5 k6 k7 k8 k9 k10 k11 k12 k13 k14 k15 p0 p1 p2 p3 p4 p5 hz
 simp only[putAll];go_frame;have x0:=(HK1.o.block w.heap.size (by omega) (by rw[HS.o];intro hs;rcases hs with hs | hs<;>omega)).trans (HX00.o W0 (Below.refl _ _));obtain⟨X1,hX1⟩:∃X1,(w1.setCell ⟨w.heap.size,0,none⟩ (.int .i64 (k:Int))).setCell ⟨w.heap.size,1,none⟩ (.int .i64 t)=X1:=⟨_,rfl⟩
 have hG1:X1.heap[w.heap.size]? =some (.cells #[.int .i64 (k:Int),.int .i64 t] 136 (0,0)):=by rw[<- hX1,blk_set (blk_set x0 _)];rfl
 have HR:=hI (show TakeR base qb v k t ms w (.returned (.tuple #[.agg #[.int .i64 (k:Int),.int .i64 t],.bool true])) X1 from by
  have hq:X1.heap[qb]? =w1.heap[qb]? :=by rw[<- hX1,blk_set_ne (by omega),blk_set_ne (by omega)]
  have hgg:X1.heap[g]? =some (.cells cur 136 (0,0)):=by
   rw[<- hX1,blk_set_ne (by omega),blk_set_ne (by omega)];exact(HK1.o.block g (by omega) (by rw[HS.o];intro hs;rcases hs with hs | hs<;>omega)).trans HG0.o
  refine⟨rfl,⟨_,⟨hq.trans HQB.o,HRow.o X1 hgg⟩,by rw[Hv.o];rfl⟩,?_⟩;have h1:KeptS W0 w1 (fun i=>i=w.heap.size+1\/i=qb):=by have h2:=HK1.o;rw[HS.o] at h2;exact h2
  refine⟨by rw[<- hX1];exact h1.os.trans HB0.o.os,by rw[<- hX1];exact h1.tape.trans HB0.o.tape,by rw[<- hX1];exact h1.output.trans HB0.o.output,by rw[<- hX1];simp[World.setCell];have:=h1.size;omega,fun i hi hne=> ?_⟩;rw[<- hX1,blk_set_ne (by omega),blk_set_ne (by omega)];exact(h1.block i (by omega) (fun hs=>by rcases hs with hs | hs;omega;exact hne hs)).trans (HB0.o.block i hi))
 have a0:=W7.bc (j:=0) hxx rfl;have a1:=W7.bc (j:=1) hxx rfl;have b0:=W7.bc (j:=0) x0 rfl;have b1:=W7.bc (j:=1) x0 rfl;have f0:=W7.bf (j:=0) x0;have f1:=W7.bf (j:=1) x0;have e0:=W7.bc (j:=0) hG1 rfl;have e1:=W7.bc (j:=1) hG1 rfl;have HX1:=hI hX1;clear hxx x0 hX1 hG1;go_wp2;rw[HX1.o];refine bodyPost_ret (v:= .tuple #[.agg #[.int .i64 (k:Int),.int .i64 t],.bool true]) (by simp[results,Tryz.results157,go_sem,e0,e1]) rfl ?_;exact HR.o
end Go.Proofs.YtjpgnfekbojcaaaGreat
