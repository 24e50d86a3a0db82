/- Stays: what their rules say of a stay with those of the same worker ahead of it. -/
import Derived.Test.YtjpgnfekbojcaaaGreatWOwn
import Derived.Test.YtjpgnfekbojcaaaGreatRange
set_option maxHeartbeats 4000000
set_option maxRecDepth 100000
namespace Go.Proofs.YtjpgnfekbojcaaaGreat
open Go.RowKit W7 W8
attribute [local go_sem] Oper.semAt_some
def encDive (d:Dive):List Value:=[.string d.who,.int .i64 d.pr,.int .i64 d.tin,.int .i64 d.leave,.int .i64 d.out]
def stayV (t:Table) (d:Dive) (A:Option Addr) (n c:Nat):Value:= .agg #[.slice t.A t.rows.length t.c,.int .i64 t.rest,.int .i64 t.day,.string d.who,.int .i64 d.pr,.int .i64 d.tin,.int .i64 d.leave,.int .i64 d.out,.slice A n c]
def stayO (t:Table) (d:Dive) (A:Option Addr) (n c:Nat):Obj:= .cells #[.slice t.A t.rows.length t.c,.int .i64 t.rest,.int .i64 t.day,.string d.who,.int .i64 d.pr,.int .i64 d.tin,.int .i64 d.leave,.int .i64 d.out,.slice A n c] 157
theorem inOrder_any (t:Table) (d:Dive) (A:Option Addr) (n c:Nat) (w:World):Calls Tryz.prog 196 #[stayV t d A n c] w fun e w'=>e= .returned (.bool (ordB d))/\Bl w w':=by
 unfold stayV ordB;cases h1:decide (d.tin<d.leave)
 ·go_enter Tryz.func196,Tryz.ntmps196;go_wp2;go_ret;exact⟨rfl,(by(repeat (refine Below.alloc ?_ (by first | exact zm _ | omega | (simp;done) | (simp;omega)) _));exact zX _ _)⟩
 cases h2:decide (d.leave<=d.out)
 ·go_enter Tryz.func196,Tryz.ntmps196;go_wp2;go_ret;exact⟨rfl,(by(repeat (refine Below.alloc ?_ (by first | exact zm _ | omega | (simp;done) | (simp;omega)) _));exact zX _ _)⟩
 ·go_enter Tryz.func196,Tryz.ntmps196;go_wp2;go_ret;exact⟨rfl,(by(repeat (refine Below.alloc ?_ (by first | exact zm _ | omega | (simp;done) | (simp;omega)) _));exact zX _ _)⟩
theorem counted_any (t:Table) (d:Dive) (A:Option Addr) (n c B:Nat) (w:World) (ht:TIn w B t) (hB:B<=w.heap.size) (hl:t.rows.length<=1000000000) (hd:OkDive d) :
  Calls Tryz.prog 197 #[stayV t d A n c] w fun e w'=>e= .returned (.bool (cntB t d))/\Bl w w':=by
 obtain⟨W0,hW0⟩:=eY (w.alloc (stayO t d A n c));unfold stayO at hW0;have hs0:W0.heap.size=w.heap.size+1:=by rw[hW0];simp
 have HB0:=hI (show Bl w W0 by rw[hW0];exact(zX _ _).alloc (zm _) _);have h0:W0.heap[w.heap.size]? =some (stayO t d A n c):=by rw[hW0];exact zW _ _
 unfold stayO at h0;have q0:W0.cell? ⟨w.heap.size,0,none⟩=some (.slice t.A t.rows.length t.c):=by simp only[World.cell?,h0];rfl
 have q1:W0.cell? ⟨w.heap.size,1,none⟩=some (.int .i64 t.rest):=by simp only[World.cell?,h0];rfl
 have q2:W0.cell? ⟨w.heap.size,2,none⟩=some (.int .i64 t.day):=by simp only[World.cell?,h0];rfl
 have q4:W0.cell? ⟨w.heap.size,4,none⟩=some (.int .i64 d.pr):=by simp only[World.cell?,h0];rfl
 have q5:W0.cell? ⟨w.heap.size,5,none⟩=some (.int .i64 d.tin):=by simp only[World.cell?,h0];rfl
 have q6:W0.cell? ⟨w.heap.size,6,none⟩=some (.int .i64 d.leave):=by simp only[World.cell?,h0];rfl
 have hd1:=hd.tin;have hd2:=hd.leave;have HK:=hI (counts_any t d.pr (d.leave-d.tin) B W0 (ht.below (HB0.o.mono hB)) (by omega) hl);unfold tabV at HK;have HW0:=hI hW0;have HC:=hI (show cntB t d=(cntRow t d.pr (d.leave-d.tin)).isSome from rfl);rw[<- HC.o] at HK;clear hW0 h0 ht hd;unfold stayV;go_enter Tryz.func197,Tryz.ntmps197;go_upto_region 1 with fail;rw[<- HW0.o];go_wp2_with (go_at_call 104;refine HK.o.mono ?_;rintro e w2 ⟨rfl,hb2⟩;have Hb2:=hI (HB0.o.trans (hb2.mono (by omega)));clear hb2;unfold rowV);go_ret;exact⟨rfl,Hb2.o.alloc (by have:=Hb2.o.size;omega) _⟩
theorem stayOut_any (t:Table) (d:Dive) (A:Option Addr) (n c B:Nat) (w:World) (ht:TIn w B t) (hB:B<=w.heap.size) (hl:t.rows.length<=1000000000) (hd:OkDive d) :
  Calls Tryz.prog 198 #[stayV t d A n c] w fun e w'=>e= .returned (.bool (outB t d))/\Bl w w':=by
 obtain⟨W0,hW0⟩:=eY (w.alloc (stayO t d A n c));unfold stayO at hW0;have hs0:W0.heap.size=w.heap.size+1:=by rw[hW0];simp
 have HB0:=hI (show Bl w W0 by rw[hW0];exact(zX _ _).alloc (zm _) _);have h0:W0.heap[w.heap.size]? =some (stayO t d A n c):=by rw[hW0];exact zW _ _
 have H0:=hI h0;unfold stayO at h0;have q0:W0.cell? ⟨w.heap.size,0,none⟩=some (.slice t.A t.rows.length t.c):=by simp only[World.cell?,h0];rfl
 have q1:W0.cell? ⟨w.heap.size,1,none⟩=some (.int .i64 t.rest):=by simp only[World.cell?,h0];rfl
 have q2:W0.cell? ⟨w.heap.size,2,none⟩=some (.int .i64 t.day):=by simp only[World.cell?,h0];rfl
 have q4:W0.cell? ⟨w.heap.size,4,none⟩=some (.int .i64 d.pr):=by simp only[World.cell?,h0];rfl
 have q5:W0.cell? ⟨w.heap.size,5,none⟩=some (.int .i64 d.tin):=by simp only[World.cell?,h0];rfl
 have q6:W0.cell? ⟨w.heap.size,6,none⟩=some (.int .i64 d.leave):=by simp only[World.cell?,h0];rfl
 have hd1:=hd.tin;have hd2:=hd.leave;have hd3:=hd.out;have HK:=hI (counts_any t d.pr (d.leave-d.tin) B W0 (ht.below (HB0.o.mono hB)) (by omega) hl);unfold tabV at HK;have HW0:=hI hW0;have HC:=hI (show outB t d=decide (((cntRow t d.pr (d.leave-d.tin)).getD ⟨0,0,0⟩).out<=d.out-d.leave) from rfl);generalize (cntRow t d.pr (d.leave-d.tin)).getD ⟨0,0,0⟩=r at HK HC;clear hW0 h0 ht hd;unfold stayV;go_enter Tryz.func198,Tryz.ntmps198;go_upto_region 1 with fail;rw[<- HW0.o];go_wp2_with (go_at_call 104;fail);refine HK.o.mono ?_;rintro e w2 ⟨rfl,hb2⟩;have Hb2:=hI (HB0.o.trans (hb2.mono (by omega)));have h2:w2.heap[w.heap.size]? =some (stayO t d A n c):=(hb2.block _ (by omega)).trans H0.o;unfold stayO at h2;have p6:w2.cell? ⟨w.heap.size,6,none⟩=some (.int .i64 d.leave):=by simp only[World.cell?,h2];rfl
 have p7:w2.cell? ⟨w.heap.size,7,none⟩=some (.int .i64 d.out):=by simp only[World.cell?,h2];rfl
 have hs2:w.heap.size<w2.heap.size:=by have:=hb2.size;omega
 clear hb2 h2 q0 q1 q2 q4 q5 q6 HK;unfold rowV;go_upto_region 2 with fail;obtain⟨W2,hW2⟩:=eY (w2.alloc (.cells #[.int .i64 r.pr,.int .i64 r.mi,.int .i64 r.out] 89));rw[<- hW2];have p6':W2.cell? ⟨w.heap.size,6,none⟩=some (.int .i64 d.leave):=by rw[hW2];exact(((zX w2.heap.size w2).alloc (zm _) _).cell (p:=⟨w.heap.size,6,none⟩) hs2).trans p6
 have p7':W2.cell? ⟨w.heap.size,7,none⟩=some (.int .i64 d.out):=by rw[hW2];exact(((zX w2.heap.size w2).alloc (zm _) _).cell (p:=⟨w.heap.size,7,none⟩) hs2).trans p7
 have r2:W2.cell? ⟨w2.heap.size,2,none⟩=some (.int .i64 r.out):=by rw[hW2];exact alloc_cell rfl
 have HB2:=hI (show Bl w W2 by rw[hW2];exact Hb2.o.alloc (by omega) _);clear hW2 p6 p7;go_wp2;go_ret;exact⟨ret_bool HC.o.symm,HB2.o⟩
theorem elemDi:Elem Tryz.prog 75 84 (.agg #[.string ByteArray.empty,.int .i64 0,.int .i64 0,.int .i64 0,.int .i64 0]) 5 48:=Elem.mk' Tryz.underlying75 (by kernel_rfl) rfl (by decide) (by decide)
theorem lenDi (d:Dive):(encDive d).length=5:=rfl
theorem flat_lenDi (l:List Dive):(l.flatMap encDive).length=l.length*5:=by
 induction l with
 | nil=>rfl
 | cons a r ih=>rw[List.flatMap_cons,zF,ih,lenDi,List.length_cons];omega
theorem src_of_sl {w:World} {B n:Nat} {l:List Dive} {ad:Addr} (h:Sl w B 5 encDive (some ad) l) (hn:n=l.length):Src w 5 (some ad) n (l.flatMap encDive):=by
 refine .inr ⟨ad,rfl,by rw[flat_lenDi,hn],fun j u hu=> ?_⟩
 have hj:j<l.length*5:=by
  have:=(List.getElem?_eq_some_iff.1 hu).1
  rwa [flat_lenDi] at this
 obtain⟨b,off,e1,_,hc⟩:=h (by omega);cases e1;have hi:j/5<l.length:=by omega
 have hu2:(encDive l[j/5])[j%5]? =some u:=by
  rw[<- flat_get lenDi l (j/5) (j%5) hi (by omega),show j/5*5+j%5=j by omega];exact hu
 have h1:=hc (j/5) hi (j%5) u hu2
 have h2:(⟨b,off,none⟩:Addr).add j=⟨b,off+j/5*5+j%5,none⟩:=by
  rw[show off+j/5*5+j%5=off+j by omega];unfold Addr.add
  split<;>simp_all
 rw[h2];exact h1
theorem cloneDive_any (l:List Dive) (A:Option Addr) (n c:Nat) (w:World) (hn:n=l.length) (hA:Sl w w.heap.size 5 encDive A l) (hz:A=none->n=0/\c=0) (hl:n<=10000000) :
  Calls Tryz.prog 112 #[.slice A n c] w fun e w'=>∃v,e= .returned v/\w'.ownsRow w.heap.size 84 5 v n (l.flatMap encDive)/\Bl w w':=by
 have heq:=fun(w:World) (a:Option Addr) (n c:Nat)=>Lib.run_eql_slice_nil (P:=Tryz.prog) w 75 84 a n c 0 0 Tryz.underlying75
 cases A with
 | none=>
  obtain⟨rfl,rfl⟩:=hz rfl;have hln:l=[]:=List.length_eq_zero_iff.1 hn.symm;subst hln;clear hA hn hl hz;go_enter Tryz.func112,Tryz.ntmps112;go_wp2;go_ret;exact⟨_,rfl,zU _ _ _ _,zX _ _⟩
 | some ad=>
  have HS:=hI (src_of_sl (w:=w.alloc (.cells #[] 84)) (ad:=ad) (hA.below ((zX _ _).alloc (zm _) _)) hn)
  have Hone:Hid (∀u∈l.flatMap encDive,u.oneCell'=true):=by
   intro u hu;obtain⟨x,_,hx⟩:=List.mem_flatMap.1 hu;simp only[encDive,List.mem_cons,List.not_mem_nil,or_false] at hx;rcases hx with rfl | rfl | rfl | rfl | rfl<;>rfl
  have HO:=hI (World.ownsRow_lit (base:=w.heap.size) (e:=84) (size:=5) w #[] 0 (zm _) (by unfold maxLen;omega) rfl);clear hA hz hn;go_enter Tryz.func112,Tryz.ntmps112;go_wp2_with (at_builtin;refine wpList_appendL rfl _ _ 75 rfl w.heap.size 84 _ 5 48 elemDi _ _ _ rfl HO.o _ _ _ _ rfl HS.o Hone.o (by omega) (by simp) ?_;intro v1 w1 hown1 hb1 hsz1 hg1 hblk1;have Hown1:=hI hown1;have Hb1:=hI hb1;have Hsz1:=hI hsz1;clear hown1 hb1 hsz1 hg1 hblk1);go_ret;exact⟨_,rfl,by have:=Hown1.o;simpa using this,((zX _ _).alloc (zm _) _).trans Hb1.o⟩
theorem rested_any (t:Table) (d:Dive) (l:List Dive) (A:Option Addr) (n c B:Nat) (w:World) (hn:n=l.length) (hA:Sl w B 5 encDive A l) (hB:B<=w.heap.size) (hd:OkDive d) (hl:∀x∈l,OkDive x) (hnl:n<=1000000) :
  Calls Tryz.prog 199 #[stayV t d A n c] w fun e w'=>e= .returned (.bool (restB t l d))/\Bl w w':=by
 obtain⟨W0,hW0⟩:=eY (w.alloc (stayO t d A n c));unfold stayO at hW0;have hs0:W0.heap.size=w.heap.size+1:=by rw[hW0];simp
 have HB0:=hI (show Bl w W0 by rw[hW0];exact(zX _ _).alloc (zm _) _);have h0:W0.heap[w.heap.size]? =some (stayO t d A n c):=by rw[hW0];exact zW _ _
 unfold stayO at h0;have q1:W0.cell? ⟨w.heap.size,1,none⟩=some (.int .i64 t.rest):=by simp only[World.cell?,h0];rfl
 have q5:W0.cell? ⟨w.heap.size,5,none⟩=some (.int .i64 d.tin):=by simp only[World.cell?,h0];rfl
 have q8:W0.cell? ⟨w.heap.size,8,none⟩=some (.slice A n c):=by simp only[World.cell?,h0];rfl
 have hd1:=hd.tin;have HA:=hI (hA.below (HB0.o.mono hB));have HW0:=hI hW0;have Hn:=hI hn;clear hW0 h0 hA hn;unfold stayV
 by_cases hz:n=0
 ·have hz':((n:Int)==0)=true:=by rw[hz];rfl
  have HC:=hI (show restB t l d=true by unfold restB;rw[zD (show l.length=0 by have:=Hn.o;omega)];rfl);clear hz;go_enter Tryz.func199,Tryz.ntmps199;go_upto_region 1 with fail;rw[<- HW0.o];go_wp2
  go_quiet (fail)
  go_wp2;go_ret;exact⟨ret_bool HC.o.symm,zO HB0.o _⟩
 ·have hz':((n:Int)==0)=false:=beq_false_of_ne (by omega);have hpos:1<=n:=by omega
  have hil:n-1<l.length:=by have:=Hn.o;omega
  obtain⟨b,off,hbe,hbB,hcells⟩:=HA.o (by omega);subst hbe;have c4:W0.cell? ⟨b,off+(n-1)*5+4,none⟩=some (.int .i64 l[n-1].out):=hcells (n-1) hil 4 _ rfl;have hox:=(hl _ (zC hil)).out
  have HC:=hI (show restB t l d=decide (t.rest<=d.tin-l[n-1].out) by
   unfold restB;rw[zE (show ¬l.length=0 by omega),Bool.false_or,show l.length-1=n-1 by have:=Hn.o;omega,getD_lt hil])
  generalize l[n-1].out=xo at c4 HC hox;clear hcells hz hl;go_enter Tryz.func199,Tryz.ntmps199;go_upto_region 1 with fail;rw[<- HW0.o];go_wp2
  go_quiet (fail)
  go_wp2;go_ret;exact⟨ret_bool HC.o.symm,zO HB0.o _⟩
theorem day_any (t:Table) (d:Dive) (l:List Dive) (A:Option Addr) (n c B:Nat) (w:World) (hn:n=l.length) (hA:Sl w B 5 encDive A l) (hz:A=none->n=0/\c=0) (hB:B<=w.heap.size) (hd:OkDive d) (hl:∀x∈l,OkDive x) (hnl:n<=1000000) :
  Calls Tryz.prog 200 #[stayV t d A n c] w fun e w'=>e= .returned (.bool (dayB t l d))/\Bl w w':=by
 obtain⟨W0,hW0⟩:=eY (w.alloc (stayO t d A n c));unfold stayO at hW0;have hs0:W0.heap.size=w.heap.size+1:=by rw[hW0];simp
 have HB0:=hI (show Bl w W0 by rw[hW0];exact(zX _ _).alloc (zm _) _);have h0:W0.heap[w.heap.size]? =some (stayO t d A n c):=by rw[hW0];exact zW _ _
 have H0:=hI h0;unfold stayO at h0;have q3:W0.cell? ⟨w.heap.size,3,none⟩=some (.string d.who):=by simp only[World.cell?,h0];rfl
 have q4:W0.cell? ⟨w.heap.size,4,none⟩=some (.int .i64 d.pr):=by simp only[World.cell?,h0];rfl
 have q5:W0.cell? ⟨w.heap.size,5,none⟩=some (.int .i64 d.tin):=by simp only[World.cell?,h0];rfl
 have q6:W0.cell? ⟨w.heap.size,6,none⟩=some (.int .i64 d.leave):=by simp only[World.cell?,h0];rfl
 have q7:W0.cell? ⟨w.heap.size,7,none⟩=some (.int .i64 d.out):=by simp only[World.cell?,h0];rfl
 have q8:W0.cell? ⟨w.heap.size,8,none⟩=some (.slice A n c):=by simp only[World.cell?,h0];rfl
 have HA:=hI (hA.below (HB0.o.mono hB));have HW0:=hI hW0;have Hn:=hI hn;have Hd:=hI hd;have Hl:=hI hl;have Hz:=hI hz;clear hW0 h0 hA hn hd hl hz;unfold stayV;go_enter Tryz.func200,Tryz.ntmps200;go_upto_region 1 with fail;rw[<- HW0.o];go_wp2;have y3:=zV q3 (by omega);have y4:=zV q4 (by omega);have y5:=zV q5 (by omega);have y6:=zV q6 (by omega);have y7:=zV q7 (by omega);have y8:=zV q8 (by omega);clear q3 q4 q5 q6 q7 q8
 have hxR2:∃R:(Nat->Bool)->Act->World->Prop,R=fun L a' w'=>∃(e:Later W0) (v6 v7 v8 v9 v10 v11 v12 v13 v14:Value),w'=e.w/\a'={ tmps:= #[Value.agg #[Value.slice t.A t.rows.length t.c,Value.int IntKind.i64 t.rest,Value.int IntKind.i64 t.day,Value.string d.who,Value.int IntKind.i64 d.pr,Value.int IntKind.i64 d.tin,Value.int IntKind.i64 d.leave,Value.int IntKind.i64 d.out,Value.slice A n c],Value.pointer (some { block:=w.heap.size,off:=0 }),Value.bool false,Value.int IntKind.i64 0,undef,undef,v6,v7,v8,v9,v10,v11,v12,v13,v14,undef,undef,undef,undef,undef,undef,undef,undef,undef,undef,undef,undef,undef,undef,undef,undef,undef,undef,undef,undef,undef,undef,undef,undef,undef,undef],defers:=[] }/\(L 0=true->v6= .pointer (some ⟨w.heap.size,8,none⟩))/\(L 1=true->v7= .slice A n c)/\(L 2=true->L 6=false->Hid (e.w.ownsRow W0.heap.size 84 5 v8 (n) (l.flatMap encDive)))/\(L 3=true->v9= .pointer (some ⟨w.heap.size,3,none⟩))/\(L 4=true->v10= .agg #[.string d.who,.int .i64 d.pr,.int .i64 d.tin,.int .i64 d.leave,.int .i64 d.out])/\(L 5=true->L 6=false->Hid (∃gb,v11= .slice (some ⟨gb,0,none⟩) 1 1/\BlkAt W0 e.w gb (#[.string d.who,.int .i64 d.pr,.int .i64 d.tin,.int .i64 d.leave,.int .i64 d.out]:Array Value).toList))/\(L 6=true->Hid (e.w.ownsRow W0.heap.size 84 5 v12 (n+1) (l.flatMap encDive++(#[.string d.who,.int .i64 d.pr,.int .i64 d.tin,.int .i64 d.leave,.int .i64 d.out]:Array Value).toList)))/\(L 7=true->v13= .int .i64 ((n+1:Nat):Int))/\(L 8=true->v14= .int .i64 0):=⟨_,rfl⟩
 obtain⟨R2,hR2⟩:=hxR2;have HR2:=hI hR2;clear hR2;refine wp_region_all R2 (by kernel_rfl) (by kernel_rfl) ?_ ?_ ?_
 ·rw[HR2.o];exact⟨⟨_,(zX W0.heap.size W0).drew⟩,_,_,_,_,_,_,_,_,_,rfl,rfl,nff,nff,nff,nff,nff,nff,nff,nff,nff⟩
 ·rintro L a' w' i o hi ho hLi haf hInv;rw[HR2.o] at hInv;obtain⟨e,v6,v7,v8,v9,v10,v11,v12,v13,v14,rfl,rfl,h0,h1,h2,h3,h4,h5,h6,h7,h8⟩:=hInv;have hse:W0.heap.size<=e.w.heap.size:=e.b.size;rcases i with _ | _ | _ | _ | _ | _ | _ | _ | _ | i;case succ.succ.succ.succ.succ.succ.succ.succ.succ=>(simp at hi;try omega)
  all_goals (simp only[zR,zS,Option.some.injEq] at ho;subst ho)
  ·go_wp2;rw[HR2.o];exact⟨e,_,_,_,_,_,_,_,_,_,rfl,rfl,fun _=>rfl,h1,h2,h3,h4,h5,h6,h7,h8⟩
  ·obtain rfl:=h0 (haf ⟨0,.data⟩ (by simp) rfl);go_wp2;rw[HR2.o];exact⟨e,_,_,_,_,_,_,_,_,_,rfl,rfl,fun _=>rfl,fun _=>rfl,h2,h3,h4,h5,h6,h7,h8⟩
  ·obtain rfl:=h1 (haf ⟨1,.data⟩ (by simp) rfl);go_wp2_with (go_at_call 112;refine(cloneDive_any l A n c e.w Hn.o ((HA.o.below (e.b.mono (by omega))).mono (by omega)) Hz.o (by omega)).mono ?_;rintro r w2 ⟨v,rfl,ho2,hb2⟩);rw[HR2.o];exact⟨⟨w2,e.b.trans (hb2.mono e.b.size)⟩,_,_,_,_,_,_,_,_,_,rfl,rfl,h0,fun _=>rfl,fun _ _=>hI (own_mono ho2 hse),h3,h4,fun y y2=>(by obtain⟨gb,p1,p2⟩:=(h5 y y2).out;exact hI ⟨gb,p1,p2.below hb2⟩),fun y=>hI (own_below (h6 y).out hb2),h7,h8⟩
  ·go_wp2;rw[HR2.o];exact⟨e,_,_,_,_,_,_,_,_,_,rfl,rfl,h0,h1,h2,fun _=>rfl,h4,h5,h6,h7,h8⟩
  ·obtain rfl:=h3 (haf ⟨3,.data⟩ (by simp) rfl);go_wp2;rw[HR2.o];exact⟨e,_,_,_,_,_,_,_,_,_,rfl,rfl,h0,h1,h2,fun _=>rfl,fun _=>rfl,h5,h6,h7,h8⟩
  ·obtain rfl:=h4 (haf ⟨4,.data⟩ (by simp) rfl);go_wp2;rw[HR2.o];exact⟨⟨_,e.b.alloc hse (.cells (#[.string d.who,.int .i64 d.pr,.int .i64 d.tin,.int .i64 d.leave,.int .i64 d.out]:Array Value) 84)⟩,_,_,_,_,_,_,_,_,_,rfl,rfl,h0,h1,fun y y2=>hI ((h2 y y2).out.alloc _),h3,fun _=>rfl,fun _ _=>hI ⟨_,rfl,BlkAt.new hse⟩,fun y=>hI ((h6 y).out.alloc _),h7,h8⟩
  ·have ho0:=(h2 (haf ⟨2,.data⟩ (by simp) rfl) hLi).out;obtain⟨gb,rfl,hnb⟩:=(h5 (haf ⟨5,.data⟩ (by simp) rfl) hLi).out;have HS:=hI (show Src e.w 5 (some ⟨gb,0,none⟩) 1 (#[.string d.who,.int .i64 d.pr,.int .i64 d.tin,.int .i64 d.leave,.int .i64 d.out]:Array Value).toList from .inr ⟨_,rfl,rfl,fun q u hu=>(by have h9:=hnb.cell q u hu;have h10:(⟨gb,0,none⟩:Addr).add q=⟨gb,q,none⟩:=by{ unfold Addr.add;split<;>simp_all };rw[h10];exact h9)⟩);go_wp2_with (at_builtin;refine wpList_appendL rfl _ _ 75 rfl W0.heap.size 84 _ 5 48 elemDi _ _ _ rfl ho0 _ 1 _ _ rfl HS.o (by simp[Value.oneCell']) (by omega) (by omega) ?_;intro v6 w6 hown6 hb6 hsz6 hg6 hblk6;have HF6:=hI (And.intro hown6 hb6);clear hown6 hb6 hsz6 hg6 hblk6);rw[HR2.o];exact⟨⟨_,e.b.trans HF6.o.2⟩,_,_,_,_,_,_,_,_,_,rfl,rfl,h0,h1,fun _ y=>absurd y (by simp),h3,h4,fun _ y=>absurd y (by simp),fun _=>hI HF6.o.1,h7,h8⟩
  ·obtain⟨AL,cL,hL9,_,_⟩:=own_cap' (h6 (haf ⟨6,.data⟩ (by simp) rfl)).out;subst hL9;go_wp2;rw[HR2.o];exact⟨e,_,_,_,_,_,_,_,_,_,rfl,rfl,h0,h1,h2,h3,h4,h5,h6,fun _=>rfl,h8⟩
  ·go_wp2;rw[HR2.o];exact⟨e,_,_,_,_,_,_,_,_,_,rfl,rfl,h0,h1,h2,h3,h4,h5,h6,h7,fun _=>rfl⟩
 ·rintro L a' w' hL hInv;rw[HR2.o] at hInv;obtain⟨e,v6,v7,v8,v9,v10,v11,v12,v13,v14,rfl,rfl,h0,h1,h2,h3,h4,h5,h6,h7,h8⟩:=hInv;obtain rfl:=h0 (hL 0 (by simp));obtain rfl:=h1 (hL 1 (by simp));obtain rfl:=h3 (hL 3 (by simp));obtain rfl:=h4 (hL 4 (by simp));have hoN:=(h6 (hL 6 (by simp))).out;obtain rfl:=h7 (hL 7 (by simp));obtain rfl:=h8 (hL 8 (by simp));have hse:W0.heap.size<=e.w.heap.size:=e.b.size;clear h0 h1 h2 h3 h4 h5 h6 h7 h8 hL HR2;obtain⟨A2,c2,hv2,hc21,hc22⟩:=own_cap' hoN;subst hv2;have HO:=hI hoN;obtain⟨m,hm⟩:=eY (n+1);have hmc:((n+1:Nat):Int)=(m:Int):=by rw[hm]
  obtain⟨W1,hW1⟩:=eY e.w;have HB1:=hI (show Bl W0 W1 by rw[hW1];exact e.b);have hm9:m<=1000001:=by omega
  have hm8:1<=m:=by omega
  have hse1:W0.heap.size<=W1.heap.size:=by rw[hW1];exact hse
  rw[<- hW1,<-hm] at HO;rw[<- hW1,<-hm]
  have HSl:=hI (show Sl W1 W1.heap.size 5 encDive A2 (l++[d]) from sl_own2 lenDi (base:=W0.heap.size) (c:=c2) (e:=84) (by
   have h:=HO.o;rw[show m=(l++[d]).length by rw[zF,<-Hn.o];exact hm] at h;rw[List.flatMap_append];exact h))
  have Hm:=hI (show m=(l++[d]).length by rw[zF,<-Hn.o];exact hm)
  have Hok:=hI (show ∀x∈l++[d],OkDive x from fun x hx=>by
   rcases List.mem_append.1 hx with h | h
   ·exact Hl.o x h
   ·rw[zN.1 h];exact Hd.o)
  clear hW1 hm hmc hoN hse y3 y4 y5 y6 y7 y8 hc21 hc22;have hmx:=max_run Tryz.prog;have hmn:=min_run Tryz.prog;have Hd1:=hI Hd.o.leave;have hday:=hI (show dayB t l d=decide (sumOf d (l++[d])<=t.day) from rfl);go_wp2;go_loopw [3,14] (fun v3 v14 wr=>∃(i:Nat) (S:Int),i<=m/\v14= .int .i64 i/\v3= .int .i64 S/\Hid (S=sumOf d ((l++[d]).take i))/\Hid (Bl W1 wr)) (fun _ v14 _=>m-(intOf v14).toNat);case atStart=>exact⟨0,0,by omega,rfl,rfl,hI rfl,hI (zX _ _)⟩
  case round=>
   obtain⟨i,S,hi,rfl,rfl,HS,Hb⟩:=hrel;have hsr:=Hb.o.size;have hbr:=hI (HB1.o.trans (Hb.o.mono hse1));have h0r:wr.heap[w.heap.size]? =some (stayO t d A n c):=(hbr.out.block _ (by omega)).trans H0.o;unfold stayO at h0r;have p2:wr.cell? ⟨w.heap.size,2,none⟩=some (.int .i64 t.day):=by simp only[World.cell?,h0r];rfl
   have p6:wr.cell? ⟨w.heap.size,6,none⟩=some (.int .i64 d.leave):=by simp only[World.cell?,h0r];rfl
   have hwr:w.heap.size<wr.heap.size:=by omega
   clear h0r
   by_cases hlt:i<m
   ·have hil:i<(l++[d]).length:=by rw[<- Hm.o];exact hlt
    obtain⟨b,off,hbe,hbB,hcells⟩:=(HSl.o.below Hb.o) (by omega)
    have hbw:b<wr.heap.size:=by omega
    subst hbe;have c0:wr.cell? ⟨b,off+i*5,none⟩=some (.string (l++[d])[i].who):=hcells i hil 0 _ rfl;have c1:wr.cell? ⟨b,off+i*5+1,none⟩=some (.int .i64 (l++[d])[i].pr):=hcells i hil 1 _ rfl;have c2':wr.cell? ⟨b,off+i*5+2,none⟩=some (.int .i64 (l++[d])[i].tin):=hcells i hil 2 _ rfl;have c3:wr.cell? ⟨b,off+i*5+3,none⟩=some (.int .i64 (l++[d])[i].leave):=hcells i hil 3 _ rfl;have c4:wr.cell? ⟨b,off+i*5+4,none⟩=some (.int .i64 (l++[d])[i].out):=hcells i hil 4 _ rfl;have Hx:=hI (Hok.o _ (zC hil))
    have Hsn:=hI (show sumOf d ((l++[d]).take (i+1))=S+minsOf d (l++[d])[i] by
     rw[zK hil,sum_snoc,HS.o])
    have hSb:=sum_le Hd.o ((l++[d]).take i) (fun x hx=>Hok.o x (List.mem_of_mem_take hx));rw[<- HS.o,List.length_take] at hSb;have hSb2:S<=100000000000:=by omega
    have hSb1:=hSb.1;generalize (l++[d])[i]=x at c0 c1 c2' c3 c4 Hx Hsn;have hx1:=Hx.o.tin;have hx2:=Hx.o.leave;have hd1:=Hd1.o;have Hmi:=hI (show minsOf d x=max 0 (min x.leave d.leave-max x.tin (d.leave-1440)) from rfl);have hmi:=mins_le Hd.o Hx.o;rw[Hmi.o] at hmi;clear hcells hSb hil;go_upto_region 5 with fail;obtain⟨W2,hW2⟩:=eY (wr.alloc (.cells #[.string x.who,.int .i64 x.pr,.int .i64 x.tin,.int .i64 x.leave,.int .i64 x.out] 84));rw[<- hW2];have HB2:=hI (show Bl wr W2 by rw[hW2];exact(zX _ _).alloc (zm _) _);have r2:W2.cell? ⟨wr.heap.size,2,none⟩=some (.int .i64 x.tin):=by rw[hW2];exact alloc_cell rfl
    have r3:W2.cell? ⟨wr.heap.size,3,none⟩=some (.int .i64 x.leave):=by rw[hW2];exact alloc_cell rfl
    have p6':W2.cell? ⟨w.heap.size,6,none⟩=some (.int .i64 d.leave):=(HB2.o.cell (p:=⟨w.heap.size,6,none⟩) hwr).trans p6;clear hW2 c0 c1 c2' c3 c4 p2 p6;have b1: -1000000<=min x.leave d.leave:=by omega
    have b2:min x.leave d.leave<=1000000:=by omega
    have b3: -1000000<=max x.tin (d.leave-1440):=by omega
    have b4:max x.tin (d.leave-1440)<=1000000:=by omega
    go_wp2;go_roundw;case rel=>exact⟨i+1,_,by omega,by go_num,rfl,hI (by rw[Hsn.o,Hmi.o]),hI (Hb.o.trans (HB2.o.mono hsr))⟩
    case measure=>simp[intOf];omega
   ·have HE:=hI (show S=sumOf d (l++[d]) by rw[HS.o,zG (by rw[<- Hm.o];omega)]);have HE2:=hI (show dayB t l d=decide (S<=t.day) by rw[hday.out,HE.o]);go_wp2;go_ret;exact⟨ret_bool HE2.o.symm,HB0.o.trans (hbr.out.mono (by omega))⟩
end Go.Proofs.YtjpgnfekbojcaaaGreat
