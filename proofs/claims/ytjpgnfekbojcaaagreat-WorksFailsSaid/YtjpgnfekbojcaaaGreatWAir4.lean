/- Stays: the minutes of a day;the rules;what is wrong with a stay. -/
import Derived.Test.YtjpgnfekbojcaaaGreatWEq
import Derived.Lib.LazyBuf
set_option maxHeartbeats 4000000
set_option maxRecDepth 100000
namespace Go.Proofs.YtjpgnfekbojcaaaGreat
open Go.RowKit W7 W8
attribute [local go_sem] Oper.semAt_some
theorem day_any (t:Table) (d:Dive) (l:List Dive) (A:Option Addr) (n c B:Nat) (w:World) (hn:n=l.length) (hA:Sl w B 5 encDive A l) (hz:A=none->n=0/\c=0) (hB:B<=w.heap.size) (hd:OkDive d) (hl:∀x∈l,OkDive x) (hnl:n<=1000000) :
  Calls Tryz.prog 200 #[stayV t d A n c] w fun e w'=>e= .returned (.bool (dayB t l d))/\Bl w w':=by
 obtain⟨W0,hW0⟩:∃W0,W0=w.alloc (stayO t d A n c):=⟨_,rfl⟩
 unfold stayO at hW0;have hs0:W0.heap.size=w.heap.size+1:=by rw[hW0];simp
 have HB0:=hI (show Bl w W0 by rw[hW0];exact(Below.refl _ _).alloc (Nat.le_refl _) _);have h0:W0.heap[w.heap.size]? =some (stayO t d A n c):=by rw[hW0];exact heap_alloc_new _ _
 have H0:=hI h0;unfold stayO at h0;have q3:W0.cell? ⟨w.heap.size,3,none⟩=some (.string d.who):=by simp only[World.cell?,h0];rfl
 have q4:W0.cell? ⟨w.heap.size,4,none⟩=some (.int .i64 d.pr):=by simp only[World.cell?,h0];rfl
 have q5:W0.cell? ⟨w.heap.size,5,none⟩=some (.int .i64 d.tin):=by simp only[World.cell?,h0];rfl
 have q6:W0.cell? ⟨w.heap.size,6,none⟩=some (.int .i64 d.leave):=by simp only[World.cell?,h0];rfl
 have q7:W0.cell? ⟨w.heap.size,7,none⟩=some (.int .i64 d.out):=by simp only[World.cell?,h0];rfl
 have q8:W0.cell? ⟨w.heap.size,8,none⟩=some (.slice A n c):=by simp only[World.cell?,h0];rfl
 have HA:=hI (hA.below (HB0.o.mono hB));have HW0:=hI hW0;have Hn:=hI hn;have Hd:=hI hd;have Hl:=hI hl;have Hz:=hI hz;clear hW0 h0 hA hn hd hl hz;unfold stayV;go_enter Tryz.func200,Tryz.ntmps200;go_upto_region 1 with fail;rw[<- HW0.o];go_wp2;have y3:=later_cell q3 (by omega);have y4:=later_cell q4 (by omega);have y5:=later_cell q5 (by omega);have y6:=later_cell q6 (by omega);have y7:=later_cell q7 (by omega);have y8:=later_cell q8 (by omega);clear q3 q4 q5 q6 q7 q8
 have hxR2:∃R:(Nat->Bool)->Act->World->Prop,R=fun L a' w'=>∃(e:Later W0) (v6 v7 v8 v9 v10 v11 v12 v13 v14:Value),w'=e.w/\a'={ tmps:= #[Value.agg #[Value.slice t.A t.rows.length t.c,Value.int IntKind.i64 t.rest,Value.int IntKind.i64 t.day,Value.string d.who,Value.int IntKind.i64 d.pr,Value.int IntKind.i64 d.tin,Value.int IntKind.i64 d.leave,Value.int IntKind.i64 d.out,Value.slice A n c],Value.pointer (some { block:=w.heap.size,off:=0 }),Value.bool false,Value.int IntKind.i64 0,undef,undef,v6,v7,v8,v9,v10,v11,v12,v13,v14,undef,undef,undef,undef,undef,undef,undef,undef,undef,undef,undef,undef,undef,undef,undef,undef,undef,undef,undef,undef,undef,undef,undef,undef,undef,undef],defers:=[] }/\(L 0=true->v6= .pointer (some ⟨w.heap.size,8,none⟩))/\(L 1=true->v7= .slice A n c)/\(L 2=true->L 6=false->Hid (e.w.ownsRow W0.heap.size 84 5 v8 (n) (l.flatMap encDive)))/\(L 3=true->v9= .pointer (some ⟨w.heap.size,3,none⟩))/\(L 4=true->v10= .agg #[.string d.who,.int .i64 d.pr,.int .i64 d.tin,.int .i64 d.leave,.int .i64 d.out])/\(L 5=true->L 6=false->Hid (∃gb,v11= .slice (some ⟨gb,0,none⟩) 1 1/\BlkAt W0 e.w gb (#[.string d.who,.int .i64 d.pr,.int .i64 d.tin,.int .i64 d.leave,.int .i64 d.out]:Array Value).toList))/\(L 6=true->Hid (e.w.ownsRow W0.heap.size 84 5 v12 (n+1) (l.flatMap encDive++(#[.string d.who,.int .i64 d.pr,.int .i64 d.tin,.int .i64 d.leave,.int .i64 d.out]:Array Value).toList)))/\(L 7=true->v13= .int .i64 ((n+1:Nat):Int))/\(L 8=true->v14= .int .i64 0):=⟨_,rfl⟩
 obtain⟨R2,hR2⟩:=hxR2;have HR2:=hI hR2;clear hR2;refine wp_region_all R2 (by kernel_rfl) (by kernel_rfl) ?_ ?_ ?_
 ·rw[HR2.o];exact⟨⟨_,(Below.refl W0.heap.size W0).drew⟩,_,_,_,_,_,_,_,_,_,rfl,rfl,nff,nff,nff,nff,nff,nff,nff,nff,nff⟩
 ·rintro L a' w' i o hi ho hLi haf hInv;rw[HR2.o] at hInv;obtain⟨e,v6,v7,v8,v9,v10,v11,v12,v13,v14,rfl,rfl,h0,h1,h2,h3,h4,h5,h6,h7,h8⟩:=hInv;have hse:W0.heap.size<=e.w.heap.size:=e.b.size;rcases i with _ | _ | _ | _ | _ | _ | _ | _ | _ | i;case succ.succ.succ.succ.succ.succ.succ.succ.succ=>(simp at hi;try omega)
  all_goals (simp only[List.getElem?_cons_zero,List.getElem?_cons_succ,Option.some.injEq] at ho;subst ho)
  ·go_wp2;rw[HR2.o];exact⟨e,_,_,_,_,_,_,_,_,_,rfl,rfl,fun _=>rfl,h1,h2,h3,h4,h5,h6,h7,h8⟩
  ·obtain rfl:=h0 (haf ⟨0,.data⟩ (by simp) rfl);go_wp2;rw[HR2.o];exact⟨e,_,_,_,_,_,_,_,_,_,rfl,rfl,fun _=>rfl,fun _=>rfl,h2,h3,h4,h5,h6,h7,h8⟩
  ·obtain rfl:=h1 (haf ⟨1,.data⟩ (by simp) rfl);go_wp2_with (go_at_call 112;refine(cloneDive_any l A n c e.w Hn.o ((HA.o.below (e.b.mono (by omega))).mono (by omega)) Hz.o (by omega)).mono ?_;rintro r w2 ⟨v,rfl,ho2,hb2⟩);rw[HR2.o];exact⟨⟨w2,e.b.trans (hb2.mono e.b.size)⟩,_,_,_,_,_,_,_,_,_,rfl,rfl,h0,fun _=>rfl,fun _ _=>hI (own_mono ho2 hse),h3,h4,fun y y2=>(by obtain⟨gb,p1,p2⟩:=(h5 y y2).out;exact hI ⟨gb,p1,p2.below hb2⟩),fun y=>hI (own_below (h6 y).out hb2),h7,h8⟩
  ·go_wp2;rw[HR2.o];exact⟨e,_,_,_,_,_,_,_,_,_,rfl,rfl,h0,h1,h2,fun _=>rfl,h4,h5,h6,h7,h8⟩
  ·obtain rfl:=h3 (haf ⟨3,.data⟩ (by simp) rfl);go_wp2;rw[HR2.o];exact⟨e,_,_,_,_,_,_,_,_,_,rfl,rfl,h0,h1,h2,fun _=>rfl,fun _=>rfl,h5,h6,h7,h8⟩
  ·obtain rfl:=h4 (haf ⟨4,.data⟩ (by simp) rfl);go_wp2;rw[HR2.o];exact⟨⟨_,e.b.alloc hse (.cells (#[.string d.who,.int .i64 d.pr,.int .i64 d.tin,.int .i64 d.leave,.int .i64 d.out]:Array Value) 84)⟩,_,_,_,_,_,_,_,_,_,rfl,rfl,h0,h1,fun y y2=>hI ((h2 y y2).out.alloc _),h3,fun _=>rfl,fun _ _=>hI ⟨_,rfl,BlkAt.new hse⟩,fun y=>hI ((h6 y).out.alloc _),h7,h8⟩
  ·have ho0:=(h2 (haf ⟨2,.data⟩ (by simp) rfl) hLi).out;obtain⟨gb,rfl,hnb⟩:=(h5 (haf ⟨5,.data⟩ (by simp) rfl) hLi).out;have HS:=hI (show Src e.w 5 (some ⟨gb,0,none⟩) 1 (#[.string d.who,.int .i64 d.pr,.int .i64 d.tin,.int .i64 d.leave,.int .i64 d.out]:Array Value).toList from .inr ⟨_,rfl,rfl,fun q u hu=>(by have h9:=hnb.cell q u hu;have h10:(⟨gb,0,none⟩:Addr).add q=⟨gb,q,none⟩:=by{ unfold Addr.add;split<;>simp_all };rw[h10];exact h9)⟩);go_wp2_with (at_builtin;refine wpList_appendL rfl _ _ 75 rfl W0.heap.size 84 _ 5 48 elemDi _ _ _ rfl ho0 _ 1 _ _ rfl HS.o (by simp[Value.oneCell']) (by omega) (by omega) ?_;intro v6 w6 hown6 hb6 hsz6 hg6 hblk6;have HF6:=hI (And.intro hown6 hb6);clear hown6 hb6 hsz6 hg6 hblk6);rw[HR2.o];exact⟨⟨_,e.b.trans HF6.o.2⟩,_,_,_,_,_,_,_,_,_,rfl,rfl,h0,h1,fun _ y=>absurd y (by simp),h3,h4,fun _ y=>absurd y (by simp),fun _=>hI HF6.o.1,h7,h8⟩
  ·obtain⟨AL,cL,hL9,_,_⟩:=own_cap' (h6 (haf ⟨6,.data⟩ (by simp) rfl)).out;subst hL9;go_wp2;rw[HR2.o];exact⟨e,_,_,_,_,_,_,_,_,_,rfl,rfl,h0,h1,h2,h3,h4,h5,h6,fun _=>rfl,h8⟩
  ·go_wp2;rw[HR2.o];exact⟨e,_,_,_,_,_,_,_,_,_,rfl,rfl,h0,h1,h2,h3,h4,h5,h6,h7,fun _=>rfl⟩
 ·rintro L a' w' hL hInv;rw[HR2.o] at hInv;obtain⟨e,v6,v7,v8,v9,v10,v11,v12,v13,v14,rfl,rfl,h0,h1,h2,h3,h4,h5,h6,h7,h8⟩:=hInv;obtain rfl:=h0 (hL 0 (by simp));obtain rfl:=h1 (hL 1 (by simp));obtain rfl:=h3 (hL 3 (by simp));obtain rfl:=h4 (hL 4 (by simp));have hoN:=(h6 (hL 6 (by simp))).out;obtain rfl:=h7 (hL 7 (by simp));obtain rfl:=h8 (hL 8 (by simp));have hse:W0.heap.size<=e.w.heap.size:=e.b.size;clear h0 h1 h2 h3 h4 h5 h6 h7 h8 hL HR2;obtain⟨A2,c2,hv2,hc21,hc22⟩:=own_cap' hoN;subst hv2;have HO:=hI hoN;obtain⟨m,hm⟩:∃m,m=n+1:=⟨_,rfl⟩
  have hmc:((n+1:Nat):Int)=(m:Int):=by rw[hm]
  obtain⟨W1,hW1⟩:∃W1,W1=e.w:=⟨_,rfl⟩
  have HB1:=hI (show Bl W0 W1 by rw[hW1];exact e.b);have hm9:m<=1000001:=by omega
  have hm8:1<=m:=by omega
  have hse1:W0.heap.size<=W1.heap.size:=by rw[hW1];exact hse
  rw[<- hW1,<-hm] at HO;rw[<- hW1,<-hm]
  have HSl:=hI (show Sl W1 W1.heap.size 5 encDive A2 (l++[d]) from sl_own2 lenDi (base:=W0.heap.size) (c:=c2) (e:=84) (by
   have h:=HO.o;rw[show m=(l++[d]).length by rw[List.length_append,<-Hn.o];exact hm] at h;rw[List.flatMap_append];exact h))
  have Hm:=hI (show m=(l++[d]).length by rw[List.length_append,<-Hn.o];exact hm)
  have Hok:=hI (show ∀x∈l++[d],OkDive x from fun x hx=>by
   rcases List.mem_append.1 hx with h | h
   ·exact Hl.o x h
   ·rw[List.mem_singleton.1 h];exact Hd.o)
  clear hW1 hm hmc hoN hse y3 y4 y5 y6 y7 y8 hc21 hc22;have hmx:=max_run Tryz.prog;have hmn:=min_run Tryz.prog;have Hd1:=hI Hd.o.leave;have hday:=hI (show dayB t l d=decide (sumOf d (l++[d])<=t.day) from rfl);go_wp2;go_loopw [3,14] (fun v3 v14 wr=>∃(i:Nat) (S:Int),i<=m/\v14= .int .i64 i/\v3= .int .i64 S/\Hid (S=sumOf d ((l++[d]).take i))/\Hid (Bl W1 wr)) (fun _ v14 _=>m-(intOf v14).toNat);case atStart=>exact⟨0,0,by omega,rfl,rfl,hI rfl,hI (Below.refl _ _)⟩
  case round=>
   obtain⟨i,S,hi,rfl,rfl,HS,Hb⟩:=hrel;have hsr:=Hb.o.size;have hbr:=hI (HB1.o.trans (Hb.o.mono hse1));have h0r:wr.heap[w.heap.size]? =some (stayO t d A n c):=(hbr.out.block _ (by omega)).trans H0.o;unfold stayO at h0r;have p2:wr.cell? ⟨w.heap.size,2,none⟩=some (.int .i64 t.day):=by simp only[World.cell?,h0r];rfl
   have p6:wr.cell? ⟨w.heap.size,6,none⟩=some (.int .i64 d.leave):=by simp only[World.cell?,h0r];rfl
   have hwr:w.heap.size<wr.heap.size:=by omega
   clear h0r
   by_cases hlt:i<m
   ·have hil:i<(l++[d]).length:=by rw[<- Hm.o];exact hlt
    obtain⟨b,off,hbe,hbB,hcells⟩:=(HSl.o.below Hb.o) (by omega)
    have hbw:b<wr.heap.size:=by omega
    subst hbe;have c0:wr.cell? ⟨b,off+i*5,none⟩=some (.string (l++[d])[i].who):=hcells i hil 0 _ rfl;have c1:wr.cell? ⟨b,off+i*5+1,none⟩=some (.int .i64 (l++[d])[i].pr):=hcells i hil 1 _ rfl;have c2':wr.cell? ⟨b,off+i*5+2,none⟩=some (.int .i64 (l++[d])[i].tin):=hcells i hil 2 _ rfl;have c3:wr.cell? ⟨b,off+i*5+3,none⟩=some (.int .i64 (l++[d])[i].leave):=hcells i hil 3 _ rfl;have c4:wr.cell? ⟨b,off+i*5+4,none⟩=some (.int .i64 (l++[d])[i].out):=hcells i hil 4 _ rfl;have Hx:=hI (Hok.o _ (List.getElem_mem hil))
    have Hsn:=hI (show sumOf d ((l++[d]).take (i+1))=S+minsOf d (l++[d])[i] by
     rw[List.take_succ_eq_append_getElem hil,sum_snoc,HS.o])
    have hSb:=sum_le Hd.o ((l++[d]).take i) (fun x hx=>Hok.o x (List.mem_of_mem_take hx));rw[<- HS.o,List.length_take] at hSb;have hSb2:S<=100000000000:=by omega
    have hSb1:=hSb.1;generalize (l++[d])[i]=x at c0 c1 c2' c3 c4 Hx Hsn;have hx1:=Hx.o.tin;have hx2:=Hx.o.leave;have hd1:=Hd1.o;have Hmi:=hI (show minsOf d x=max 0 (min x.leave d.leave-max x.tin (d.leave-1440)) from rfl);have hmi:=mins_le Hd.o Hx.o;rw[Hmi.o] at hmi;clear hcells hSb hil;go_upto_region 5 with fail;obtain⟨W2,hW2⟩:∃W2,W2=wr.alloc (.cells #[.string x.who,.int .i64 x.pr,.int .i64 x.tin,.int .i64 x.leave,.int .i64 x.out] 84):=⟨_,rfl⟩
    rw[<- hW2];have HB2:=hI (show Bl wr W2 by rw[hW2];exact(Below.refl _ _).alloc (Nat.le_refl _) _);have r2:W2.cell? ⟨wr.heap.size,2,none⟩=some (.int .i64 x.tin):=by rw[hW2];exact alloc_cell rfl
    have r3:W2.cell? ⟨wr.heap.size,3,none⟩=some (.int .i64 x.leave):=by rw[hW2];exact alloc_cell rfl
    have p6':W2.cell? ⟨w.heap.size,6,none⟩=some (.int .i64 d.leave):=(HB2.o.cell (p:=⟨w.heap.size,6,none⟩) hwr).trans p6;clear hW2 c0 c1 c2' c3 c4 p2 p6;have b1: -1000000<=min x.leave d.leave:=by omega
    have b2:min x.leave d.leave<=1000000:=by omega
    have b3: -1000000<=max x.tin (d.leave-1440):=by omega
    have b4:max x.tin (d.leave-1440)<=1000000:=by omega
    go_wp2;go_roundw;case rel=>exact⟨i+1,_,by omega,by go_num,rfl,hI (by rw[Hsn.o,Hmi.o]),hI (Hb.o.trans (HB2.o.mono hsr))⟩
    case measure=>simp[intOf];omega
   ·have HE:=hI (show S=sumOf d (l++[d]) by rw[HS.o,List.take_of_length_le (by rw[<- Hm.o];omega)]);have HE2:=hI (show dayB t l d=decide (S<=t.day) by rw[hday.out,HE.o]);go_wp2;go_ret;exact⟨ret_bool HE2.o.symm,HB0.o.trans (hbr.out.mono (by omega))⟩
theorem eqF_some {P:Program} (w:World) (d:Nat) (t:TypeId) {ps rs:Array TypeId} {b:Bool} (f:Fn) (fv cs:Array Value) (h:P.underlying t=some (.func ps rs b)):(Op.equalIn (d+1) t (.func f fv cs) .nilFunc).run P w= .ok false w:=by
 simp[Op.equalIn,run_underlying h]
theorem eqF_nil {P:Program} (w:World) (d:Nat) (t:TypeId) {ps rs:Array TypeId} {b:Bool} (h:P.underlying t=some (.func ps rs b)):(Op.equalIn (d+1) t .nilFunc .nilFunc).run P w= .ok true w:=by
 simp[Op.equalIn,run_underlying h]
theorem neqF_some {P:Program} (w:World) (t:TypeId) {ps rs:Array TypeId} {b:Bool} (f:Fn) (fv cs:Array Value) (h:P.underlying t=some (.func ps rs b)):(binOp .neq t (.func f fv cs) .nilFunc).run P w= .ok (.bool true) w:=by
 have e:(Op.equal t (.func f fv cs) .nilFunc).run P w= .ok false w:=eqF_some w 9999 t f fv cs h;simp[binOp,e]
theorem neqF_nil {P:Program} (w:World) (t:TypeId) {ps rs:Array TypeId} {b:Bool} (h:P.underlying t=some (.func ps rs b)):(binOp .neq t .nilFunc .nilFunc).run P w= .ok (.bool false) w:=by
 have e:(Op.equal t .nilFunc .nilFunc).run P w= .ok true w:=eqF_nil w 9999 t h;simp[binOp,e]
def rulesO:Obj:= .cells #[.nilFunc,.func (.func 196) #[] #[],.func (.func 197) #[] #[],.func (.func 198) #[] #[],.func (.func 199) #[] #[],.func (.func 200) #[] #[]] 220
theorem rules_any (w:World):Calls Tryz.prog 171 #[] w fun e w'=>e= .returned (.slice (some ⟨w.heap.size,0,none⟩) 6 6)/\w'=w.alloc rulesO:=by
 go_enter Tryz.func171,Tryz.ntmps171;go_wp2;go_ret;exact⟨rfl,rfl⟩
theorem fault_any (t:Table) (d:Dive) (l:List Dive) (A:Option Addr) (n c B:Nat) (w:World) (ht:TIn w B t) (htl:t.rows.length<=1000000000) (hn:n=l.length) (hA:Sl w B 5 encDive A l) (hz:A=none->n=0/\c=0) (hB:B<=w.heap.size) (hd:OkDive d) (hl:∀x∈l,OkDive x) (hnl:n<=1000000) :
  Calls Tryz.prog 107 #[stayV t d A n c] w fun e w'=>e= .returned (.int .u8 (faultN t l d))/\Bl w w':=by
 obtain⟨W0,hW0⟩:∃W0,W0=w.alloc (stayO t d A n c):=⟨_,rfl⟩
 unfold stayO at hW0;have hs0:W0.heap.size=w.heap.size+1:=by rw[hW0];simp
 have HB0:=hI (show Bl w W0 by rw[hW0];exact(Below.refl _ _).alloc (Nat.le_refl _) _);have h0:W0.heap[w.heap.size]? =some (stayO t d A n c):=by rw[hW0];exact heap_alloc_new _ _
 have HR:=hI (rules_any W0);have HW0:=hI hW0;have HQ:=hI (show ∀X:World,Bl W0 X->X.heap[w.heap.size]? =some (stayO t d A n c) from fun X hX=>(hX.block _ (by omega)).trans h0);have HT:=hI (show ∀X:World,Bl W0 X->TIn X B t/\Sl X B 5 encDive A l from fun X hX=>⟨ht.below ((HB0.o.mono hB).trans (hX.mono (by omega))),hA.below ((HB0.o.mono hB).trans (hX.mono (by omega)))⟩);have Hn:=hI hn;have Hd:=hI hd;have Hl:=hI hl;have Hz:=hI hz;have H1:=hI (fun X:World=>inOrder_any t d A n c X);have H2:=hI (fun(X:World) (hX:Bl W0 X)=>counted_any t d A n c B X (HT.o X hX).1 (by have:=hX.size;omega) htl Hd.o);have H3:=hI (fun(X:World) (hX:Bl W0 X)=>stayOut_any t d A n c B X (HT.o X hX).1 (by have:=hX.size;omega) htl Hd.o);have H4:=hI (fun(X:World) (hX:Bl W0 X)=>rested_any t d l A n c B X Hn.o (HT.o X hX).2 (by have:=hX.size;omega) Hd.o Hl.o hnl)
 have H5:=hI (fun(X:World) (hX:Bl W0 X)=>day_any t d l A n c B X Hn.o (HT.o X hX).2 Hz.o (by have:=hX.size;omega) Hd.o Hl.o hnl);have HF:=hI (show faultN t l d=if !ordB d then 1 else if !cntB t d then 2 else if !outB t d then 3 else if !restB t l d then 4 else if !dayB t l d then 5 else 0 from rfl);clear hW0 h0 ht hA hn hd hl hz;have hnf:=fun(w:World) (f:Fn)=>neqF_some (P:=Tryz.prog) w 220 f #[] #[] Tryz.underlying220
 have hnn:=fun(w:World)=>neqF_nil (P:=Tryz.prog) w 220 Tryz.underlying220
 unfold stayV at H1 H2 H3 H4 H5;unfold stayV;go_enter Tryz.func107,Tryz.ntmps107;go_wp2_with (go_at_call 171;fail);rw[<- HW0.o];refine HR.o.mono ?_;rintro e w1 ⟨rfl,hw1⟩;have hb1:Bl W0 w1:=by rw[hw1];exact(Below.refl _ _).alloc (Nat.le_refl _) _
 have hr1:w1.heap[w.heap.size+1]? =some rulesO:=by rw[<- hs0,hw1];exact heap_alloc_new _ _
 have hz1:W0.heap.size<w1.heap.size:=by rw[hw1];simp
 have HR1:=hI hr1;have HB1:=hI hb1;clear hw1 hr1 hb1 HR;go_wp2;go_loopw [7] (fun v wr=>∃i:Nat,i<=6/\v= .int .i64 i/\Hid (Bl w1 wr)/\Hid ((2<=i->ordB d=true)/\(3<=i->cntB t d=true)/\(4<=i->outB t d=true)/\(5<=i->restB t l d=true)/\(6<=i->dayB t l d=true))) (fun v _=>6-(intOf v).toNat);case atStart=>exact⟨0,by omega,rfl,hI (Below.refl _ _),hI ⟨fun h=>absurd h (by decide),fun h=>absurd h (by decide),fun h=>absurd h (by decide),fun h=>absurd h (by decide),fun h=>absurd h (by decide)⟩⟩
 case round=>
  obtain⟨i,hi,rfl,Hb,Hinv⟩:=hrel;have hsr:=Hb.o.size;have HBr:=hI (HB1.o.trans (Hb.o.mono (by have:=HB1.o.size;omega)));have HBw:=hI (HB0.o.trans (HBr.o.mono (by omega)));have hq:=HQ.o wr HBr.o;unfold stayO at hq;have q0:wr.cell? ⟨w.heap.size,0,none⟩=some (.slice t.A t.rows.length t.c):=by simp only[World.cell?,hq];rfl
  have q1:wr.cell? ⟨w.heap.size,1,none⟩=some (.int .i64 t.rest):=by simp only[World.cell?,hq];rfl
  have q2:wr.cell? ⟨w.heap.size,2,none⟩=some (.int .i64 t.day):=by simp only[World.cell?,hq];rfl
  have q3:wr.cell? ⟨w.heap.size,3,none⟩=some (.string d.who):=by simp only[World.cell?,hq];rfl
  have q4:wr.cell? ⟨w.heap.size,4,none⟩=some (.int .i64 d.pr):=by simp only[World.cell?,hq];rfl
  have q5:wr.cell? ⟨w.heap.size,5,none⟩=some (.int .i64 d.tin):=by simp only[World.cell?,hq];rfl
  have q6:wr.cell? ⟨w.heap.size,6,none⟩=some (.int .i64 d.leave):=by simp only[World.cell?,hq];rfl
  have q7:wr.cell? ⟨w.heap.size,7,none⟩=some (.int .i64 d.out):=by simp only[World.cell?,hq];rfl
  have q8:wr.cell? ⟨w.heap.size,8,none⟩=some (.slice A n c):=by simp only[World.cell?,hq];rfl
  have hr:=(Hb.o.block (w.heap.size+1) (by omega)).trans HR1.o;unfold rulesO at hr;clear hq;rcases i with _ | _ | _ | _ | _ | _ | _ | i
  ·have r0:wr.cell? ⟨w.heap.size+1,0,none⟩=some .nilFunc:=by simp only[World.cell?,hr];rfl
   clear hr;go_wp2;go_roundw;case rel=>exact⟨1,by omega,by go_num,Hb,hI ⟨fun h=>absurd h (by omega),fun h=>absurd h (by omega),fun h=>absurd h (by omega),fun h=>absurd h (by omega),fun h=>absurd h (by omega)⟩⟩
   case measure=>simp[intOf]
  ·have r0:wr.cell? ⟨w.heap.size+1,1,none⟩=some (.func (.func 196) #[] #[]):=by simp only[World.cell?,hr];rfl
   clear hr;have HK:=hI (H1.o wr);cases hR:ordB d
   ·rw[hR] at HK;have HE:=hI (show faultN t l d=1 by rw[HF.o,hR];rfl);go_wp2_with (go_at_call 196;refine HK.o.mono ?_;rintro e w2 ⟨rfl,hb2⟩;have Hb2:=hI hb2;clear hb2);go_ret;exact⟨by rw[HE.o];rfl,HBw.o.trans (Hb2.o.mono (by omega))⟩
   ·rw[hR] at HK;go_wp2_with (go_at_call 196;refine HK.o.mono ?_;rintro e w2 ⟨rfl,hb2⟩;have Hb2:=hI hb2;clear hb2);go_roundw;case rel=>exact⟨2,by omega,by go_num,hI (Hb.o.trans (Hb2.o.mono hsr)),hI ⟨(fun _=>by first | exact hR | trivial),fun h=>absurd h (by omega),fun h=>absurd h (by omega),fun h=>absurd h (by omega),fun h=>absurd h (by omega)⟩⟩
    case measure=>simp[intOf]
  ·have r0:wr.cell? ⟨w.heap.size+1,2,none⟩=some (.func (.func 197) #[] #[]):=by simp only[World.cell?,hr];rfl
   clear hr;have HK:=hI (H2.o wr HBr.o);cases hR:cntB t d
   ·rw[hR] at HK;have HE:=hI (show faultN t l d=2 by rw[HF.o,Hinv.o.1 (by omega),hR];rfl);go_wp2_with (go_at_call 197;refine HK.o.mono ?_;rintro e w2 ⟨rfl,hb2⟩;have Hb2:=hI hb2;clear hb2);go_ret;exact⟨by rw[HE.o];rfl,HBw.o.trans (Hb2.o.mono (by omega))⟩
   ·rw[hR] at HK;go_wp2_with (go_at_call 197;refine HK.o.mono ?_;rintro e w2 ⟨rfl,hb2⟩;have Hb2:=hI hb2;clear hb2);go_roundw;case rel=>exact⟨3,by omega,by go_num,hI (Hb.o.trans (Hb2.o.mono hsr)),hI ⟨fun _=>Hinv.o.1 (by omega),(fun _=>by first | exact hR | trivial),fun h=>absurd h (by omega),fun h=>absurd h (by omega),fun h=>absurd h (by omega)⟩⟩
    case measure=>simp[intOf]
  ·have r0:wr.cell? ⟨w.heap.size+1,3,none⟩=some (.func (.func 198) #[] #[]):=by simp only[World.cell?,hr];rfl
   clear hr;have HK:=hI (H3.o wr HBr.o);cases hR:outB t d
   ·rw[hR] at HK;have HE:=hI (show faultN t l d=3 by rw[HF.o,Hinv.o.1 (by omega),Hinv.o.2.1 (by omega),hR];rfl);go_wp2_with (go_at_call 198;refine HK.o.mono ?_;rintro e w2 ⟨rfl,hb2⟩;have Hb2:=hI hb2;clear hb2);go_ret;exact⟨by rw[HE.o];rfl,HBw.o.trans (Hb2.o.mono (by omega))⟩
   ·rw[hR] at HK;go_wp2_with (go_at_call 198;refine HK.o.mono ?_;rintro e w2 ⟨rfl,hb2⟩;have Hb2:=hI hb2;clear hb2);go_roundw;case rel=>exact⟨4,by omega,by go_num,hI (Hb.o.trans (Hb2.o.mono hsr)),hI ⟨fun _=>Hinv.o.1 (by omega),fun _=>Hinv.o.2.1 (by omega),(fun _=>by first | exact hR | trivial),fun h=>absurd h (by omega),fun h=>absurd h (by omega)⟩⟩
    case measure=>simp[intOf]
  ·have r0:wr.cell? ⟨w.heap.size+1,4,none⟩=some (.func (.func 199) #[] #[]):=by simp only[World.cell?,hr];rfl
   clear hr;have HK:=hI (H4.o wr HBr.o);cases hR:restB t l d
   ·rw[hR] at HK;have HE:=hI (show faultN t l d=4 by rw[HF.o,Hinv.o.1 (by omega),Hinv.o.2.1 (by omega),Hinv.o.2.2.1 (by omega),hR];rfl);go_wp2_with (go_at_call 199;refine HK.o.mono ?_;rintro e w2 ⟨rfl,hb2⟩;have Hb2:=hI hb2;clear hb2);go_ret;exact⟨by rw[HE.o];rfl,HBw.o.trans (Hb2.o.mono (by omega))⟩
   ·rw[hR] at HK;go_wp2_with (go_at_call 199;refine HK.o.mono ?_;rintro e w2 ⟨rfl,hb2⟩;have Hb2:=hI hb2;clear hb2);go_roundw;case rel=>exact⟨5,by omega,by go_num,hI (Hb.o.trans (Hb2.o.mono hsr)),hI ⟨fun _=>Hinv.o.1 (by omega),fun _=>Hinv.o.2.1 (by omega),fun _=>Hinv.o.2.2.1 (by omega),(fun _=>by first | exact hR | trivial),fun h=>absurd h (by omega)⟩⟩
    case measure=>simp[intOf]
  ·have r0:wr.cell? ⟨w.heap.size+1,5,none⟩=some (.func (.func 200) #[] #[]):=by simp only[World.cell?,hr];rfl
   clear hr;have HK:=hI (H5.o wr HBr.o);cases hR:dayB t l d
   ·rw[hR] at HK;have HE:=hI (show faultN t l d=5 by rw[HF.o,Hinv.o.1 (by omega),Hinv.o.2.1 (by omega),Hinv.o.2.2.1 (by omega),Hinv.o.2.2.2.1 (by omega),hR];rfl);go_wp2_with (go_at_call 200;refine HK.o.mono ?_;rintro e w2 ⟨rfl,hb2⟩;have Hb2:=hI hb2;clear hb2);go_ret;exact⟨by rw[HE.o];rfl,HBw.o.trans (Hb2.o.mono (by omega))⟩
   ·rw[hR] at HK;go_wp2_with (go_at_call 200;refine HK.o.mono ?_;rintro e w2 ⟨rfl,hb2⟩;have Hb2:=hI hb2;clear hb2);go_roundw;case rel=>exact⟨6,by omega,by go_num,hI (Hb.o.trans (Hb2.o.mono hsr)),hI ⟨fun _=>Hinv.o.1 (by omega),fun _=>Hinv.o.2.1 (by omega),fun _=>Hinv.o.2.2.1 (by omega),fun _=>Hinv.o.2.2.2.1 (by omega),(fun _=>by first | exact hR | trivial)⟩⟩
    case measure=>simp[intOf]
  ·have HE:=hI (show faultN t l d=0 by rw[HF.o,Hinv.o.1 (by omega),Hinv.o.2.1 (by omega),Hinv.o.2.2.1 (by omega),Hinv.o.2.2.2.1 (by omega),Hinv.o.2.2.2.2 (by omega)];rfl);go_wp2;go_ret;exact⟨by rw[HE.o];rfl,HBw.o⟩
  ·omega
end Go.Proofs.YtjpgnfekbojcaaaGreat
