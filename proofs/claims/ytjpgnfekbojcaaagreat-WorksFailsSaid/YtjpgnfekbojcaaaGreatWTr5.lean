/- The error of a timetable. -/
import Derived.Test.YtjpgnfekbojcaaaGreatWTr4
set_option maxHeartbeats 8000000
set_option maxRecDepth 100000
namespace Go.Proofs.YtjpgnfekbojcaaaGreat
open Go.RowKit W7 W8
attribute [local go_sem] Oper.semAt_some
def encWay (x:TWay):List Value:=[.slice x.A x.calls.length x.c]
def tabP (ways:List TWay):List (List TCall):=ways.map (·.calls)
structure TabIn (w:World) (B:Nat) (TA:Option Addr) (tn tc:Nat) (ways:List TWay):Prop where
 len:tn=ways.length
 le:tn<=tc
 cap:tc<=9223372036854775807
 sl:Sl w B 1 encWay TA ways
 way:∀x∈ways,Sl w B 3 encCall x.A x.calls/\x.calls.length<=x.c/\x.c<=9223372036854775807
theorem TabIn.below {w w':World} {B:Nat} {TA:Option Addr} {tn tc:Nat} {ways:List TWay} (h:TabIn w B TA tn tc ways) (hb:Below B w w'):TabIn w' B TA tn tc ways:=
 ⟨h.len,h.le,h.cap,h.sl.below hb,fun x hx=>⟨(h.way x hx).1.below hb,(h.way x hx).2⟩⟩
theorem LnIn.below {w w':World} {B:Nat} {l:Line} (h:LnIn w B l) (hb:Below B w w'):LnIn w' B l:=⟨h.run.below hb,h.room.below hb,h.rlc,h.rc2,h.mlc,h.mc2⟩
theorem TabIn.cell {w:World} {B:Nat} {TA:Option Addr} {tn tc:Nat} {ways:List TWay} (h:TabIn w B TA tn tc ways) {i:Nat} (hi:i<ways.length) :
  ∃b off,TA=some ⟨b,off,none⟩/\b<B/\w.cell? ⟨b,off+i,none⟩=some (.slice (ways.getD i default).A (ways.getD i default).calls.length (ways.getD i default).c):=by
 obtain⟨b,off,e,hb,hc⟩:=h.sl (by omega);refine⟨b,off,e,hb,?_⟩;have h1:=hc i hi 0 _ rfl;rw[Nat.mul_one,Nat.add_zero] at h1;rw[h1,zA,zB hi,Option.getD_some]
theorem way_mem {ways:List TWay} {i:Nat} (hi:i<ways.length):ways.getD i default∈ways:=by
 rw[zA,zB hi,Option.getD_some];exact zC hi
theorem tabP_getD {ways:List TWay} {i:Nat} (hi:i<ways.length):(tabP ways).getD i []=(ways.getD i default).calls:=by
 unfold tabP;rw[zA,List.getElem?_map,zB hi,zA,zB hi]
 rfl
theorem timetable_any (l:Line) (ways:List TWay) (TA:Option Addr) (tn tc B:Nat) (w:World) (hl:LnIn w B l) (ht:TabIn w B TA tn tc ways) (hB:B<=w.heap.size) :
  Calls Tryz.prog 84 #[lineV l,.slice TA tn tc] w fun e w'=>e= .returned (.int .i64 (tabErr l (tabP ways)))/\Bl w w':=by
 obtain⟨RA,hRA⟩:=eX l.RA;obtain⟨MA,hMA⟩:=eX l.MA;obtain⟨r,hr⟩:=eX l.run.length;obtain⟨m,hm⟩:=eX l.room.length;have h1:=hl.rlc;have h2:=hl.rc2;have h3:=hl.mlc;have h4:=hl.mc2;have htl:=ht.le;have htc:=ht.cap;have Hn:=hI ht.len;rw[hr] at h1;rw[hm] at h3;have hlv:lineV l= .agg #[.slice RA r l.rc,.slice MA m l.mc]:=by unfold lineV;rw[hRA,hMA,hr,hm]
 obtain⟨W0,hW0⟩:=eY (w.alloc (.cells #[.slice RA r l.rc,.slice MA m l.mc] 52));have hs0:W0.heap.size=w.heap.size+1:=by rw[hW0];simp
 have HB0:=hI (show Bl w W0 by rw[hW0];exact(zX _ _).alloc (zm _) _);have Q0:=hI (show W0.heap[w.heap.size]? =some (.cells #[.slice RA r l.rc,.slice MA m l.mc] 52 (0,0)) by rw[hW0];exact zW _ _)
 have HL:=hI (show ∀X,Bl W0 X->LnIn X B l/\TabIn X B TA tn tc ways from fun X hX=>by
  have h:=HB0.o.trans (hX.mono (by omega));exact⟨hl.below (h.mono hB),ht.below (h.mono hB)⟩)
 obtain⟨le,hle⟩:=eX (lineErr l);have HC:=hI (CheckLine_any l B W0 (HL.o W0 (zX _ _)).1 (by omega));rw[hlv,hle] at HC;rw[hlv];have Hlv:=hI hlv;have HW0:=hI hW0;have Hle:=hI hle;have Htl:=hI (show(tabP ways).length=tn by unfold tabP;rw[List.length_map,Hn.o]);have q0:=kC 0 Q0.out rfl;have q1:=kC 1 Q0.out rfl;clear hW0 hl ht hm hr hRA hMA hlv hle;go_enter Tryz.func84,Tryz.ntmps84;go_upto_region 1 with fail;rw[<- HW0.o];go_upto_region 2 with(go_at_call 26;go_loud (refine HC.o.mono ?_);rintro e w1 ⟨rfl,hb1⟩;have hs1:=hb1.size;have Hb1:=hI hb1;clear hb1)
 clear q0 q1 HC;cases h0:(le==0)
 ·have h0':(le != 0)=true:=by simp[bne,h0]
  have hne:le≠0:=fun h=>by rw[h] at h0;cases h0
  have HE:=hI (show tabErr l (tabP ways)=le by unfold tabErr;rw[if_pos (by rw[Hle.o];exact hne),Hle.o]);clear hne;go_wp2;go_ret;exact⟨ret_int HE.o.symm,HB0.o.trans (Hb1.o.mono (by omega))⟩
 have h0':(le != 0)=false:=by simp[bne,h0]
 have Hl0:=hI (show lineErr l=0 by rw[Hle.o];exact eq_of_beq h0)
 by_cases hn0:32<tn
 ·have HE:=hI (show tabErr l (tabP ways)=3 by unfold tabErr;rw[if_neg (by rw[Hl0.o];decide),if_pos (by rw[Htl.o];exact hn0)]);go_wp2;go_ret;exact⟨ret_int HE.o.symm,HB0.o.trans (Hb1.o.mono (by omega))⟩
 have HE:=hI (show tabErr l (tabP ways)=firstErr (tabErrAt l (tabP ways)) tn by unfold tabErr;rw[if_neg (by rw[Hl0.o];decide),if_neg (by rw[Htl.o];exact hn0),Htl.o]);go_wp2;go_loopw [19] (fun v19 wr=>∃i:Nat,i<=tn/\v19= .int .i64 i/\Hid (Bl W0 wr)/\Hid (firstErr (tabErrAt l (tabP ways)) i=0)) (fun v19 _=>tn-(intOf v19).toNat);case atStart=>exact⟨0,by omega,rfl,Hb1,hI rfl⟩
 case round=>
  obtain⟨i,hi,rfl,Hb,Hf⟩:=hrel;have hsr:=Hb.o.size
  by_cases hlt:i<tn
  ·have hil:i<ways.length:=by have:=Hn.o;omega
   have hin:=HL.o wr Hb.o;obtain⟨b,off,hTA,hbB,c0⟩:=hin.2.cell hil;subst hTA;have hw:=hin.2.way _ (way_mem hil);have HAt:=hI (show tabErrAt l (tabP ways) i=wayErr2 l (ways.getD i default).calls by unfold tabErrAt;rw[tabP_getD hil]);have Hat:=hI (show tabErrAt l (tabP ways) i≠0->tabErr l (tabP ways)=tabErrAt l (tabP ways) i from fun h=>HE.o.trans (firstErr_at Hf.o h hlt));have Hsn:=hI (show firstErr (tabErrAt l (tabP ways)) (i+1)=tabErrAt l (tabP ways) i from firstErr_succ Hf.o);obtain⟨x,hx⟩:=eX (ways.getD i default);rw[hx] at c0 hw HAt;have HW:=hI (CheckWay_any l x.calls x.A x.calls.length x.c B wr hin.1 hw.1 rfl hw.2.1 hw.2.2 (by omega));obtain⟨we,hwe⟩:=eX (wayErr2 l x.calls);rw[Hlv.o,hwe] at HW;rw[hwe] at HAt;obtain⟨cn,hcn⟩:=eX x.calls.length;rw[hcn] at c0 HW;have q0:=kC 0 ((Hb.o.block _ (by omega)).trans Q0.out) rfl;have q1:=kC 1 ((Hb.o.block _ (by omega)).trans Q0.out) rfl;clear hin hx hwe hcn hw
   cases h5:(we==0)
   ·have h5':(we != 0)=true:=by simp[bne,h5]
    have hne:we≠0:=fun h=>by rw[h] at h5;cases h5
    have HR:=hI (show tabErr l (tabP ways)=we by rw[Hat.o (by rw[HAt.o];exact hne),HAt.o]);clear hne;go_wp2_with (go_at_call 28;go_loud (refine HW.o.mono ?_);rintro e w5 ⟨rfl,hb5⟩;have Hb5:=hI hb5;clear hb5);go_ret;exact⟨ret_int HR.o.symm,HB0.o.trans ((Hb.o.trans (Hb5.o.mono (by omega))).mono (by omega))⟩
   ·have h5':(we != 0)=false:=by simp[bne,h5]
    have HN:=hI (show firstErr (tabErrAt l (tabP ways)) (i+1)=0 by rw[Hsn.o,HAt.o];exact eq_of_beq h5);go_wp2_with (go_at_call 28;go_loud (refine HW.o.mono ?_);rintro e w5 ⟨rfl,hb5⟩;have Hb5:=hI hb5;clear hb5);go_roundw;case rel=>exact⟨i+1,by omega,by go_num,hI (Hb.o.trans (Hb5.o.mono (by omega))),HN⟩
    case measure=>simp[intOf];omega
  ·have HR:=hI (show tabErr l (tabP ways)=0 by
    have h1:i=tn:=by omega
    rw[HE.o,<-h1];exact Hf.o)
   go_wp2;go_ret;exact⟨ret_int HR.o.symm,HB0.o.trans (Hb.o.mono (by omega))⟩
end Go.Proofs.YtjpgnfekbojcaaaGreat
namespace W8
def maxU (f:Nat->Nat):Nat->Nat
 | 0=>f 0
 | k+1=>max (maxU f k) (f (k+1))
theorem maxU_le (f:Nat->Nat) (r:Nat):∀k,maxU f k<=r↔∀t,t<=k->f t<=r
 | 0=>⟨fun h t ht=>(by obtain rfl:t=0:=(by omega);exact h),fun h=>h 0 (zm _)⟩
 | k+1=>by
  have ih:=maxU_le f r k;simp only[maxU]
  constructor
  ·intro h t ht
   by_cases h1:t<=k
   ·exact ih.1 (by omega) t h1
   ·obtain rfl:t=k+1:=by omega
    omega
  ·intro h;have h1:=ih.2 (fun t ht=>h t (by omega));have h2:=h (k+1) (zm _);omega
end W8
namespace Go.Proofs.YtjpgnfekbojcaaaGreat
open Go.RowKit W7 W8
attribute [local go_sem] Oper.semAt_some
def MinIn (X:World) (b:Nat) (f:Nat->Nat):Prop:=∃cs:Array Value,X.heap[b]? =some (.cells cs 195 (0,0))/\cs.size=100002/\∀t,t<100002->cs[t]? =some (.int .u16 (f t:Int))
theorem MinIn.cell {X:World} {b:Nat} {f:Nat->Nat} (h:MinIn X b f) {t:Nat} (ht:t<100002):X.cell? ⟨b,t,none⟩=some (.int .u16 (f t:Int)):=by
 obtain⟨cs,h1,_,h3⟩:=h;exact bc h1 (h3 t ht)
theorem MinIn.free {X:World} {b:Nat} {f:Nat->Nat} (h:MinIn X b f) (t:Nat):X.frozen? ⟨b,t,none⟩=false:=by
 obtain⟨cs,h1,_⟩:=h;exact W7.bf h1
theorem MinIn.lt {X:World} {b:Nat} {f:Nat->Nat} (h:MinIn X b f):b<X.heap.size:=by
 obtain⟨cs,h1,_⟩:=h;exact blk_lt h1
theorem MinIn.kept {X Y:World} {b:Nat} {f:Nat->Nat} (h:MinIn X b f) (hb:Y.heap[b]? =X.heap[b]?):MinIn Y b f:=by
 obtain⟨cs,h1,h2⟩:=h;exact⟨cs,hb.trans h1,h2⟩
theorem MinIn.put {X:World} {b:Nat} {f g:Nat->Nat} {k:Nat} (h:MinIn X b f) (hg:∀t,t<100002->g t=if t=k then f t+1 else f t) {v:Int} (hv:v=(f k:Int)+1):MinIn (X.setCell ⟨b,k,none⟩ (.int .u16 v)) b g:=by
 obtain⟨cs,h1,h2,h3⟩:=h;refine⟨cs.setIfInBounds k (.int .u16 v),blk_set h1 _,by simp[h2],fun t ht=> ?_⟩;rw[Array.getElem?_setIfInBounds,hg t ht]
 by_cases he:k=t
 ·subst he;rw[if_pos rfl,if_pos (by omega),if_pos rfl,hv]
  rfl
 ·rw[if_neg he,if_neg (fun e=>he e.symm)];exact h3 t ht
theorem MinIn.eq {X:World} {b:Nat} {f g:Nat->Nat} (h:MinIn X b f) (hg:∀t,t<100002->g t=f t):MinIn X b g:=by
 obtain⟨cs,h1,h2,h3⟩:=h;exact⟨cs,h1,h2,fun t ht=>by rw[h3 t ht,hg t ht]⟩
theorem grown_setM (X:World) (b k:Nat) (v:Value):X.grownBy (X.setCell ⟨b,k,none⟩ v) (some b):=⟨rfl,rfl,rfl,by simp[World.setCell],fun i _ hi=>Below.heap_setCell _ _ _ _ (fun e=>hi (by rw[e]))⟩
theorem add_any (b a:Nat) (z:Int) (f:Nat->Nat) (w:World) (h:MinIn w b f) (hf:∀t,t<100002->f t<=60000) (hz:z<=100001) (hz0: -1<=z) (_ha:a<=100000) :
  Calls Tryz.prog 148 #[.pointer (some ⟨b,0,none⟩),.int .i64 (a:Int),.int .i64 z] w fun e w'=>e= .returned (.tuple #[])/\w.grownBy w' (some b)/\MinIn w' b (fun t=>f t+if a<=t/\(t:Int)<=z then 1 else 0):=by
 have H0:=hI h;have Hf:=hI hf;clear h hf;go_enter Tryz.func148,Tryz.ntmps148;go_wp2;go_loopw [6] (fun v6 wr=>∃k:Nat,a<=k/\(k<=a\/(k:Int)<=z+1)/\v6= .int .i64 (k:Int)/\Hid (w.grownBy wr (some b))/\Hid (MinIn wr b (fun t=>f t+if a<=t/\(t:Int)<k then 1 else 0))) (fun v6 _=>(z+1-intOf v6).toNat);case atStart=>exact⟨a,zm _,.inl (zm _),rfl,hI (World.grownBy.refl _ _),hI (H0.o.eq (fun t _=>by rw[if_neg (by omega)];rfl))⟩
 case round=>
  obtain⟨k,hk,hk2,rfl,Hg,Hm⟩:=hrel
  by_cases hlt:(k:Int)<=z
  ·have hk3:k<100002:=by omega
   have c0:=Hm.o.cell hk3;have f0:=Hm.o.free k;simp only[Int.lt_irrefl,and_false,if_false,Nat.add_zero] at c0;have hfk:=Hf.o k hk3;obtain⟨fk,hfk2⟩:=eX (f k);have Hfk:=hI hfk2;rw[hfk2] at c0 hfk;clear hfk2;go_upto_region 3 with fail
   go_region
   obtain⟨W5,hW5⟩:=eY ((wr.setCell ⟨b,k,none⟩ (.int .u16 ((fk:Int)+1))).drew);rw[<- hW5];have HG:=hI (show w.grownBy W5 (some b) by rw[hW5];exact grown_trans (grown_trans Hg.o (grown_setM _ _ _ _)) ⟨rfl,rfl,rfl,zm _,fun _ _ _=>rfl⟩)
   have HM:=hI (show MinIn W5 b (fun t=>f t+if a<=t/\(t:Int)<((k+1:Nat):Int) then 1 else 0) by
    rw[hW5];refine(Hm.o.put (g:=fun t=>f t+if a<=t/\(t:Int)<((k+1:Nat):Int) then 1 else 0) (fun t _=> ?_) (v:=(fk:Int)+1) ?_).kept rfl
    ·by_cases he:t=k
     ·subst he;rw[if_pos (by omega),if_pos rfl,if_neg (by omega)]
     ·rw[if_neg he]
      congr 1
      by_cases h1:a<=t/\(t:Int)<k
      ·rw[if_pos h1,if_pos (by omega)]
      ·rw[if_neg h1,if_neg (by omega)]
    ·rw[if_neg (by omega),Hfk.o];rfl)
   clear hW5 c0 f0;go_wp2;go_roundw;case rel=>exact⟨k+1,by omega,by omega,by go_num,HG,HM⟩
   case measure=>simp[intOf];omega
  ·have HM:=hI (Hm.o.eq (g:=fun t=>f t+if a<=t/\(t:Int)<=z then 1 else 0) (fun t _=>by
    congr 1
    by_cases h1:a<=t/\(t:Int)<k
    ·rw[if_pos h1,if_pos (by omega)]
    ·rw[if_neg h1,if_neg (by omega)]))
   go_wp2;go_end0;exact⟨rfl,Hg.o,HM.o⟩
theorem maxK_run (P:Program) (k:IntKind) (ts:Array TypeId) (t:TypeId) (x y:Int) (w:World):(Builtin.max_ ts t #[.int k x,.int k y]).run P w= .ok (.int k (max x y)) w:=by
 rw[run_max_int2];have:(if y>x then y else x)=max x y:=by split<;>omega
 rw[this]
theorem max16N_any (N b:Nat) (f:Nat->Nat) (w:World) (h:∀t,t<N+1->w.cell? ⟨b,t,none⟩=some (.int .u16 (f t:Int))) (hN:(N:Int)<=1000000) (hX:∀k,k<=N->maxU f k<=60000) (hf:∀t,t<N+1->f t<=60000) (c:Nat) :
  Calls Tryz.prog 190 #[.slice (some ⟨b,0,none⟩) (N+1) c] w fun e w'=>e= .returned (.int .u16 (maxU f N:Int))/\w'=w:=by
 have H0:=hI h;have Hf:=hI hf;have HX:=hI hX;have hmx:=maxK_run Tryz.prog .u16;have c0:=h 0 (by omega);have hf0:=hf 0 (by omega);have H00:=hI (show maxU f 0=f 0 from rfl);generalize f 0=f0 at c0 hf0 H00;obtain⟨MX,hMX⟩:=eX (maxU f N);rw[hMX];have HMX:=hI hMX;obtain⟨M,hM⟩:=eX (N+1);rw[hM];have hNM:N<M:=by omega
 have HM:=hI hM;have hM2:(M:Int)<=1000001:=by omega
 clear h hf hX hMX hM;go_enter Tryz.func190,Tryz.ntmps190;go_wp2;go_loopw [3,4] (fun v3 v4 wr=>∃k:Nat,k<=N/\v4= .int .i64 ((k:Int)+1)/\v3= .int .u16 (maxU f k:Int)/\Hid (wr=w)) (fun _ v4 _=>(M-intOf v4).toNat);case atStart=>exact⟨0,by omega,rfl,by rw[H00.o],hI rfl⟩
 case round=>
  obtain⟨k,hk,rfl,rfl,hw⟩:=hrel;have:=hw.out;subst this;have hx0:=HX.o k hk
  by_cases hlt:k<N
  ·have c1:=H0.o (k+1) (by omega);have hf1:=Hf.o (k+1) (by omega);have hkM:k+1<M:=by have:=HM.o;omega
   have HN:=hI (show(maxU f (k+1):Int)=max (maxU f k:Int) (f (k+1):Int) by simp only[maxU];omega);generalize f (k+1)=f1 at c1 hf1 HN;generalize maxU f k=m0 at hx0 HN ⊢;go_wp2;go_roundw;case rel=>exact⟨k+1,by omega,by go_num,by rw[HN.o],hI trivial⟩
   case measure=>simp[intOf];omega
  ·have HR:=hI (show maxU f k=MX by rw[<- HMX.o];congr 1;omega);have hkM: ¬(k:Int)+1<(M:Int):=by have:=HM.o;omega
   have hkM2:M<=k+1:=by have:=HM.o;omega
   generalize maxU f k=m0 at hx0 HR;go_wp2;go_ret;exact⟨by rw[HR.o];rfl,rfl⟩
theorem max16_any (b:Nat) (f:Nat->Nat) (w:World) (h:MinIn w b f) (hf:∀t,t<100002->f t<=60000) (c:Nat) :
  Calls Tryz.prog 190 #[.slice (some ⟨b,0,none⟩) 100002 c] w fun e w'=>e= .returned (.int .u16 (maxU f 100001:Int))/\w'=w:=
 max16N_any 100001 b f w (fun t ht=>h.cell ht) (by decide) (fun k hk=>(maxU_le f 60000 k).2 (fun t ht=>hf t (by omega))) hf c
theorem most_any (b:Nat) (f:Nat->Nat) (w:World) (h:MinIn w b f) (hf:∀t,t<100002->f t<=60000) :
  Calls Tryz.prog 149 #[.pointer (some ⟨b,0,none⟩)] w fun e w'=>e= .returned (.int .i64 (maxU f 100001:Int))/\w'=w:=by
 have HM:=hI (max16_any b f w h hf);have hx:=(maxU_le f 60000 100001).2 (fun t ht=>hf t (by omega));generalize maxU f 100001=m at HM hx ⊢;clear h hf;go_enter Tryz.func149,Tryz.ntmps149;go_wp2_with (go_at_call 190;go_loud (refine(HM.o _).mono ?_);rintro e w1 ⟨rfl,rfl⟩);go_ret;exact⟨rfl,rfl⟩
end Go.Proofs.YtjpgnfekbojcaaaGreat
