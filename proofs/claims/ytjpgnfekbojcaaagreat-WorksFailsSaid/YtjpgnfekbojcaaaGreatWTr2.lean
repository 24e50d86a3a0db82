/- Is a job too great to be asked: the law's heavy returns;what its no says. -/
import Derived.Test.YtjpgnfekbojcaaaGreatWJob2
set_option maxHeartbeats 8000000
set_option maxRecDepth 100000
namespace Go.Proofs.YtjpgnfekbojcaaaGreat
open Go.RowKit W7 W8
attribute [local go_sem] Oper.semAt_some
structure HeavyR (n m:Nat) (T:Int) (w:World) (e:Ending) (w':World):Prop where
 ex:∃b,e= .returned (.bool b)/\(b=false->n<=80/\m<=20/\((n:Int)<=T\/64<n))
 bel:Bl w w'
theorem heavy_any (j:Job) (T:Int) (B:Nat) (w:World) (hj:JIn w B j) (hB:B<=w.heap.size) :
  Calls Tryz.prog 15 #[jobV j,.int .i64 T] w (HeavyR j.tasks.length j.res.length T w):=by
 obtain⟨n,hn⟩:=eX j.tasks.length;obtain⟨m,hm⟩:=eX j.res.length;obtain⟨TA,hTA⟩:=eX j.TA;obtain⟨RA,hRA⟩:=eX j.RA;have hjv:jobV j= .agg #[.slice TA n j.tc,.slice RA m j.rc]:=by unfold jobV;rw[hn,hm,hTA,hRA]
 rw[hjv,hn,hm];obtain⟨W0,HW0,hs0,HB0,HX00,HU0⟩:=boxes1 w (.cells #[.slice TA n j.tc,.slice RA m j.rc] 25);have HJ:=hI (show ∀X:World,Bl W0 X->JIn X B j from fun X hX=>hj.below ((HU0.o X hX).mono hB));have htl:=hj.tl;have htc:=hj.tc;have hrl:=hj.rl;have hrc:=hj.rc;rw[hn] at htl;rw[hm] at hrl;have Hn:=hI hn;have Hm:=hI hm;have HTA:=hI hTA;have HRA:=hI hRA;clear hj hn hm hTA hRA hjv;have q0:=kC 0 (HX00.o W0 (zX _ _)) rfl;have q1:=kC 1 (HX00.o W0 (zX _ _)) rfl;go_enter Tryz.func15,Tryz.ntmps15;go_upto_region 1 with fail;rw[<- HW0.o]
 go_cut [42] (fun v42 wx=>∃hb:Bool,v42= .bool hb/\Hid (hb=false->n<=80/\m<=20/\((n:Int)<=T\/64<n))/\wx=W0)
 case first=>
  cases a2:decide ((n:Int)>T)
  ·have hT:(n:Int)<=T\/64<n:= .inl (by have:=zH a2;omega);cases a1:decide ((n:Int)>80);rotate_left
   ·go_wp2;go_meet;exact⟨true,rfl,hI (fun h=>(by cases h)),rfl⟩
   have b1:n<=80:=by have:=zH a1;omega
   cases a5:decide ((m:Int)>4)
   ·have a4:decide ((m:Int)>20)=false:=zE (by have:=zH a5;omega);have b2:m<=20:=by have:=zH a4;omega
    go_wp2;go_meet;exact⟨false,rfl,hI (fun _=>⟨b1,b2,hT⟩),rfl⟩
   cases a6:decide ((m:Int)<=16);rotate_left
   ·go_wp2;go_meet;exact⟨true,rfl,hI (fun h=>(by cases h)),rfl⟩
   cases a4:decide ((m:Int)>20);rotate_left
   ·go_wp2;go_meet;exact⟨true,rfl,hI (fun h=>(by cases h)),rfl⟩
   have b2:m<=20:=by have:=zH a4;omega
   go_wp2;go_meet;exact⟨false,rfl,hI (fun _=>⟨b1,b2,hT⟩),rfl⟩
  cases a3:decide ((n:Int)<=64)
  ·have hT:(n:Int)<=T\/64<n:= .inr (by have:=zH a3;omega);cases a1:decide ((n:Int)>80);rotate_left
   ·go_wp2;go_meet;exact⟨true,rfl,hI (fun h=>(by cases h)),rfl⟩
   have b1:n<=80:=by have:=zH a1;omega
   cases a5:decide ((m:Int)>4)
   ·have a4:decide ((m:Int)>20)=false:=zE (by have:=zH a5;omega);have b2:m<=20:=by have:=zH a4;omega
    go_wp2;go_meet;exact⟨false,rfl,hI (fun _=>⟨b1,b2,hT⟩),rfl⟩
   cases a6:decide ((m:Int)<=16);rotate_left
   ·go_wp2;go_meet;exact⟨true,rfl,hI (fun h=>(by cases h)),rfl⟩
   cases a4:decide ((m:Int)>20);rotate_left
   ·go_wp2;go_meet;exact⟨true,rfl,hI (fun h=>(by cases h)),rfl⟩
   have b2:m<=20:=by have:=zH a4;omega
   go_wp2;go_meet;exact⟨false,rfl,hI (fun _=>⟨b1,b2,hT⟩),rfl⟩
  go_wp2;go_meet;exact⟨true,rfl,hI (fun h=>(by cases h)),rfl⟩
 case rest=>
  obtain⟨hb,rfl,Hbb,hwc⟩:=hcut;have hwc':=hwc.symm;subst hwc';clear q0 q1;cases hb;rotate_left
  ·have HY:=hI HB0.o;go_wp2;go_ret;exact⟨⟨true,rfl,fun h=>(by cases h)⟩,HY.o⟩
  have Hyes:=hI (Hbb.o rfl);clear Hbb;go_wp2;go_loopw [5,6] (fun v5 v6 wr=>∃(i:Nat) (x:Int),i<=m/\v6= .int .i64 i/\v5= .int .i64 x/\Hid (Bl W0 wr)) (fun _ v6 _=>m-(intOf v6).toNat);case atStart=>exact⟨0,0,by omega,rfl,rfl,hI (zX _ _)⟩
  case round=>
   obtain⟨i,x,hi,rfl,rfl,Hb⟩:=hrel;have hsr:=Hb.o.size;have hq:=HX00.o wr Hb.o
   by_cases hlt:i<m
   ·have hil:i<j.res.length:=by have:=Hm.o;omega
    have hjn:=HJ.o wr Hb.o;obtain⟨rb,ro,hre,hrB⟩:=hjn.ra (by omega);have hRe:RA=some ⟨rb,ro,none⟩:=by rw[<- HRA.o];exact hre
    subst hRe;obtain⟨r0,r1,r2⟩:=hjn.rcells hre hil;have hnm:=(hjn.rss _ (j.R_mem hil)).nm;have hol:=(hjn.rss _ (j.R_mem hil)).ol;have hoc:=(hjn.rss _ (j.R_mem hil)).oc;generalize j.R i=rs at r0 r1 r2 hnm hol hoc;have y1:=zV (kC 1 hq rfl) (by omega);have z0:=zV r0 (by omega);have z2:=zV r2 (by omega);have q0:=kC 0 hq rfl;have q1:=kC 1 hq rfl;clear r0 r1 r2 hjn hre hil;go_upto_region 7 with fail;clear q0 q1 hq;refine wp_region_later (by kernel_rfl) (by kernel_rfl) ?_
    repeat (any_goals (first | go_big_quiet_step ((fail)) | quiet_step ((fail))))
    refine wpQuiet_nil ?_;rintro w' ⟨e5,rfl⟩;have Hb5:=hI (Hb.o.trans (e5.b.mono hsr));clear y1 z0 z2;go_wp2;go_roundw;case rel=>exact⟨i+1,_,by omega,by go_num,rfl,Hb5⟩
    case measure=>simp[intOf];omega
   ·have Hb0:=hI Hb.o;have q0:=kC 0 hq rfl;have q1:=kC 1 hq rfl;go_wp2;clear q0 q1 hq Hb;go_loopw [5,7] (fun v5 v7 wr=>∃(i:Nat) (x:Int),i<=n/\v7= .int .i64 i/\v5= .int .i64 x/\Hid (Bl W0 wr)) (fun _ v7 _=>n-(intOf v7).toNat);case atStart=>exact⟨0,x,by omega,rfl,rfl,Hb0⟩
    case round=>
     obtain⟨i2,x2,hi2,rfl,rfl,Hb⟩:=hrel;clear Hb0;have hsr:=Hb.o.size;have hq:=HX00.o wr Hb.o;have HUx:=hI (HU0.o wr Hb.o)
     by_cases hlt2:i2<n
     rotate_left
     ·skip;have q0:=kC 0 hq rfl;have q1:=kC 1 hq rfl;clear hq;go_wp2;go_ret;exact⟨⟨_,rfl,fun _=>Hyes.o⟩,HUx.o⟩
     cases hx:decide (x2<1000)
     ·skip;have q0:=kC 0 hq rfl;have q1:=kC 1 hq rfl;clear hq;go_wp2;go_ret;exact⟨⟨_,rfl,fun _=>Hyes.o⟩,HUx.o⟩
     have hil:i2<j.tasks.length:=by have:=Hn.o;omega
     have hjn:=HJ.o wr Hb.o;obtain⟨tb,off,hTb,htb⟩:=hjn.ta (by omega);have hTe:TA=some ⟨tb,off,none⟩:=by rw[<- HTA.o];exact hTb
     subst hTe;obtain⟨c0,c1,c2,c3⟩:=hjn.tcells hTb hil;have hnm:=(hjn.tks _ (j.T_mem hil)).nm;have hnl:=(hjn.tks _ (j.T_mem hil)).nl;have hnc:=(hjn.tks _ (j.T_mem hil)).nc;have hul:=(hjn.tks _ (j.T_mem hil)).ul;have huc:=(hjn.tks _ (j.T_mem hil)).uc;generalize j.T i2=t at c0 c1 c2 c3 hnm hnl hnc hul huc;have y0:=zV (kC 0 hq rfl) (by omega);have z0:=zV c0 (by omega);have z2:=zV c2 (by omega);have z3:=zV c3 (by omega);have q0:=kC 0 hq rfl;have q1:=kC 1 hq rfl;clear c0 c1 c2 c3 hjn hTb hil;go_upto_region 11 with fail;clear q0 q1 hq;refine wp_region_later (by kernel_rfl) (by kernel_rfl) ?_
     repeat (any_goals (first | go_big_quiet_step ((fail)) | quiet_step ((fail))))
     refine wpQuiet_nil ?_;rintro w' ⟨e5,rfl⟩;have Hb5:=hI (Hb.o.trans (e5.b.mono hsr));clear y0 z0 z2 z3;go_wp2;go_roundw;case rel=>exact⟨i2+1,_,by omega,by go_num,rfl,Hb5⟩
     case measure=>simp[intOf];omega
end Go.Proofs.YtjpgnfekbojcaaaGreat
namespace W7
open Go Go.RowKit
theorem wp_region_later {P:Program} {id:Nat} {Q:Exit->Act->World->Prop} {a:Act} {w:World} {l:List Oper} (hm:P.follows .mixedOrders=true) (hB:Region.lexB .any l.toArray=true)
  (h:wpQuiet P l.toArray (fun w'=>∃e:Later w,w'=e.w) (fun a'=>∀w',(∃e:Later w,w'=e.w)->Q .normal a' w') l a):(Code.region id l.toArray true).wp P Q a w:=
 wp_region_quiet (C:=fun w'=>∃e:Later w,w'=e.w) hm hB ⟨⟨_,(zX w.heap.size w).drew⟩,rfl⟩ (by simpa using h)
theorem wp_region_later_tail {P:Program} {id:Nat} {Q:Exit->Act->World->Prop} {a:Act} {w:World} {l:List Oper} (n:Nat) (hm:P.follows .mixedOrders=true) (hB:Region.lexTailB .any l.toArray n=true)
  (h:wpQuiet P l.toArray (fun w'=>∃e:Later w,w'=e.w) (fun a'=>∀w',(∃e:Later w,w'=e.w)->wpList P l.toArray Q (l.drop n) a' w') (l.take n) a):(Code.region id l.toArray true).wp P Q a w:=
 wp_region_class_tail n hm hB ⟨⟨_,(zX w.heap.size w).drew⟩,rfl⟩ h
end W7
namespace Go.Proofs.YtjpgnfekbojcaaaGreat
open Go.RowKit W7 W8
attribute [local go_sem] Oper.semAt_some
theorem room1_any (x:Int) (w:World):Calls Tryz.prog 80 #[.int .i64 x] w fun e w'=>e= .returned (.bool (!okRoom x))/\w=w':=by
 unfold okRoom;go_enter Tryz.func80,Tryz.ntmps80;go_wp2_with (go_at_call 62;refine(within_any _ _ _ _).mono ?_;rintro e w' ⟨rfl,rfl⟩);go_ret;exact⟨rfl,rfl⟩
theorem idxRoom_any (xs:List Int) (n:Nat) (hn:n=xs.length) (A:Option Addr) (c B:Nat) (w:World) (hA:Sl w B 1 encInt1 A xs) (_hB:B<=w.heap.size) (hl:xs.length<=1000000000) :
  Calls Tryz.prog 132 #[.slice A n c,.func (.func 80) #[] #[]] w fun e w'=>e= .returned (.int .i64 (idxB (fun x=> !okRoom x) xs))/\Bl w w':=by
 subst hn;have HA:=hI hA;clear hA;go_enter Tryz.func132,Tryz.ntmps132;go_wp2;go_loopw [8] (fun i wr=>∃k:Nat,k<=xs.length/\i= .int .i64 k/\Hid ((xs.take k).any (fun x=> !okRoom x)=false)/\Hid (w=wr)) (fun i _=>xs.length-(intOf i).toNat);case atStart=>exact⟨0,by omega,rfl,hI (by simp),hI rfl⟩
 case round=>
  obtain⟨k,hk,rfl,Hno,hwr⟩:=hrel;obtain rfl:=hwr.out
  by_cases hlt:k<xs.length
  ·obtain⟨b,off,rfl,hbB,hcells⟩:=HA.o (by omega);have c0:w.cell? ⟨b,off+k,none⟩=some (.int .i64 xs[k]):=by have h:=hcells k hlt 0 _ rfl;rwa [Nat.mul_one,Nat.add_zero] at h
   have Hs:=hI (any_take_succ (p:=fun x=> !okRoom x) hlt Hno.o);have Hh:=hI (idxB_hit (p:=fun x=> !okRoom x) hlt Hno.o);generalize xs[k]=x at c0 Hs Hh;clear hcells;cases hp:okRoom x
   ·have HI:=hI (Hh.o (by rw[hp];rfl));go_wp2_with (go_at_call 80;refine(room1_any x _).mono ?_;rintro e w1 ⟨rfl,rfl⟩);go_ret;exact⟨ret_int HI.o.symm,zX _ _⟩
   ·have HN:=hI (Hs.o (by rw[hp];rfl));go_wp2_with (go_at_call 80;refine(room1_any x _).mono ?_;rintro e w1 ⟨rfl,rfl⟩);go_roundw;case rel=>exact⟨k+1,by omega,by go_num,HN,hI trivial⟩
    case measure=>simp[intOf];omega
  ·have HN:=hI (idxB_none (p:=fun x=> !okRoom x) (xs:=xs) (by rw[<- Hno.o,zG (by omega)]));go_wp2;go_ret;exact⟨ret_int HN.o.symm,zX _ _⟩
theorem conRoom_any (xs:List Int) (n:Nat) (hn:n=xs.length) (A:Option Addr) (c B:Nat) (w:World) (hA:Sl w B 1 encInt1 A xs) (hB:B<=w.heap.size) (hl:xs.length<=1000000000) :
  Calls Tryz.prog 60 #[.slice A n c,.func (.func 80) #[] #[]] w fun e w'=>e= .returned (.bool (!xs.all okRoom))/\Bl w w':=by
 have H:=hI (idxRoom_any xs n hn A c B w hA hB hl);have HB:=hI (show xs.any (fun x=> !okRoom x)= !xs.all okRoom by rw[List.not_all_eq_any_not]);clear hA hn;go_enter Tryz.func60,Tryz.ntmps60;go_wp2_with (go_at_call 132;refine H.o.mono ?_;rintro e w1 ⟨rfl,hb1⟩);go_ret;exact⟨ret_bool (idxB_any.trans HB.o),hb1⟩
theorem run1_any (x:Int) (w:World):Calls Tryz.prog 81 #[.int .i64 x] w fun e w'=>e= .returned (.bool (!okRun x))/\w=w':=by
 unfold okRun;go_enter Tryz.func81,Tryz.ntmps81;go_wp2_with (go_at_call 62;refine(within_any _ _ _ _).mono ?_;rintro e w' ⟨rfl,rfl⟩);go_ret;exact⟨rfl,rfl⟩
theorem idxRun_any (xs:List Int) (n:Nat) (hn:n=xs.length) (A:Option Addr) (c B:Nat) (w:World) (hA:Sl w B 1 encInt1 A xs) (_hB:B<=w.heap.size) (hl:xs.length<=1000000000) :
  Calls Tryz.prog 132 #[.slice A n c,.func (.func 81) #[] #[]] w fun e w'=>e= .returned (.int .i64 (idxB (fun x=> !okRun x) xs))/\Bl w w':=by
 subst hn;have HA:=hI hA;clear hA;go_enter Tryz.func132,Tryz.ntmps132;go_wp2;go_loopw [8] (fun i wr=>∃k:Nat,k<=xs.length/\i= .int .i64 k/\Hid ((xs.take k).any (fun x=> !okRun x)=false)/\Hid (w=wr)) (fun i _=>xs.length-(intOf i).toNat);case atStart=>exact⟨0,by omega,rfl,hI (by simp),hI rfl⟩
 case round=>
  obtain⟨k,hk,rfl,Hno,hwr⟩:=hrel;obtain rfl:=hwr.out
  by_cases hlt:k<xs.length
  ·obtain⟨b,off,rfl,hbB,hcells⟩:=HA.o (by omega);have c0:w.cell? ⟨b,off+k,none⟩=some (.int .i64 xs[k]):=by have h:=hcells k hlt 0 _ rfl;rwa [Nat.mul_one,Nat.add_zero] at h
   have Hs:=hI (any_take_succ (p:=fun x=> !okRun x) hlt Hno.o);have Hh:=hI (idxB_hit (p:=fun x=> !okRun x) hlt Hno.o);generalize xs[k]=x at c0 Hs Hh;clear hcells;cases hp:okRun x
   ·have HI:=hI (Hh.o (by rw[hp];rfl));go_wp2_with (go_at_call 81;refine(run1_any x _).mono ?_;rintro e w1 ⟨rfl,rfl⟩);go_ret;exact⟨ret_int HI.o.symm,zX _ _⟩
   ·have HN:=hI (Hs.o (by rw[hp];rfl));go_wp2_with (go_at_call 81;refine(run1_any x _).mono ?_;rintro e w1 ⟨rfl,rfl⟩);go_roundw;case rel=>exact⟨k+1,by omega,by go_num,HN,hI trivial⟩
    case measure=>simp[intOf];omega
  ·have HN:=hI (idxB_none (p:=fun x=> !okRun x) (xs:=xs) (by rw[<- Hno.o,zG (by omega)]));go_wp2;go_ret;exact⟨ret_int HN.o.symm,zX _ _⟩
theorem conRun_any (xs:List Int) (n:Nat) (hn:n=xs.length) (A:Option Addr) (c B:Nat) (w:World) (hA:Sl w B 1 encInt1 A xs) (hB:B<=w.heap.size) (hl:xs.length<=1000000000) :
  Calls Tryz.prog 60 #[.slice A n c,.func (.func 81) #[] #[]] w fun e w'=>e= .returned (.bool (!xs.all okRun))/\Bl w w':=by
 have H:=hI (idxRun_any xs n hn A c B w hA hB hl);have HB:=hI (show xs.any (fun x=> !okRun x)= !xs.all okRun by rw[List.not_all_eq_any_not]);clear hA hn;go_enter Tryz.func60,Tryz.ntmps60;go_wp2_with (go_at_call 132;refine H.o.mono ?_;rintro e w1 ⟨rfl,hb1⟩);go_ret;exact⟨ret_bool (idxB_any.trans HB.o),hb1⟩
theorem CheckLine_any (l:Line) (B:Nat) (w:World) (hl:LnIn w B l) (hB:B<=w.heap.size) :
  Calls Tryz.prog 26 #[lineV l] w fun e w'=>e= .returned (.int .i64 (lineErr l))/\Bl w w':=by
 obtain⟨RA,hRA⟩:=eX l.RA;obtain⟨MA,hMA⟩:=eX l.MA;obtain⟨r,hr⟩:=eX l.run.length;obtain⟨m,hm⟩:=eX l.room.length;obtain⟨hs1,hs2,h1,h2,h3,h4⟩:=hl;rw[hRA] at hs1;rw[hMA] at hs2;rw[hr] at h1;rw[hm] at h3;obtain⟨W0,hW0⟩:=eY (w.alloc (.cells #[.slice RA r l.rc,.slice MA m l.mc] 52));have hs0:W0.heap.size=w.heap.size+1:=by rw[hW0];simp
 have HB0:=hI (show Bl w W0 by rw[hW0];exact(zX _ _).alloc (zm _) _);have q0:W0.cell? ⟨w.heap.size,0,none⟩=some (.slice RA r l.rc):=by rw[hW0];exact alloc_cell rfl
 have q1:W0.cell? ⟨w.heap.size,1,none⟩=some (.slice MA m l.mc):=by rw[hW0];exact alloc_cell rfl
 have Q0:=hI q0;have Q1:=hI q1;have HRu:=hI (hs1.below (HB0.o.mono hB));have HRo:=hI (hs2.below (HB0.o.mono hB));have HW0:=hI hW0;have Hr:=hI hr;have Hm:=hI hm;have HE:=hI (show lineErr l=(if 16<m then 3 else if m=0\/r+1≠m then 1 else if l.room.all okRoom&&l.run.all okRun then 0 else 1) by unfold lineErr;rw[hr,hm]);unfold lineV;rw[hRA,hMA,hr,hm];clear hW0 hs1 hs2 hr hm hRA hMA
 by_cases h16:16<m
 ·have HE2:=hI (show lineErr l=3 by rw[HE.o,if_pos h16]);go_enter Tryz.func26,Tryz.ntmps26;go_upto_region 1 with fail;rw[<- HW0.o];go_wp2;go_ret;exact⟨ret_int HE2.o.symm,HB0.o⟩
 by_cases hm0:m=0
 ·have hm0':((m:Int)==0)=true:=by rw[hm0];rfl
  have HE2:=hI (show lineErr l=1 by rw[HE.o,if_neg h16,if_pos (.inl hm0)]);clear hm0;go_enter Tryz.func26,Tryz.ntmps26;go_upto_region 1 with fail;rw[<- HW0.o];go_wp2;go_ret;exact⟨ret_int HE2.o.symm,HB0.o⟩
 have hm0':((m:Int)==0)=false:=beq_false_of_ne (by omega)
 by_cases hrm:r+1=m
 rotate_left
 ·have hrm':((r:Int) != (m:Int)-1)=true:=bne_iff_ne.2 (by omega);have HE2:=hI (show lineErr l=1 by rw[HE.o,if_neg h16,if_pos (.inr hrm)]);go_enter Tryz.func26,Tryz.ntmps26;go_upto_region 1 with fail;rw[<- HW0.o];go_wp2;go_ret;exact⟨ret_int HE2.o.symm,HB0.o⟩
 have hrm':((r:Int) != (m:Int)-1)=false:=by
  rw[show(r:Int)=(m:Int)-1 by omega];simp
 have HE2:=hI (show lineErr l=(if l.room.all okRoom&&l.run.all okRun then 0 else 1) by rw[HE.o,if_neg h16,if_neg (by omega)]);have hrle:r<=1000:=by omega
 clear hrm;have HC1:=hI (conRoom_any l.room m Hm.o.symm MA l.mc B W0 HRo.o (by omega) (by rw[Hm.o];omega));cases hA:l.room.all okRoom
 ·have HE3:=hI (show lineErr l=1 by rw[HE2.o,hA];rfl);rw[hA] at HC1;go_enter Tryz.func26,Tryz.ntmps26;go_upto_region 1 with fail;rw[<- HW0.o];go_wp2_with (go_at_call 60;fail);refine HC1.o.mono ?_;rintro e w1 ⟨rfl,hb1⟩;have Hb1:=hI (HB0.o.trans (hb1.mono (by omega)));clear hb1;go_wp2;go_ret;exact⟨ret_int HE3.o.symm,Hb1.o⟩
 ·rw[hA] at HC1;go_enter Tryz.func26,Tryz.ntmps26;go_upto_region 1 with fail;rw[<- HW0.o];go_wp2_with (go_at_call 60;fail);refine HC1.o.mono ?_;rintro e w1 ⟨rfl,hb1⟩;have hs1:=hb1.size;have HC2:=hI (conRun_any l.run r Hr.o.symm RA l.rc B w1 (HRu.o.below (hb1.mono (by omega))) (by omega) (by rw[Hr.o];omega));have p0:=(hb1.cell (p:=⟨w.heap.size,0,none⟩) (by simp;omega)).trans Q0.out;have Hb1:=hI (HB0.o.trans (hb1.mono (by omega)));clear hb1 q0 q1;cases hR:l.run.all okRun
  ·have HE3:=hI (show lineErr l=1 by rw[HE2.o,hA,hR];rfl);rw[hR] at HC2;go_wp2_with (go_at_call 60;fail);refine HC2.o.mono ?_;rintro e w2 ⟨rfl,hb2⟩;have Hb2:=hI (Hb1.o.trans (hb2.mono (by omega)));clear hb2;go_wp2;go_ret;exact⟨ret_int HE3.o.symm,Hb2.o⟩
  ·have HE3:=hI (show lineErr l=0 by rw[HE2.o,hA,hR];rfl);rw[hR] at HC2;go_wp2_with (go_at_call 60;fail);refine HC2.o.mono ?_;rintro e w2 ⟨rfl,hb2⟩;have Hb2:=hI (Hb1.o.trans (hb2.mono (by omega)));clear hb2;go_wp2;go_ret;exact⟨ret_int HE3.o.symm,Hb2.o⟩
end Go.Proofs.YtjpgnfekbojcaaaGreat
