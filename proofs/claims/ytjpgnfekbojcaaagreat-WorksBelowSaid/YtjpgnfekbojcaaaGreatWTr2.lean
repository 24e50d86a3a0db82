/- Lines of trains: slices.ContainsFunc over the numbers of a line. -/
import Derived.Test.YtjpgnfekbojcaaaGreatBase
set_option maxHeartbeats 4000000
set_option maxRecDepth 100000
namespace W7
open Go Go.RowKit
theorem wp_region_later {P:Program} {id:Nat} {Q:Exit->Act->World->Prop} {a:Act} {w:World} {l:List Oper} (hm:P.follows .mixedOrders=true) (hB:Region.lexB .any l.toArray=true)
  (h:wpQuiet P l.toArray (fun w'=>∃e:Later w,w'=e.w) (fun a'=>∀w',(∃e:Later w,w'=e.w)->Q .normal a' w') l a):(Code.region id l.toArray true).wp P Q a w:=
 wp_region_quiet (C:=fun w'=>∃e:Later w,w'=e.w) hm hB ⟨⟨_,(Below.refl w.heap.size w).drew⟩,rfl⟩ (by simpa using h)
theorem wp_region_later_tail {P:Program} {id:Nat} {Q:Exit->Act->World->Prop} {a:Act} {w:World} {l:List Oper} (n:Nat) (hm:P.follows .mixedOrders=true) (hB:Region.lexTailB .any l.toArray n=true)
  (h:wpQuiet P l.toArray (fun w'=>∃e:Later w,w'=e.w) (fun a'=>∀w',(∃e:Later w,w'=e.w)->wpList P l.toArray Q (l.drop n) a' w') (l.take n) a):(Code.region id l.toArray true).wp P Q a w:=
 wp_region_class_tail n hm hB ⟨⟨_,(Below.refl w.heap.size w).drew⟩,rfl⟩ h
end W7
namespace Go.Proofs.YtjpgnfekbojcaaaGreat
open Go.RowKit W7 W8
attribute [local go_sem] Oper.semAt_some
theorem room1_any (x:Int) (w:World):Calls Tryz.prog 80 #[.int .i64 x] w fun e w'=>e= .returned (.bool (!okRoom x))/\w=w':=by
 unfold okRoom;go_enter Tryz.func80,Tryz.ntmps80;go_wp2_with (go_at_call 62;refine(within_any _ _ _ _).mono ?_;rintro e w' ⟨rfl,rfl⟩);go_ret;exact⟨rfl,rfl⟩
theorem idxRoom_any (xs:List Int) (n:Nat) (hn:n=xs.length) (A:Option Addr) (c B:Nat) (w:World) (hA:Sl w B 1 encInt1 A xs) (_hB:B<=w.heap.size) (hl:xs.length<=1000000000) :
  Calls Tryz.prog 132 #[.slice A n c,.func (.func 80) #[] #[]] w fun e w'=>e= .returned (.int .i64 (idxB (fun x=> !okRoom x) xs))/\Bl w w':=by
 subst hn;have HA:=hI hA;clear hA;go_enter Tryz.func132,Tryz.ntmps132;go_wp2;go_loopw [8] (fun i wr=>∃k:Nat,k<=xs.length/\i= .int .i64 k/\Hid ((xs.take k).any (fun x=> !okRoom x)=false)/\Hid (w=wr)) (fun i _=>xs.length-(intOf i).toNat);case atStart=>exact⟨0,by omega,rfl,hI (by simp),hI rfl⟩
 case round=>
  obtain⟨k,hk,rfl,Hno,hwr⟩:=hrel;obtain rfl:=hwr.out
  by_cases hlt:k<xs.length
  ·obtain⟨b,off,rfl,hbB,hcells⟩:=HA.o (by omega);have c0:w.cell? ⟨b,off+k,none⟩=some (.int .i64 xs[k]):=by have h:=hcells k hlt 0 _ rfl;rwa [Nat.mul_one,Nat.add_zero] at h
   have Hs:=hI (any_take_succ (p:=fun x=> !okRoom x) hlt Hno.o);have Hh:=hI (idxB_hit (p:=fun x=> !okRoom x) hlt Hno.o);generalize xs[k]=x at c0 Hs Hh;clear hcells;cases hp:okRoom x
   ·have HI:=hI (Hh.o (by rw[hp];rfl));go_wp2_with (go_at_call 80;refine(room1_any x _).mono ?_;rintro e w1 ⟨rfl,rfl⟩);go_ret;exact⟨ret_int HI.o.symm,Below.refl _ _⟩
   ·have HN:=hI (Hs.o (by rw[hp];rfl));go_wp2_with (go_at_call 80;refine(room1_any x _).mono ?_;rintro e w1 ⟨rfl,rfl⟩);go_roundw;case rel=>exact⟨k+1,by omega,by go_num,HN,hI trivial⟩
    case measure=>simp[intOf];omega
  ·have HN:=hI (idxB_none (p:=fun x=> !okRoom x) (xs:=xs) (by rw[<- Hno.o,List.take_of_length_le (by omega)]));go_wp2;go_ret;exact⟨ret_int HN.o.symm,Below.refl _ _⟩
theorem conRoom_any (xs:List Int) (n:Nat) (hn:n=xs.length) (A:Option Addr) (c B:Nat) (w:World) (hA:Sl w B 1 encInt1 A xs) (hB:B<=w.heap.size) (hl:xs.length<=1000000000) :
  Calls Tryz.prog 60 #[.slice A n c,.func (.func 80) #[] #[]] w fun e w'=>e= .returned (.bool (!xs.all okRoom))/\Bl w w':=by
 have H:=hI (idxRoom_any xs n hn A c B w hA hB hl);have HB:=hI (show xs.any (fun x=> !okRoom x)= !xs.all okRoom by rw[List.not_all_eq_any_not]);clear hA hn;go_enter Tryz.func60,Tryz.ntmps60;go_wp2_with (go_at_call 132;refine H.o.mono ?_;rintro e w1 ⟨rfl,hb1⟩);go_ret;exact⟨ret_bool (idxB_any.trans HB.o),hb1⟩
theorem run1_any (x:Int) (w:World):Calls Tryz.prog 81 #[.int .i64 x] w fun e w'=>e= .returned (.bool (!okRun x))/\w=w':=by
 unfold okRun;go_enter Tryz.func81,Tryz.ntmps81;go_wp2_with (go_at_call 62;refine(within_any _ _ _ _).mono ?_;rintro e w' ⟨rfl,rfl⟩);go_ret;exact⟨rfl,rfl⟩
theorem idxRun_any (xs:List Int) (n:Nat) (hn:n=xs.length) (A:Option Addr) (c B:Nat) (w:World) (hA:Sl w B 1 encInt1 A xs) (_hB:B<=w.heap.size) (hl:xs.length<=1000000000) :
  Calls Tryz.prog 132 #[.slice A n c,.func (.func 81) #[] #[]] w fun e w'=>e= .returned (.int .i64 (idxB (fun x=> !okRun x) xs))/\Bl w w':=by
 subst hn;have HA:=hI hA;clear hA;go_enter Tryz.func132,Tryz.ntmps132;go_wp2;go_loopw [8] (fun i wr=>∃k:Nat,k<=xs.length/\i= .int .i64 k/\Hid ((xs.take k).any (fun x=> !okRun x)=false)/\Hid (w=wr)) (fun i _=>xs.length-(intOf i).toNat);case atStart=>exact⟨0,by omega,rfl,hI (by simp),hI rfl⟩
 case round=>
  obtain⟨k,hk,rfl,Hno,hwr⟩:=hrel;obtain rfl:=hwr.out
  by_cases hlt:k<xs.length
  ·obtain⟨b,off,rfl,hbB,hcells⟩:=HA.o (by omega);have c0:w.cell? ⟨b,off+k,none⟩=some (.int .i64 xs[k]):=by have h:=hcells k hlt 0 _ rfl;rwa [Nat.mul_one,Nat.add_zero] at h
   have Hs:=hI (any_take_succ (p:=fun x=> !okRun x) hlt Hno.o);have Hh:=hI (idxB_hit (p:=fun x=> !okRun x) hlt Hno.o);generalize xs[k]=x at c0 Hs Hh;clear hcells;cases hp:okRun x
   ·have HI:=hI (Hh.o (by rw[hp];rfl));go_wp2_with (go_at_call 81;refine(run1_any x _).mono ?_;rintro e w1 ⟨rfl,rfl⟩);go_ret;exact⟨ret_int HI.o.symm,Below.refl _ _⟩
   ·have HN:=hI (Hs.o (by rw[hp];rfl));go_wp2_with (go_at_call 81;refine(run1_any x _).mono ?_;rintro e w1 ⟨rfl,rfl⟩);go_roundw;case rel=>exact⟨k+1,by omega,by go_num,HN,hI trivial⟩
    case measure=>simp[intOf];omega
  ·have HN:=hI (idxB_none (p:=fun x=> !okRun x) (xs:=xs) (by rw[<- Hno.o,List.take_of_length_le (by omega)]));go_wp2;go_ret;exact⟨ret_int HN.o.symm,Below.refl _ _⟩
theorem conRun_any (xs:List Int) (n:Nat) (hn:n=xs.length) (A:Option Addr) (c B:Nat) (w:World) (hA:Sl w B 1 encInt1 A xs) (hB:B<=w.heap.size) (hl:xs.length<=1000000000) :
  Calls Tryz.prog 60 #[.slice A n c,.func (.func 81) #[] #[]] w fun e w'=>e= .returned (.bool (!xs.all okRun))/\Bl w w':=by
 have H:=hI (idxRun_any xs n hn A c B w hA hB hl);have HB:=hI (show xs.any (fun x=> !okRun x)= !xs.all okRun by rw[List.not_all_eq_any_not]);clear hA hn;go_enter Tryz.func60,Tryz.ntmps60;go_wp2_with (go_at_call 132;refine H.o.mono ?_;rintro e w1 ⟨rfl,hb1⟩);go_ret;exact⟨ret_bool (idxB_any.trans HB.o),hb1⟩
theorem CheckLine_any (l:Line) (B:Nat) (w:World) (hl:LnIn w B l) (hB:B<=w.heap.size) :
  Calls Tryz.prog 26 #[lineV l] w fun e w'=>e= .returned (.int .i64 (lineErr l))/\Bl w w':=by
 obtain⟨RA,hRA⟩:∃x,l.RA=x:=⟨_,rfl⟩
 obtain⟨MA,hMA⟩:∃x,l.MA=x:=⟨_,rfl⟩
 obtain⟨r,hr⟩:∃x,l.run.length=x:=⟨_,rfl⟩
 obtain⟨m,hm⟩:∃x,l.room.length=x:=⟨_,rfl⟩
 obtain⟨hs1,hs2,h1,h2,h3,h4⟩:=hl;rw[hRA] at hs1;rw[hMA] at hs2;rw[hr] at h1;rw[hm] at h3;obtain⟨W0,hW0⟩:∃W0,W0=w.alloc (.cells #[.slice RA r l.rc,.slice MA m l.mc] 52):=⟨_,rfl⟩
 have hs0:W0.heap.size=w.heap.size+1:=by rw[hW0];simp
 have HB0:=hI (show Bl w W0 by rw[hW0];exact(Below.refl _ _).alloc (Nat.le_refl _) _);have q0:W0.cell? ⟨w.heap.size,0,none⟩=some (.slice RA r l.rc):=by rw[hW0];exact alloc_cell rfl
 have q1:W0.cell? ⟨w.heap.size,1,none⟩=some (.slice MA m l.mc):=by rw[hW0];exact alloc_cell rfl
 have Q0:=hI q0;have Q1:=hI q1;have HRu:=hI (hs1.below (HB0.o.mono hB));have HRo:=hI (hs2.below (HB0.o.mono hB));have HW0:=hI hW0;have Hr:=hI hr;have Hm:=hI hm;have HE:=hI (show lineErr l=(if 16<m then 3 else if m=0\/r+1≠m then 1 else if l.room.all okRoom&&l.run.all okRun then 0 else 1) by unfold lineErr;rw[hr,hm]);unfold lineV;rw[hRA,hMA,hr,hm];clear hW0 hs1 hs2 hr hm hRA hMA
 by_cases h16:16<m
 ·have HE2:=hI (show lineErr l=3 by rw[HE.o,if_pos h16]);go_enter Tryz.func26,Tryz.ntmps26;go_upto_region 1 with fail;rw[<- HW0.o];go_wp2;go_ret;exact⟨ret_int HE2.o.symm,HB0.o⟩
 by_cases hm0:m=0
 ·have hm0':((m:Int)==0)=true:=by rw[hm0];rfl
  have HE2:=hI (show lineErr l=1 by rw[HE.o,if_neg h16,if_pos (.inl hm0)]);clear hm0;go_enter Tryz.func26,Tryz.ntmps26;go_upto_region 1 with fail;rw[<- HW0.o];go_wp2;go_ret;exact⟨ret_int HE2.o.symm,HB0.o⟩
 have hm0':((m:Int)==0)=false:=beq_false_of_ne (by omega)
 by_cases hrm:r+1=m
 rotate_left
 ·have hrm':((r:Int) != (m:Int)-1)=true:=bne_iff_ne.2 (by omega);have HE2:=hI (show lineErr l=1 by rw[HE.o,if_neg h16,if_pos (.inr hrm)]);go_enter Tryz.func26,Tryz.ntmps26;go_upto_region 1 with fail;rw[<- HW0.o];go_wp2;go_ret;exact⟨ret_int HE2.o.symm,HB0.o⟩
 have hrm':((r:Int) != (m:Int)-1)=false:=by
  rw[show(r:Int)=(m:Int)-1 by omega];simp
 have HE2:=hI (show lineErr l=(if l.room.all okRoom&&l.run.all okRun then 0 else 1) by rw[HE.o,if_neg h16,if_neg (by omega)]);have hrle:r<=1000:=by omega
 clear hrm;have HC1:=hI (conRoom_any l.room m Hm.o.symm MA l.mc B W0 HRo.o (by omega) (by rw[Hm.o];omega));cases hA:l.room.all okRoom
 ·have HE3:=hI (show lineErr l=1 by rw[HE2.o,hA];rfl);rw[hA] at HC1;go_enter Tryz.func26,Tryz.ntmps26;go_upto_region 1 with fail;rw[<- HW0.o];go_wp2_with (go_at_call 60;fail);refine HC1.o.mono ?_;rintro e w1 ⟨rfl,hb1⟩;have Hb1:=hI (HB0.o.trans (hb1.mono (by omega)));clear hb1;go_wp2;go_ret;exact⟨ret_int HE3.o.symm,Hb1.o⟩
 ·rw[hA] at HC1;go_enter Tryz.func26,Tryz.ntmps26;go_upto_region 1 with fail;rw[<- HW0.o];go_wp2_with (go_at_call 60;fail);refine HC1.o.mono ?_;rintro e w1 ⟨rfl,hb1⟩;have hs1:=hb1.size;have HC2:=hI (conRun_any l.run r Hr.o.symm RA l.rc B w1 (HRu.o.below (hb1.mono (by omega))) (by omega) (by rw[Hr.o];omega));have p0:=(hb1.cell (p:=⟨w.heap.size,0,none⟩) (by simp;omega)).trans Q0.out;have Hb1:=hI (HB0.o.trans (hb1.mono (by omega)));clear hb1 q0 q1;cases hR:l.run.all okRun
  ·have HE3:=hI (show lineErr l=1 by rw[HE2.o,hA,hR];rfl);rw[hR] at HC2;go_wp2_with (go_at_call 60;fail);refine HC2.o.mono ?_;rintro e w2 ⟨rfl,hb2⟩;have Hb2:=hI (Hb1.o.trans (hb2.mono (by omega)));clear hb2;go_wp2;go_ret;exact⟨ret_int HE3.o.symm,Hb2.o⟩
  ·have HE3:=hI (show lineErr l=0 by rw[HE2.o,hA,hR];rfl);rw[hR] at HC2;go_wp2_with (go_at_call 60;fail);refine HC2.o.mono ?_;rintro e w2 ⟨rfl,hb2⟩;have Hb2:=hI (Hb1.o.trans (hb2.mono (by omega)));clear hb2;go_wp2;go_ret;exact⟨ret_int HE3.o.symm,Hb2.o⟩
end Go.Proofs.YtjpgnfekbojcaaaGreat
namespace Go.Proofs.YtjpgnfekbojcaaaGreat
open Go.RowKit W7 W8
theorem section_any (a b:Int) (w:World):Calls Tryz.prog 147 #[.int .i64 a,.int .i64 b] w fun e w'=>e= .returned (.int .i64 (min a b))/\w=w':=by
 have hmn:=min_run Tryz.prog;go_enter Tryz.func147,Tryz.ntmps147;go_wp2;go_ret;exact⟨rfl,rfl⟩
end Go.Proofs.YtjpgnfekbojcaaaGreat
