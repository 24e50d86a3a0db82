/- The law's comparisons of rows of ints and of faults answer true of rows that are alike. -/
import Derived.Test.YtjpgnfekbojcaaaGreatWFai0
set_option maxHeartbeats 2000000
set_option maxRecDepth 100000
namespace Go.Proofs.YtjpgnfekbojcaaaGreat
open Go.RowKit W7 W8
attribute [local go_sem] Oper.semAt_some
def encU8 (x:Int):List Value:=[.int .u8 x]
theorem lawInts_any (xs:List Int) (A A':Option Addr) (n c c' B:Nat) (w:World) (hn:n=xs.length) (hA:Sl w B 1 encInt1 A xs) (hA':Sl w B 1 encInt1 A' xs) (hB:B<=w.heap.size) (hl:n<=1000000000) :
  Calls Tryz.prog 19 #[.slice A n c,.slice A' n c'] w fun e w'=>e= .returned (.bool true)/\Bl w w':=by
 have HA:=hI hA;have HA':=hI hA';have Hn:=hI hn;have hnn:((n:Int)==(n:Int))=true:=beq_self_eq_true _;have hnm:((n:Int) != (n:Int))=false:=by simp
 clear hA hA' hn;go_enter Tryz.func19,Tryz.ntmps19;go_wp2;go_loopw [5] (fun v wr=>∃i:Nat,i<=n/\v= .int .i64 i/\Hid (Bl w wr)) (fun v _=>n-(intOf v).toNat);case atStart=>exact⟨0,by omega,rfl,hI (Below.refl _ _)⟩
 case round=>
  obtain⟨i,hi,rfl,Hb⟩:=hrel;have hsr:=Hb.o.size
  by_cases hlt:i<n
  ·have hil:i<xs.length:=by have:=Hn.o;omega
   obtain⟨b,off,hbe,hbB,hc1⟩:=(HA.o.below (Hb.o.mono hB)) (by omega)
   obtain⟨b',off',hbe',hbB',hc2⟩:=(HA'.o.below (Hb.o.mono hB)) (by omega)
   subst hbe hbe';have c0:wr.cell? ⟨b,off+i,none⟩=some (.int .i64 xs[i]):=by have h:=hc1 i hil 0 _ rfl;rwa [Nat.mul_one,Nat.add_zero] at h
   have c1:wr.cell? ⟨b',off'+i,none⟩=some (.int .i64 xs[i]):=by have h:=hc2 i hil 0 _ rfl;rwa [Nat.mul_one,Nat.add_zero] at h
   generalize xs[i]=x at c0 c1;have hx:(x==x)=true:=beq_self_eq_true _;have hx':(x != x)=false:=by simp
   clear hc1 hc2;go_wp2
   go_quiet (fail)
   have HB3:=hI (below_drewN (B:=w.heap.size) Hb.o nq);go_wp2;go_roundw;case rel=>exact⟨i+1,by omega,by go_num,HB3⟩
   case measure=>simp[intOf];omega
  ·go_wp2;go_ret;exact⟨rfl,Hb.o⟩
def noFault (x:Int):Bool:=x==0
theorem next1_any (x:Int) (w:World):Calls Tryz.prog 111 #[.int .u8 x] w fun e w'=>e= .returned (.bool (!noFault x))/\w=w':=by
 unfold noFault;go_enter Tryz.func111,Tryz.ntmps111;go_wp2;go_ret;exact⟨rfl,rfl⟩
theorem idxFault_any (xs:List Int) (n:Nat) (hn:n=xs.length) (A:Option Addr) (c B:Nat) (w:World) (hA:Sl w B 1 encU8 A xs) (_hB:B<=w.heap.size) (hl:xs.length<=1000000000) :
  Calls Tryz.prog 172 #[.slice A n c,.func (.func 111) #[] #[]] w fun e w'=>e= .returned (.int .i64 (idxB (fun x=> !noFault x) xs))/\Bl w w':=by
 subst hn;have HA:=hI hA;clear hA;go_enter Tryz.func172,Tryz.ntmps172;go_wp2;go_loopw [8] (fun i wr=>∃k:Nat,k<=xs.length/\i= .int .i64 k/\Hid ((xs.take k).any (fun x=> !noFault x)=false)/\Hid (w=wr)) (fun i _=>xs.length-(intOf i).toNat);case atStart=>exact⟨0,by omega,rfl,hI (by simp),hI rfl⟩
 case round=>
  obtain⟨k,hk,rfl,Hno,hwr⟩:=hrel;obtain rfl:=hwr.out
  by_cases hlt:k<xs.length
  ·obtain⟨b,off,rfl,hbB,hcells⟩:=HA.o (by omega);have c0:w.cell? ⟨b,off+k,none⟩=some (.int .u8 xs[k]):=by have h:=hcells k hlt 0 _ rfl;rwa [Nat.mul_one,Nat.add_zero] at h
   have Hs:=hI (any_take_succ (p:=fun x=> !noFault x) hlt Hno.o);have Hh:=hI (idxB_hit (p:=fun x=> !noFault x) hlt Hno.o);generalize xs[k]=x at c0 Hs Hh;clear hcells;cases hp:noFault x
   ·have HI:=hI (Hh.o (by rw[hp];rfl));go_wp2_with (go_at_call 111;refine(next1_any x _).mono ?_;rintro e w1 ⟨rfl,rfl⟩);go_ret;exact⟨ret_int HI.o.symm,Below.refl _ _⟩
   ·have HN:=hI (Hs.o (by rw[hp];rfl));go_wp2_with (go_at_call 111;refine(next1_any x _).mono ?_;rintro e w1 ⟨rfl,rfl⟩);go_roundw;case rel=>exact⟨k+1,by omega,by go_num,HN,hI trivial⟩
    case measure=>simp[intOf];omega
  ·have HN:=hI (idxB_none (p:=fun x=> !noFault x) (xs:=xs) (by rw[<- Hno.o,List.take_of_length_le (by omega)]));go_wp2;go_ret;exact⟨ret_int HN.o.symm,Below.refl _ _⟩
theorem conFault_any (xs:List Int) (n:Nat) (hn:n=xs.length) (A:Option Addr) (c B:Nat) (w:World) (hA:Sl w B 1 encU8 A xs) (hB:B<=w.heap.size) (hl:xs.length<=1000000000) :
  Calls Tryz.prog 110 #[.slice A n c,.func (.func 111) #[] #[]] w fun e w'=>e= .returned (.bool (!xs.all noFault))/\Bl w w':=by
 have H:=hI (idxFault_any xs n hn A c B w hA hB hl);have HB:=hI (show xs.any (fun x=> !noFault x)= !xs.all noFault by rw[List.not_all_eq_any_not]);clear hA hn;go_enter Tryz.func110,Tryz.ntmps110;go_wp2_with (go_at_call 172;refine H.o.mono ?_;rintro e w1 ⟨rfl,hb1⟩);go_ret;exact⟨ret_bool (idxB_any.trans HB.o),hb1⟩
def encRow (r:AirRow):List Value:=[.int .i64 r.pr,.int .i64 r.mi,.int .i64 r.out]
def tabV (t:Table):Value:= .agg #[.slice t.A t.rows.length t.c,.int .i64 t.rest,.int .i64 t.day]
structure TIn (w:World) (B:Nat) (t:Table):Prop where
 sl:Sl w B 3 encRow t.A t.rows
 lc:t.rows.length<=t.c
 c2:t.c<=9223372036854775807
theorem TIn.below {w w':World} {B:Nat} {t:Table} (h:TIn w B t) (hb:Below B w w'):TIn w' B t:=⟨h.sl.below hb,h.lc,h.c2⟩
theorem TIn.mono {w:World} {B B':Nat} {t:Table} (h:TIn w B t) (hB:B<=B'):TIn w B' t:=⟨h.sl.mono hB,h.lc,h.c2⟩
theorem CheckTable_any (t:Table) (B:Nat) (w:World) (ht:TIn w B t) (hB:B<=w.heap.size) :
  Calls Tryz.prog 44 #[tabV t] w fun e w'=>e= .returned (.int .i64 (tblErr t))/\Bl w w':=by
 obtain⟨QQ,hQQ⟩:∃QQ,t.A=QQ:=⟨_,rfl⟩
 obtain⟨n,hn⟩:∃n,t.rows.length=n:=⟨_,rfl⟩
 unfold tabV;have hlc:=ht.lc;have hc2:=ht.c2;have hsl:=ht.sl;rw[hQQ] at hsl ⊢;rw[hn] at hlc ⊢;obtain⟨W0,hW0⟩:∃W0,W0=w.alloc (.cells #[.slice QQ n t.c,.int .i64 t.rest,.int .i64 t.day] 74):=⟨_,rfl⟩
 have hs0:W0.heap.size=w.heap.size+1:=by rw[hW0];simp
 have HB0:=hI (show Bl w W0 by rw[hW0];exact(Below.refl _ _).alloc (Nat.le_refl _) _)
 have HQ0:=hI (show ∀(X:World),Bl W0 X->X.cell? ⟨w.heap.size,0,none⟩=some (.slice QQ n t.c)/\X.cell? ⟨w.heap.size,1,none⟩=some (.int .i64 t.rest)/\X.cell? ⟨w.heap.size,2,none⟩=some (.int .i64 t.day) from fun X hX=>
  ⟨(hX.cell (p:=⟨w.heap.size,0,none⟩) (by simp;omega)).trans (by rw[hW0];exact alloc_cell rfl),(hX.cell (p:=⟨w.heap.size,1,none⟩) (by simp;omega)).trans (by rw[hW0];exact alloc_cell rfl),(hX.cell (p:=⟨w.heap.size,2,none⟩) (by simp;omega)).trans (by rw[hW0];exact alloc_cell rfl)⟩)
 have HR:=hI (fun(X:World) (hX:Bl W0 X)=>show Sl X B 3 encRow QQ t.rows from hsl.below ((HB0.o.mono hB).trans (hX.mono (by omega))));have HU:=hI (fun(X:World) (hX:Bl W0 X)=>show Bl w X from HB0.o.trans (hX.mono (by omega)));have HW0:=hI hW0;have Hn:=hI hn;obtain⟨q0,q1,q2⟩:=HQ0.o W0 (Below.refl _ _);clear hW0 hsl ht hn hQQ
 by_cases h64:64<n
 ·have HE:=hI (tbl_long (t:=t) (by rw[Hn.o];exact h64));go_enter Tryz.func44,Tryz.ntmps44;go_upto_region 1 with fail;rw[<- HW0.o];go_wp2;go_ret;exact⟨ret_int HE.o.symm,HB0.o⟩
 have H64:=hI (show ¬ 64<t.rows.length by rw[Hn.o];exact h64);go_enter Tryz.func44,Tryz.ntmps44;go_upto_region 1 with fail;rw[<- HW0.o];go_wp2;clear q0 q1 q2;go_loopw [12] (fun v wr=>∃i:Nat,i<=n/\v= .int .i64 i/\Hid (Bl W0 wr)/\Hid ((t.rows.take i).all okRow=true)) (fun v _=>n-(intOf v).toNat);case atStart=>exact⟨0,by omega,rfl,hI (Below.refl _ _),hI rfl⟩
 case round=>
  obtain⟨i,hi,rfl,Hb,Hall⟩:=hrel;obtain⟨q0,q1,q2⟩:=HQ0.o wr Hb.o;have hsr:=Hb.o.size
  by_cases hlt:i<n
  ·have hil:i<t.rows.length:=by rw[Hn.o];exact hlt
   obtain⟨b,off,hbe,hbB,hcells⟩:=(HR.o wr Hb.o) (by omega)
   subst hbe;have c0:wr.cell? ⟨b,off+i*3,none⟩=some (.int .i64 t.rows[i].pr):=hcells i hil 0 _ rfl;have c1:wr.cell? ⟨b,off+i*3+1,none⟩=some (.int .i64 t.rows[i].mi):=hcells i hil 1 _ rfl;have c2:wr.cell? ⟨b,off+i*3+2,none⟩=some (.int .i64 t.rows[i].out):=hcells i hil 2 _ rfl;have Hs:=hI (all_take_row hil Hall.o);have Hbad:=hI (fun h=>tbl_row (t:=t) H64.o hil h);obtain⟨r,hr⟩:∃r,r=t.rows[i]:=⟨_,rfl⟩
   rw[<- hr] at c0 c1 c2 Hs Hbad;have Hok:=hI (show okRow r=(isTm r.pr&&isTm r.mi&&isTm r.out) from rfl);clear hcells hr;cases h1:isTm r.pr
   ·have HE:=hI (Hbad.o (by rw[Hok.o,h1];rfl));go_wp2_with (go_at_call 70;refine(isTime_any _ _).mono ?_;rintro e w' ⟨rfl,rfl⟩);go_ret;exact⟨ret_int HE.o.symm,HU.o _ (Hb.o.alloc hsr _)⟩
   cases h2:isTm r.mi
   ·have HE:=hI (Hbad.o (by rw[Hok.o,h1,h2];rfl));go_wp2_with (go_at_call 70;refine(isTime_any _ _).mono ?_;rintro e w' ⟨rfl,rfl⟩);go_ret;exact⟨ret_int HE.o.symm,HU.o _ (Hb.o.alloc hsr _)⟩
   cases h3:isTm r.out
   ·have HE:=hI (Hbad.o (by rw[Hok.o,h1,h2,h3];rfl));go_wp2_with (go_at_call 70;refine(isTime_any _ _).mono ?_;rintro e w' ⟨rfl,rfl⟩);go_ret;exact⟨ret_int HE.o.symm,HU.o _ (Hb.o.alloc hsr _)⟩
   have Hnx:=hI (show(t.rows.take (i+1)).all okRow=true by rw[Hs.o,Hok.o,h1,h2,h3];rfl);go_wp2_with (go_at_call 70;refine(isTime_any _ _).mono ?_;rintro e w' ⟨rfl,rfl⟩);go_roundw;case rel=>exact⟨i+1,by omega,by go_num,hI (Hb.o.alloc hsr _),Hnx⟩
   case measure=>simp[intOf];omega
  ·have HE:=hI (tbl_end (t:=t) H64.o (by rw[<- Hall.o,List.take_of_length_le (by rw[Hn.o];omega)]));cases h1:isTm t.rest
   ·have HE2:=hI (show tblErr t=1 by rw[HE.o,h1];rfl);go_wp2_with (go_at_call 70;refine(isTime_any _ _).mono ?_;rintro e w' ⟨rfl,rfl⟩);go_ret;exact⟨ret_int HE2.o.symm,HU.o _ Hb.o⟩
   cases h2:isTm t.day
   ·have HE2:=hI (show tblErr t=1 by rw[HE.o,h1,h2];rfl);go_wp2_with (go_at_call 70;refine(isTime_any _ _).mono ?_;rintro e w' ⟨rfl,rfl⟩);go_ret;exact⟨ret_int HE2.o.symm,HU.o _ Hb.o⟩
   have HE2:=hI (show tblErr t=0 by rw[HE.o,h1,h2];rfl);go_wp2_with (go_at_call 70;refine(isTime_any _ _).mono ?_;rintro e w' ⟨rfl,rfl⟩);go_ret;exact⟨ret_int HE2.o.symm,HU.o _ Hb.o⟩
theorem counts1_any (x:AirRow) (p m:Int) (bh bg:Nat) (w:World) (hc0:w.cell? ⟨bg,0,none⟩=some (.int .i64 p)) (hc1:w.cell? ⟨bh,0,none⟩=some (.int .i64 m)) (hbh:bh<w.heap.size) (hbg:bg<w.heap.size) :
  Calls Tryz.prog 170 #[.agg #[.int .i64 x.pr,.int .i64 x.mi,.int .i64 x.out],.pointer (some ⟨bg,0,none⟩),.pointer (some ⟨bh,0,none⟩)] w fun e w'=>e= .returned (.bool (fitsRow p m x))/\Bl w w':=by
 unfold fitsRow;cases h1:decide (p<=x.pr)
 ·go_enter Tryz.func170,Tryz.ntmps170;go_wp2;go_ret;exact⟨rfl,(by(repeat (refine Below.alloc ?_ (by first | exact Nat.le_refl _ | omega | (simp;done) | (simp;omega)) _));exact Below.refl _ _)⟩
 cases h2:decide (m<=x.mi)
 ·go_enter Tryz.func170,Tryz.ntmps170;go_wp2;go_ret;exact⟨rfl,(by(repeat (refine Below.alloc ?_ (by first | exact Nat.le_refl _ | omega | (simp;done) | (simp;omega)) _));exact Below.refl _ _)⟩
 ·go_enter Tryz.func170,Tryz.ntmps170;go_wp2;go_ret;exact⟨rfl,(by(repeat (refine Below.alloc ?_ (by first | exact Nat.le_refl _ | omega | (simp;done) | (simp;omega)) _));exact Below.refl _ _)⟩
set_option maxHeartbeats 1000000 in
theorem idxRow_any (xs:List AirRow) (p m:Int) (bh:Nat) (n:Nat) (hn:n=xs.length) (A:Option Addr) (c B bg:Nat) (w:World) (hA:Sl w B 3 encRow A xs) (hB:B<=w.heap.size) (hl:xs.length<=1000000000)
    (hc0:w.cell? ⟨bg,0,none⟩=some (.int .i64 p)) (hc1:w.cell? ⟨bh,0,none⟩=some (.int .i64 m)) (hbh:bh<w.heap.size) (hbg:bg<w.heap.size) :
    Calls Tryz.prog 169 #[.slice A n c,.func (.func 170) #[] #[.pointer (some ⟨bg,0,none⟩),.pointer (some ⟨bh,0,none⟩)]] w fun e w'=>
      e= .returned (.int .i64 (idxB (fun x:AirRow=>fitsRow p m x) xs))/\Bl w w':=by
  subst hn;have HA:=hI hA;clear hA;have Hc0:=hI hc0;clear hc0;have Hc1:=hI hc1;clear hc1;go_enter Tryz.func169,Tryz.ntmps169;go_wp2;go_loopw [8] (fun i wr=>∃k:Nat,k<=xs.length/\i= .int .i64 k/\Hid ((xs.take k).any (fun x:AirRow=>fitsRow p m x)=false)/\Bl w wr) (fun i _=>xs.length-(intOf i).toNat);case atStart=>exact⟨0,by omega,rfl,hI (by simp),Below.refl _ _⟩
  case round=>
    obtain⟨k,hk,rfl,Hno,hb⟩:=hrel
    by_cases hlt:k<xs.length
    · obtain⟨b,off,rfl,hbB,hcells⟩:=HA.o (by omega)
      have h0:=hcells k hlt;clear hcells;have c0:wr.cell? ⟨b,off+k*3,none⟩=some (.int .i64 xs[k].pr):=(hb.cell (p:=⟨b,_,none⟩) (by simp;omega)).trans (h0 0 _ rfl);have c1:wr.cell? ⟨b,off+k*3+1,none⟩=some (.int .i64 xs[k].mi):=(hb.cell (p:=⟨b,_,none⟩) (by simp;omega)).trans (h0 1 _ rfl);have c2:wr.cell? ⟨b,off+k*3+2,none⟩=some (.int .i64 xs[k].out):=(hb.cell (p:=⟨b,_,none⟩) (by simp;omega)).trans (h0 2 _ rfl);have hcg0:wr.cell? ⟨bg,0,none⟩=some (.int .i64 p):=(hb.cell (p:=⟨bg,0,none⟩) hbg).trans Hc0.o;have hcg1:wr.cell? ⟨bh,0,none⟩=some (.int .i64 m):=(hb.cell (p:=⟨bh,0,none⟩) hbh).trans Hc1.o;have Hs:=hI (any_take_succ (p:=fun x:AirRow=>fitsRow p m x) hlt Hno.o);have Hh:=hI (idxB_hit (p:=fun x:AirRow=>fitsRow p m x) hlt Hno.o);have hsz:=hb.size;clear h0;cases hp:(fun x:AirRow=>fitsRow p m x) xs[k]
      · go_wp2_with (go_at_call 170;refine(counts1_any xs[k] p m bh bg _ (by assumption) (by assumption) (by omega) (by omega)).mono ?_;rintro e w1 ⟨rfl,hb1⟩)
        go_roundw;case rel=>exact⟨k+1,by omega,by go_num,hI (Hs.o (by assumption)),hb.trans (hb1.mono hsz)⟩
        case measure=>simp[intOf];omega
      · go_wp2_with (go_at_call 170;refine(counts1_any xs[k] p m bh bg _ (by assumption) (by assumption) (by omega) (by omega)).mono ?_;rintro e w1 ⟨rfl,hb1⟩)
        go_ret;exact⟨ret_int (Hh.o (by assumption)).symm,hb.trans (hb1.mono hsz)⟩
    · have HN:=hI (idxB_none (p:=fun x:AirRow=>fitsRow p m x) (xs:=xs) (by rw[<- Hno.o,List.take_of_length_le (by omega)]))
      go_wp2;go_ret;exact⟨ret_int HN.o.symm,hb⟩

theorem set3 {w:World} {b T:Nat} {u0 u1 u2:Value} (h:w.heap[b]? =some (.cells #[u0,u1,u2] T (0,0))) (x y z:Value) :
  (((w.setCell ⟨b,0,none⟩ x).setCell ⟨b,1,none⟩ y).setCell ⟨b,2,none⟩ z).cell? ⟨b,0,none⟩=some x/\(((w.setCell ⟨b,0,none⟩ x).setCell ⟨b,1,none⟩ y).setCell ⟨b,2,none⟩ z).cell? ⟨b,1,none⟩=some y/\(((w.setCell ⟨b,0,none⟩ x).setCell ⟨b,1,none⟩ y).setCell ⟨b,2,none⟩ z).cell? ⟨b,2,none⟩=some z:=by
 have h1:(w.setCell ⟨b,0,none⟩ x).heap[b]? =some (.cells #[x,u1,u2] T (0,0)):=by
  simp[World.setCell,Array.getElem?_modify,h]
 have h2:((w.setCell ⟨b,0,none⟩ x).setCell ⟨b,1,none⟩ y).heap[b]? =some (.cells #[x,y,u2] T (0,0)):=by
  generalize w.setCell ⟨b,0,none⟩ x=w1 at h1;simp[World.setCell,Array.getElem?_modify,h1]
 have h3:(((w.setCell ⟨b,0,none⟩ x).setCell ⟨b,1,none⟩ y).setCell ⟨b,2,none⟩ z).heap[b]? =some (.cells #[x,y,z] T (0,0)):=by
  generalize (w.setCell ⟨b,0,none⟩ x).setCell ⟨b,1,none⟩ y=w1 at h2;simp[World.setCell,Array.getElem?_modify,h2]
 simp only[World.cell?,h3];exact⟨rfl,rfl,rfl⟩
theorem h4 (w:World) (a b c d:Obj):((((w.alloc a).alloc b).alloc c).alloc d).heap[w.heap.size]? =some a/\((((w.alloc a).alloc b).alloc c).alloc d).heap[w.heap.size+1]? =some b/\((((w.alloc a).alloc b).alloc c).alloc d).heap[w.heap.size+2]? =some c/\((((w.alloc a).alloc b).alloc c).alloc d).heap[w.heap.size+3]? =some d/\((((w.alloc a).alloc b).alloc c).alloc d).heap.size=w.heap.size+4:=by
 have s1:(w.alloc a).heap.size=w.heap.size+1:=by simp
 have s2:((w.alloc a).alloc b).heap.size=w.heap.size+2:=by simp
 have s3:(((w.alloc a).alloc b).alloc c).heap.size=w.heap.size+3:=by simp
 refine⟨?_,?_,?_,?_,by simp⟩
 ·rw[Below.heap_alloc _ _ _ (by omega),Below.heap_alloc _ _ _ (by omega),Below.heap_alloc _ _ _ (by omega)];exact heap_alloc_new _ _
 ·rw[Below.heap_alloc _ _ _ (by omega),Below.heap_alloc _ _ _ (by omega)];have h:=heap_alloc_new (w.alloc a) b
  rwa [s1] at h
 ·rw[Below.heap_alloc _ _ _ (by omega)];have h:=heap_alloc_new ((w.alloc a).alloc b) c
  rwa [s2] at h
 ·have h:=heap_alloc_new (((w.alloc a).alloc b).alloc c) d
  rwa [s3] at h
def rowV (r:AirRow):Value:= .agg #[.int .i64 r.pr,.int .i64 r.mi,.int .i64 r.out]
theorem counts_any (t:Table) (p m:Int) (B:Nat) (w:World) (ht:TIn w B t) (hB:B<=w.heap.size) (hl:t.rows.length<=1000000000) :
  Calls Tryz.prog 104 #[tabV t,.int .i64 p,.int .i64 m] w fun e w'=>e= .returned (.tuple #[rowV ((cntRow t p m).getD ⟨0,0,0⟩),.bool (cntRow t p m).isSome])/\Bl w w':=by
 obtain⟨QQ,hQQ⟩:∃QQ,t.A=QQ:=⟨_,rfl⟩
 obtain⟨n,hn⟩:∃n,t.rows.length=n:=⟨_,rfl⟩
 unfold tabV;have hlc:=ht.lc;have hc2:=ht.c2;have hsl:=ht.sl;rw[hQQ] at hsl ⊢;rw[hn] at hlc ⊢;obtain⟨W0,hW0⟩:∃W0,W0=(((w.alloc (.cells #[.slice QQ n t.c,.int .i64 t.rest,.int .i64 t.day] 74)).alloc (.cells #[.int .i64 p] 3)).alloc (.cells #[.int .i64 m] 3)).alloc (.cells #[.int .i64 0,.int .i64 0,.int .i64 0] 89):=⟨_,rfl⟩
 obtain⟨k0,k1,k2,k3,hs0⟩:=h4 w (.cells #[.slice QQ n t.c,.int .i64 t.rest,.int .i64 t.day] 74) (.cells #[.int .i64 p] 3) (.cells #[.int .i64 m] 3) (.cells #[.int .i64 0,.int .i64 0,.int .i64 0] 89);rw[<- hW0] at k0 k1 k2 k3 hs0;have HB0:=hI (show Bl w W0 by rw[hW0];exact((((Below.refl w.heap.size w).alloc (Nat.le_refl _) _).alloc (by simp) _).alloc (by simp;omega) _).alloc (by simp;omega) _);have q0:W0.cell? ⟨w.heap.size,0,none⟩=some (.slice QQ n t.c):=by simp only[World.cell?,k0];rfl
 have q1:W0.cell? ⟨w.heap.size+1,0,none⟩=some (.int .i64 p):=by simp only[World.cell?,k1];rfl
 have q2:W0.cell? ⟨w.heap.size+2,0,none⟩=some (.int .i64 m):=by simp only[World.cell?,k2];rfl
 have HR:=hI (show Sl W0 B 3 encRow QQ t.rows from hsl.below (HB0.o.mono hB));have HI:=hI (idxRow_any t.rows p m (w.heap.size+2) n hn.symm QQ t.c B (w.heap.size+1) W0 HR.o (by omega) hl q1 q2 (by omega) (by omega));have HW0:=hI hW0;have Hn:=hI hn;have K3:=hI k3;clear hW0 hsl ht hn hQQ q1 q2 k0 k1 k2 k3;go_enter Tryz.func104,Tryz.ntmps104;go_wp2_with (go_at_call 169;fail);rw[<- HW0.o];refine HI.o.mono ?_;rintro e w1 ⟨rfl,hb1⟩;have hs1:=hb1.size;have Hb1:=hI (HB0.o.trans (hb1.mono (by omega)));have q0':=(hb1.cell (p:=⟨w.heap.size,0,none⟩) (by simp;omega)).trans q0;have HR1:=hI (HR.o.below (hb1.mono (by omega)));have K31:=hI ((hb1.block (w.heap.size+3) (by omega)).trans K3.out);have e0:w1.cell? ⟨w.heap.size+3,0,none⟩=some (.int .i64 0):=by simp only[World.cell?,K31.out];rfl
 have e1:w1.cell? ⟨w.heap.size+3,1,none⟩=some (.int .i64 0):=by simp only[World.cell?,K31.out];rfl
 have e2:w1.cell? ⟨w.heap.size+3,2,none⟩=some (.int .i64 0):=by simp only[World.cell?,K31.out];rfl
 have f0:w1.frozen? ⟨w.heap.size+3,0,none⟩=false:=by simp[World.frozen?,K31.out]
 have f1:w1.frozen? ⟨w.heap.size+3,1,none⟩=false:=by simp[World.frozen?,K31.out]
 have f2:w1.frozen? ⟨w.heap.size+3,2,none⟩=false:=by simp[World.frozen?,K31.out]
 clear hb1 q0 HI
 by_cases hge:0<=idxB (fun x:AirRow=>fitsRow p m x) t.rows
 ·obtain⟨k,hk,hke⟩:=idx_lt hge;have HC:=hI (cnt_hit hk hke);rw[hke];have hkn:k<n:=by rw[<- Hn.o];exact hk
  obtain⟨b,off,hbe,hbB,hcells⟩:=HR1.o (by omega);subst hbe;have c0:w1.cell? ⟨b,off+k*3,none⟩=some (.int .i64 t.rows[k].pr):=hcells k hk 0 _ rfl;have c1:w1.cell? ⟨b,off+k*3+1,none⟩=some (.int .i64 t.rows[k].mi):=hcells k hk 1 _ rfl;have c2:w1.cell? ⟨b,off+k*3+2,none⟩=some (.int .i64 t.rows[k].out):=hcells k hk 2 _ rfl;generalize t.rows[k]=r at c0 c1 c2 HC;clear hcells hge hke hk;go_wp2;obtain⟨g0,g1,g2⟩:=set3 K31.out (.int .i64 r.pr) (.int .i64 r.mi) (.int .i64 r.out);refine bodyPost_ret (v:= .tuple #[rowV r,.bool true]) (by simp[results,Tryz.results104,go_sem,g0,g1,g2,rowV]) rfl ?_;exact⟨by rw[HC.o];rfl,((Hb1.o.setCell (p:=⟨w.heap.size+3,0,none⟩) (by simp) _).setCell (p:=⟨w.heap.size+3,1,none⟩) (by simp) _).setCell (p:=⟨w.heap.size+3,2,none⟩) (by simp) _⟩
 ·have HC:=hI (cnt_none hge);have hneg:idxB (fun x:AirRow=>fitsRow p m x) t.rows<0:=by omega
  generalize idxB (fun x:AirRow=>fitsRow p m x) t.rows=ix at hneg;clear hge;go_wp2;obtain⟨g0,g1,g2⟩:=set3 K31.out (.int .i64 0) (.int .i64 0) (.int .i64 0);refine bodyPost_ret (v:= .tuple #[rowV ⟨0,0,0⟩,.bool false]) (by simp[results,Tryz.results104,go_sem,g0,g1,g2,rowV]) rfl ?_;exact⟨by rw[HC.o];rfl,((Hb1.o.setCell (p:=⟨w.heap.size+3,0,none⟩) (by simp) _).setCell (p:=⟨w.heap.size+3,1,none⟩) (by simp) _).setCell (p:=⟨w.heap.size+3,2,none⟩) (by simp) _⟩
theorem out_pos {t:Table} {p m:Int} {r:AirRow} (h:tblErr t=0) (hr:cntRow t p m=some r):0<=r.out/\r.out<=100000:=by
 have h1:okRow r=true:=by
  unfold tblErr at h
  split at h
  ·cases h
  ·split at h
   ·rename_i h2
    simp only[Bool.and_eq_true] at h2;exact List.all_eq_true.1 h2.1.1 r (List.mem_of_find?_eq_some hr)
   ·cases h
 unfold okRow at h1;simp only[Bool.and_eq_true] at h1;exact isTm_true.1 h1.2
def encDive (d:Dive):List Value:=[.string d.who,.int .i64 d.pr,.int .i64 d.tin,.int .i64 d.leave,.int .i64 d.out]
def stayV (t:Table) (d:Dive) (A:Option Addr) (n c:Nat):Value:= .agg #[.slice t.A t.rows.length t.c,.int .i64 t.rest,.int .i64 t.day,.string d.who,.int .i64 d.pr,.int .i64 d.tin,.int .i64 d.leave,.int .i64 d.out,.slice A n c]
def stayO (t:Table) (d:Dive) (A:Option Addr) (n c:Nat):Obj:= .cells #[.slice t.A t.rows.length t.c,.int .i64 t.rest,.int .i64 t.day,.string d.who,.int .i64 d.pr,.int .i64 d.tin,.int .i64 d.leave,.int .i64 d.out,.slice A n c] 157
theorem inOrder_any (t:Table) (d:Dive) (A:Option Addr) (n c:Nat) (w:World):Calls Tryz.prog 196 #[stayV t d A n c] w fun e w'=>e= .returned (.bool (ordB d))/\Bl w w':=by
 unfold stayV ordB;cases h1:decide (d.tin<d.leave)
 ·go_enter Tryz.func196,Tryz.ntmps196;go_wp2;go_ret;exact⟨rfl,(by(repeat (refine Below.alloc ?_ (by first | exact Nat.le_refl _ | omega | (simp;done) | (simp;omega)) _));exact Below.refl _ _)⟩
 cases h2:decide (d.leave<=d.out)
 ·go_enter Tryz.func196,Tryz.ntmps196;go_wp2;go_ret;exact⟨rfl,(by(repeat (refine Below.alloc ?_ (by first | exact Nat.le_refl _ | omega | (simp;done) | (simp;omega)) _));exact Below.refl _ _)⟩
 ·go_enter Tryz.func196,Tryz.ntmps196;go_wp2;go_ret;exact⟨rfl,(by(repeat (refine Below.alloc ?_ (by first | exact Nat.le_refl _ | omega | (simp;done) | (simp;omega)) _));exact Below.refl _ _)⟩
theorem counted_any (t:Table) (d:Dive) (A:Option Addr) (n c B:Nat) (w:World) (ht:TIn w B t) (hB:B<=w.heap.size) (hl:t.rows.length<=1000000000) (hd:OkDive d) :
  Calls Tryz.prog 197 #[stayV t d A n c] w fun e w'=>e= .returned (.bool (cntB t d))/\Bl w w':=by
 obtain⟨W0,hW0⟩:∃W0,W0=w.alloc (stayO t d A n c):=⟨_,rfl⟩
 unfold stayO at hW0;have hs0:W0.heap.size=w.heap.size+1:=by rw[hW0];simp
 have HB0:=hI (show Bl w W0 by rw[hW0];exact(Below.refl _ _).alloc (Nat.le_refl _) _);have h0:W0.heap[w.heap.size]? =some (stayO t d A n c):=by rw[hW0];exact heap_alloc_new _ _
 unfold stayO at h0;have q0:W0.cell? ⟨w.heap.size,0,none⟩=some (.slice t.A t.rows.length t.c):=by simp only[World.cell?,h0];rfl
 have q1:W0.cell? ⟨w.heap.size,1,none⟩=some (.int .i64 t.rest):=by simp only[World.cell?,h0];rfl
 have q2:W0.cell? ⟨w.heap.size,2,none⟩=some (.int .i64 t.day):=by simp only[World.cell?,h0];rfl
 have q4:W0.cell? ⟨w.heap.size,4,none⟩=some (.int .i64 d.pr):=by simp only[World.cell?,h0];rfl
 have q5:W0.cell? ⟨w.heap.size,5,none⟩=some (.int .i64 d.tin):=by simp only[World.cell?,h0];rfl
 have q6:W0.cell? ⟨w.heap.size,6,none⟩=some (.int .i64 d.leave):=by simp only[World.cell?,h0];rfl
 have hd1:=hd.tin;have hd2:=hd.leave;have HK:=hI (counts_any t d.pr (d.leave-d.tin) B W0 (ht.below (HB0.o.mono hB)) (by omega) hl);unfold tabV at HK;have HW0:=hI hW0;have HC:=hI (show cntB t d=(cntRow t d.pr (d.leave-d.tin)).isSome from rfl);rw[<- HC.o] at HK;clear hW0 h0 ht hd;unfold stayV;go_enter Tryz.func197,Tryz.ntmps197;go_upto_region 1 with fail;rw[<- HW0.o];go_wp2_with (go_at_call 104;refine HK.o.mono ?_;rintro e w2 ⟨rfl,hb2⟩;have Hb2:=hI (HB0.o.trans (hb2.mono (by omega)));clear hb2;unfold rowV);go_ret;exact⟨rfl,Hb2.o.alloc (by have:=Hb2.o.size;omega) _⟩
theorem stayOut_any (t:Table) (d:Dive) (A:Option Addr) (n c B:Nat) (w:World) (ht:TIn w B t) (hB:B<=w.heap.size) (hl:t.rows.length<=1000000000) (hd:OkDive d) :
  Calls Tryz.prog 198 #[stayV t d A n c] w fun e w'=>e= .returned (.bool (outB t d))/\Bl w w':=by
 obtain⟨W0,hW0⟩:∃W0,W0=w.alloc (stayO t d A n c):=⟨_,rfl⟩
 unfold stayO at hW0;have hs0:W0.heap.size=w.heap.size+1:=by rw[hW0];simp
 have HB0:=hI (show Bl w W0 by rw[hW0];exact(Below.refl _ _).alloc (Nat.le_refl _) _);have h0:W0.heap[w.heap.size]? =some (stayO t d A n c):=by rw[hW0];exact heap_alloc_new _ _
 have H0:=hI h0;unfold stayO at h0;have q0:W0.cell? ⟨w.heap.size,0,none⟩=some (.slice t.A t.rows.length t.c):=by simp only[World.cell?,h0];rfl
 have q1:W0.cell? ⟨w.heap.size,1,none⟩=some (.int .i64 t.rest):=by simp only[World.cell?,h0];rfl
 have q2:W0.cell? ⟨w.heap.size,2,none⟩=some (.int .i64 t.day):=by simp only[World.cell?,h0];rfl
 have q4:W0.cell? ⟨w.heap.size,4,none⟩=some (.int .i64 d.pr):=by simp only[World.cell?,h0];rfl
 have q5:W0.cell? ⟨w.heap.size,5,none⟩=some (.int .i64 d.tin):=by simp only[World.cell?,h0];rfl
 have q6:W0.cell? ⟨w.heap.size,6,none⟩=some (.int .i64 d.leave):=by simp only[World.cell?,h0];rfl
 have hd1:=hd.tin;have hd2:=hd.leave;have hd3:=hd.out;have HK:=hI (counts_any t d.pr (d.leave-d.tin) B W0 (ht.below (HB0.o.mono hB)) (by omega) hl);unfold tabV at HK;have HW0:=hI hW0;have HC:=hI (show outB t d=decide (((cntRow t d.pr (d.leave-d.tin)).getD ⟨0,0,0⟩).out<=d.out-d.leave) from rfl);generalize (cntRow t d.pr (d.leave-d.tin)).getD ⟨0,0,0⟩=r at HK HC;clear hW0 h0 ht hd;unfold stayV;go_enter Tryz.func198,Tryz.ntmps198;go_upto_region 1 with fail;rw[<- HW0.o];go_wp2_with (go_at_call 104;fail);refine HK.o.mono ?_;rintro e w2 ⟨rfl,hb2⟩;have Hb2:=hI (HB0.o.trans (hb2.mono (by omega)));have h2:w2.heap[w.heap.size]? =some (stayO t d A n c):=(hb2.block _ (by omega)).trans H0.o;unfold stayO at h2;have p6:w2.cell? ⟨w.heap.size,6,none⟩=some (.int .i64 d.leave):=by simp only[World.cell?,h2];rfl
 have p7:w2.cell? ⟨w.heap.size,7,none⟩=some (.int .i64 d.out):=by simp only[World.cell?,h2];rfl
 have hs2:w.heap.size<w2.heap.size:=by have:=hb2.size;omega
 clear hb2 h2 q0 q1 q2 q4 q5 q6 HK;unfold rowV;go_upto_region 2 with fail;obtain⟨W2,hW2⟩:∃W2,W2=w2.alloc (.cells #[.int .i64 r.pr,.int .i64 r.mi,.int .i64 r.out] 89):=⟨_,rfl⟩
 rw[<- hW2];have p6':W2.cell? ⟨w.heap.size,6,none⟩=some (.int .i64 d.leave):=by rw[hW2];exact(((Below.refl w2.heap.size w2).alloc (Nat.le_refl _) _).cell (p:=⟨w.heap.size,6,none⟩) hs2).trans p6
 have p7':W2.cell? ⟨w.heap.size,7,none⟩=some (.int .i64 d.out):=by rw[hW2];exact(((Below.refl w2.heap.size w2).alloc (Nat.le_refl _) _).cell (p:=⟨w.heap.size,7,none⟩) hs2).trans p7
 have r2:W2.cell? ⟨w2.heap.size,2,none⟩=some (.int .i64 r.out):=by rw[hW2];exact alloc_cell rfl
 have HB2:=hI (show Bl w W2 by rw[hW2];exact Hb2.o.alloc (by omega) _);clear hW2 p6 p7;go_wp2;go_ret;exact⟨ret_bool HC.o.symm,HB2.o⟩
theorem elemDi:Elem Tryz.prog 75 84 (.agg #[.string ByteArray.empty,.int .i64 0,.int .i64 0,.int .i64 0,.int .i64 0]) 5 48:=Elem.mk' Tryz.underlying75 (by kernel_rfl) rfl (by decide) (by decide)
theorem lenDi (d:Dive):(encDive d).length=5:=rfl
theorem flat_lenDi (l:List Dive):(l.flatMap encDive).length=l.length*5:=by
 induction l with
 | nil=>rfl
 | cons a r ih=>rw[List.flatMap_cons,List.length_append,ih,lenDi,List.length_cons];omega
theorem src_of_sl {w:World} {B n:Nat} {l:List Dive} {ad:Addr} (h:Sl w B 5 encDive (some ad) l) (hn:n=l.length):Src w 5 (some ad) n (l.flatMap encDive):=by
 refine .inr ⟨ad,rfl,by rw[flat_lenDi,hn],fun j u hu=> ?_⟩
 have hj:j<l.length*5:=by
  have:=(List.getElem?_eq_some_iff.1 hu).1
  rwa [flat_lenDi] at this
 obtain⟨b,off,e1,_,hc⟩:=h (by omega);cases e1;have hi:j/5<l.length:=by omega
 have hu2:(encDive l[j/5])[j%5]? =some u:=by
  rw[<- flat_get lenDi l (j/5) (j%5) hi (by omega),show j/5*5+j%5=j by omega];exact hu
 have h1:=hc (j/5) hi (j%5) u hu2
 have h2:(⟨b,off,none⟩:Addr).add j=⟨b,off+j/5*5+j%5,none⟩:=by
  rw[show off+j/5*5+j%5=off+j by omega];unfold Addr.add
  split<;>simp_all
 rw[h2];exact h1
theorem cloneDive_any (l:List Dive) (A:Option Addr) (n c:Nat) (w:World) (hn:n=l.length) (hA:Sl w w.heap.size 5 encDive A l) (hz:A=none->n=0/\c=0) (hl:n<=10000000) :
  Calls Tryz.prog 112 #[.slice A n c] w fun e w'=>∃v,e= .returned v/\w'.ownsRow w.heap.size 84 5 v n (l.flatMap encDive)/\Bl w w':=by
 have heq:=fun(w:World) (a:Option Addr) (n c:Nat)=>Lib.run_eql_slice_nil (P:=Tryz.prog) w 75 84 a n c 0 0 Tryz.underlying75
 cases A with
 | none=>
  obtain⟨rfl,rfl⟩:=hz rfl;have hln:l=[]:=List.length_eq_zero_iff.1 hn.symm;subst hln;clear hA hn hl hz;go_enter Tryz.func112,Tryz.ntmps112;go_wp2;go_ret;exact⟨_,rfl,World.ownsRow_nil _ _ _ _,Below.refl _ _⟩
 | some ad=>
  have HS:=hI (src_of_sl (w:=w.alloc (.cells #[] 84)) (ad:=ad) (hA.below ((Below.refl _ _).alloc (Nat.le_refl _) _)) hn)
  have Hone:Hid (∀u∈l.flatMap encDive,u.oneCell'=true):=by
   intro u hu;obtain⟨x,_,hx⟩:=List.mem_flatMap.1 hu;simp only[encDive,List.mem_cons,List.not_mem_nil,or_false] at hx;rcases hx with rfl | rfl | rfl | rfl | rfl<;>rfl
  have HO:=hI (World.ownsRow_lit (base:=w.heap.size) (e:=84) (size:=5) w #[] 0 (Nat.le_refl _) (by unfold maxLen;omega) rfl);clear hA hz hn;go_enter Tryz.func112,Tryz.ntmps112;go_wp2_with (at_builtin;refine wpList_appendL rfl _ _ 75 rfl w.heap.size 84 _ 5 48 elemDi _ _ _ rfl HO.o _ _ _ _ rfl HS.o Hone.o (by omega) (by simp) ?_;intro v1 w1 hown1 hb1 hsz1 hg1 hblk1;have Hown1:=hI hown1;have Hb1:=hI hb1;have Hsz1:=hI hsz1;clear hown1 hb1 hsz1 hg1 hblk1);go_ret;exact⟨_,rfl,by have:=Hown1.o;simpa using this,((Below.refl _ _).alloc (Nat.le_refl _) _).trans Hb1.o⟩
theorem rested_any (t:Table) (d:Dive) (l:List Dive) (A:Option Addr) (n c B:Nat) (w:World) (hn:n=l.length) (hA:Sl w B 5 encDive A l) (hB:B<=w.heap.size) (hd:OkDive d) (hl:∀x∈l,OkDive x) (hnl:n<=1000000) :
  Calls Tryz.prog 199 #[stayV t d A n c] w fun e w'=>e= .returned (.bool (restB t l d))/\Bl w w':=by
 obtain⟨W0,hW0⟩:∃W0,W0=w.alloc (stayO t d A n c):=⟨_,rfl⟩
 unfold stayO at hW0;have hs0:W0.heap.size=w.heap.size+1:=by rw[hW0];simp
 have HB0:=hI (show Bl w W0 by rw[hW0];exact(Below.refl _ _).alloc (Nat.le_refl _) _);have h0:W0.heap[w.heap.size]? =some (stayO t d A n c):=by rw[hW0];exact heap_alloc_new _ _
 unfold stayO at h0;have q1:W0.cell? ⟨w.heap.size,1,none⟩=some (.int .i64 t.rest):=by simp only[World.cell?,h0];rfl
 have q5:W0.cell? ⟨w.heap.size,5,none⟩=some (.int .i64 d.tin):=by simp only[World.cell?,h0];rfl
 have q8:W0.cell? ⟨w.heap.size,8,none⟩=some (.slice A n c):=by simp only[World.cell?,h0];rfl
 have hd1:=hd.tin;have HA:=hI (hA.below (HB0.o.mono hB));have HW0:=hI hW0;have Hn:=hI hn;clear hW0 h0 hA hn;unfold stayV
 by_cases hz:n=0
 ·have hz':((n:Int)==0)=true:=by rw[hz];rfl
  have HC:=hI (show restB t l d=true by unfold restB;rw[decide_eq_true (show l.length=0 by have:=Hn.o;omega)];rfl);clear hz;go_enter Tryz.func199,Tryz.ntmps199;go_upto_region 1 with fail;rw[<- HW0.o];go_wp2
  go_quiet (fail)
  go_wp2;go_ret;exact⟨ret_bool HC.o.symm,below_drewN HB0.o _⟩
 ·have hz':((n:Int)==0)=false:=beq_false_of_ne (by omega);have hpos:1<=n:=by omega
  have hil:n-1<l.length:=by have:=Hn.o;omega
  obtain⟨b,off,hbe,hbB,hcells⟩:=HA.o (by omega);subst hbe;have c4:W0.cell? ⟨b,off+(n-1)*5+4,none⟩=some (.int .i64 l[n-1].out):=hcells (n-1) hil 4 _ rfl;have hox:=(hl _ (List.getElem_mem hil)).out
  have HC:=hI (show restB t l d=decide (t.rest<=d.tin-l[n-1].out) by
   unfold restB;rw[decide_eq_false (show ¬l.length=0 by omega),Bool.false_or,show l.length-1=n-1 by have:=Hn.o;omega,getD_lt hil])
  generalize l[n-1].out=xo at c4 HC hox;clear hcells hz hl;go_enter Tryz.func199,Tryz.ntmps199;go_upto_region 1 with fail;rw[<- HW0.o];go_wp2
  go_quiet (fail)
  go_wp2;go_ret;exact⟨ret_bool HC.o.symm,below_drewN HB0.o _⟩
end Go.Proofs.YtjpgnfekbojcaaaGreat
