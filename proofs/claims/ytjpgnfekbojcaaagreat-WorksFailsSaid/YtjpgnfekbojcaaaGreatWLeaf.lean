/- Contracts of the small functions of package works and of its specification: comparisons,times. -/
import Derived.Test.YtjpgnfekbojcaaaGreatProg
import Derived.Test.YtjpgnfekbojcaaaGreatSpec
import Derived.StillTailTactics
import Derived.WalkLawsBesides
import Derived.WalkSpells
import Derived.Deep.LoopGhost
import Derived.Deep.Cut
import Derived.BigGuardPart
set_option maxHeartbeats 2000000
set_option maxRecDepth 100000
namespace Go.Proofs.YtjpgnfekbojcaaaGreat
open Go.RowKit W7 W8
theorem within_any (n lo hi:Int) (w:World) :
  Calls Tryz.prog 62 #[.int .i64 n,.int .i64 lo,.int .i64 hi] w fun e w'=>e= .returned (.bool (withinB n lo hi))/\w=w':=by
 unfold withinB
 by_cases h1:lo<=n
 ·by_cases h2:n<=hi
  ·go_enter Tryz.func62,Tryz.ntmps62;go_wp2;go_ret;exact⟨by simp[h1,h2],rfl⟩
  ·go_enter Tryz.func62,Tryz.ntmps62;go_wp2;go_ret;exact⟨by simp[h2],rfl⟩
 ·go_enter Tryz.func62,Tryz.ntmps62;go_wp2;go_ret;exact⟨by simp;omega,rfl⟩
theorem isTime_any (n:Int) (w:World) :
  Calls Tryz.prog 70 #[.int .i64 n] w fun e w'=>e= .returned (.bool (isTm n))/\w=w':=by
 go_enter Tryz.func70,Tryz.ntmps70;go_wp2_with (go_at_call 62;refine(within_any _ _ _ _).mono ?_;rintro e w' ⟨rfl,rfl⟩);go_ret;exact⟨rfl,rfl⟩
theorem timed_any (n:Int) (w:World) :
  Calls Tryz.prog 77 #[.int .i64 n] w fun e w'=>e= .returned (.bool (isTm n))/\w=w':=by
 unfold isTm withinB
 by_cases h1:0<=n
 ·by_cases h2:n<=100000
  ·go_enter Tryz.func77,Tryz.ntmps77;go_wp2;go_ret;exact⟨by simp[h1,h2],rfl⟩
  ·go_enter Tryz.func77,Tryz.ntmps77;go_wp2;go_ret;exact⟨by simp[h2],rfl⟩
 ·go_enter Tryz.func77,Tryz.ntmps77;go_wp2;go_ret;exact⟨by simp;omega,rfl⟩
end Go.Proofs.YtjpgnfekbojcaaaGreat
namespace W8
open W7
structure Line where
 RA:Option Go.Addr
 rc:Nat
 run:List Int
 MA:Option Go.Addr
 mc:Nat
 room:List Int
def okRoom (x:Int):Bool:=withinB x 0 1000
def okRun (x:Int):Bool:=withinB x 1 1000
def lineErr (l:Line):Int:=if 16<l.room.length then 3 else if l.room.length=0\/l.run.length+1≠l.room.length then 1 else if l.room.all okRoom&&l.run.all okRun then 0 else 1
end W8
namespace Go.Proofs.YtjpgnfekbojcaaaGreat
open Go.RowKit W7 W8
attribute [local go_sem] Oper.semAt_some
def lineV (l:Line):Value:= .agg #[.slice l.RA l.run.length l.rc,.slice l.MA l.room.length l.mc]
structure LnIn (w:World) (B:Nat) (l:Line):Prop where
 run:Sl w B 1 encInt1 l.RA l.run
 room:Sl w B 1 encInt1 l.MA l.room
 rlc:l.run.length<=l.rc
 rc2:l.rc<=9223372036854775807
 mlc:l.room.length<=l.mc
 mc2:l.mc<=9223372036854775807
end Go.Proofs.YtjpgnfekbojcaaaGreat
namespace Go.Proofs.YtjpgnfekbojcaaaGreat
open Go.RowKit W7 W8
theorem all_take_succ (s:ByteArray) (k:Nat) (h:k<s.size):(s.data.toList.take (k+1)).all okc=((s.data.toList.take k).all okc&&okc s[k]):=by
 rw[zK (by simpa using h),List.all_append];simp;rfl
theorem all_of_take (s:ByteArray) (k:Nat) (h:k<s.size) (hn:okc s[k]=false):s.data.toList.all okc=false:=by
 rw[List.all_eq_false];exact⟨s[k],by simp[ByteArray.getElem_eq_getElem_data],by simp[hn]⟩
theorem head_at (s:ByteArray) (h:0<s.size):s.data.toList.headD 0=s[0]:=by
 have h':0<s.data.toList.length:=by simpa using h
 rw[List.headD_eq_head?_getD,List.head?_eq_getElem?,zB h']
 rfl
theorem empty_iff (s:ByteArray):s.toList.isEmpty=decide (s.size=0):=by
 rw[ByteArray.toList_eq];have:s.data.toList.length=s.size:=Array.length_toList;rw[<- this];cases s.data.toList<;>simp
theorem nameB_empty (s:ByteArray) (h:s.size=0):nameB s=false:=by simp[nameB,h]
theorem nameB_long (s:ByteArray) (h:16<s.size):nameB s=false:=by
 have: ¬s.size<=16:=by omega
 simp[nameB,this]
theorem nameB_first (s:ByteArray) (h:0<s.size) (hf:okFirst s[0]=false):nameB s=false:=by
 rw[nameB,head_at s h,hf];simp
theorem nameB_all (s:ByteArray) (h0:0<s.size) (h16:s.size<=16) (hf:okFirst s[0]=true):nameB s=s.data.toList.all okc:=by
 rw[nameB,head_at s h0,hf];simp[h16];intro _;omega
theorem okc_true_1 (c:UInt8) (h1:(97:Int)<=(c.toNat:Int)) (h2:(c.toNat:Int)<=122):okc c=true:=by simp[okc,h1,h2]
theorem okc_true_2 (c:UInt8) (h1:(48:Int)<=(c.toNat:Int)) (h2:(c.toNat:Int)<=57):okc c=true:=by simp[okc,h1,h2]
theorem okc_true_3 (c:UInt8) (h1:(c.toNat:Int)=45):okc c=true:=by simp[okc,h1]
theorem okc_false (c:UInt8) (h1:(97:Int)<=(c.toNat:Int)->(122:Int)<(c.toNat:Int)) (h2:(48:Int)<=(c.toNat:Int)->(57:Int)<(c.toNat:Int)) (h3:(c.toNat:Int)≠45):okc c=false:=by
 simp[okc];omega
theorem isName_any (s:ByteArray) (hs:s.size<=maxLen) (w:World) :
  Calls Tryz.prog 106 #[.string s] w fun e w'=>e= .returned (.bool (nameB s))/\w=w':=by
 unfold maxLen at hs;have He:=hI (empty_iff s)
 by_cases h0:s.size=0
 ·have he:s.toList.isEmpty=true:=by rw[He.o,h0];rfl
  have HN:=hI (nameB_empty s h0);clear h0;go_enter Tryz.func106,Tryz.ntmps106;go_wp2;go_ret;exact⟨by rw[HN.o];rfl,rfl⟩
 have he:s.toList.isEmpty=false:=by rw[He.o];simpa using h0
 have h0':0<s.size:=by omega
 clear h0
 by_cases h16:16<s.size
 ·have HN:=hI (nameB_long s h16);go_enter Tryz.func106,Tryz.ntmps106;go_wp2;go_ret;exact⟨by rw[HN.o];rfl,rfl⟩
 by_cases hf1:((s[0]'(by omega)).toNat:Int)<97
 ·have HN:=hI (nameB_first s h0' (by simp[okFirst];omega));have hd:decide (((s[0]'(by omega)).toNat:Int)<97)=true:=by simpa using hf1
  go_enter Tryz.func106,Tryz.ntmps106;go_wp2;go_ret;exact⟨by rw[HN.o];rfl,rfl⟩
 by_cases hf2:(122:Int)<((s[0]'(by omega)).toNat:Int)
 ·have HN:=hI (nameB_first s h0' (by simp[okFirst];omega));have hd0:decide (((s[0]'(by omega)).toNat:Int)<97)=false:=by simpa using hf1
  have hd:decide ((122:Int)<((s[0]'(by omega)).toNat:Int))=true:=by simpa using hf2
  go_enter Tryz.func106,Tryz.ntmps106;go_wp2;go_ret;exact⟨by rw[HN.o];rfl,rfl⟩
 have hd2:decide ((16:Int)<(s.size:Int))=false:=by simp;omega
 have hd0:decide (((s[0]'(by omega)).toNat:Int)<97)=false:=by simpa using hf1
 have hd1:decide ((122:Int)<((s[0]'(by omega)).toNat:Int))=false:=by simpa using hf2
 have HN:=hI (nameB_all s h0' (by omega) (by simp[okFirst];omega));go_enter Tryz.func106,Tryz.ntmps106;go_wp2
 go_loop [24] (fun i=>∃k:Nat,k<=s.size/\i= .int .i64 k/\Hid ((s.data.toList.take k).all okc=true)) (fun i=>s.size-(intOf i).toNat)
 case atStart=>exact⟨0,by omega,rfl,hI rfl⟩
 case round=>
  obtain⟨k,hk,rfl,Hall⟩:=hrel
  by_cases hlt:k<s.size
  ·have HT:=hI (all_take_succ s k hlt);have HF:=hI (all_of_take s k hlt)
   by_cases h45:(s[k].toNat:Int)=45
   ·have h45b:((s[k].toNat:Int)==45)=true:=beq_iff_eq.2 h45;have H45:=hI h45;clear h45;go_wp2
    all_goals
     go_round
     case rel=>exact⟨k+1,by omega,by go_num,hI (by rw[HT.o,Hall.o,okc_true_3 _ H45.o];rfl)⟩
     case measure=>simp[intOf];omega
   ·have h45b:((s[k].toNat:Int)==45)=false:=beq_eq_false_iff_ne.2 h45;have H45:=hI h45;clear h45;go_wp2
    all_goals first
     | (go_ret;exact⟨by rw[HN.o,HF.o (okc_false _ (by omega) (by omega) H45.o)];rfl,rfl⟩)
     | (go_round;(case rel=>exact⟨k+1,by omega,by go_num,hI (by rw[HT.o,Hall.o];first | (rw[okc_true_1 _ (by omega) (by omega)];rfl) | (rw[okc_true_2 _ (by omega) (by omega)];rfl))⟩);(case measure=>simp[intOf];omega))
  ·obtain rfl:k=s.size:=by omega
   have HA:=hI (show s.data.toList.all okc=true by rw[<- Hall.o,zG];exact Nat.le_of_eq Array.length_toList);go_wp2;go_ret;exact⟨by rw[HN.o,HA.o];rfl,rfl⟩
theorem refName_any (s:ByteArray) (hs:s.size<=maxLen) (w:World) :
  Calls Tryz.prog 99 #[.string s] w fun e w'=>e= .returned (.bool (nameB s))/\w=w':=by
 unfold maxLen at hs
 by_cases h0:s.size=0
 ·have he:((s.size:Int)==0)=true:=by rw[h0];rfl
  have HN:=hI (nameB_empty s h0);clear h0;go_enter Tryz.func99,Tryz.ntmps99;go_wp2;go_ret;exact⟨by rw[HN.o];rfl,rfl⟩
 have he:((s.size:Int)==0)=false:=by simp;exact fun h=>h0 (by simpa using h)
 have h0':0<s.size:=by omega
 clear h0
 by_cases h16:16<s.size
 ·have HN:=hI (nameB_long s h16);have h16b:decide ((16:Int)<(s.size:Int))=true:=by simp;omega
  go_enter Tryz.func99,Tryz.ntmps99;go_wp2;go_ret;exact⟨by rw[HN.o];rfl,rfl⟩
 have hd2:decide ((16:Int)<(s.size:Int))=false:=by simp;omega
 by_cases hf1:((s[0]'(by omega)).toNat:Int)<97
 ·have HN:=hI (nameB_first s h0' (by simp[okFirst];omega));have hd:decide (((s[0]'(by omega)).toNat:Int)<97)=true:=by simpa using hf1
  go_enter Tryz.func99,Tryz.ntmps99;go_wp2;go_ret;exact⟨by rw[HN.o];rfl,rfl⟩
 by_cases hf2:(122:Int)<((s[0]'(by omega)).toNat:Int)
 ·have HN:=hI (nameB_first s h0' (by simp[okFirst];omega));have hd0:decide (((s[0]'(by omega)).toNat:Int)<97)=false:=by simpa using hf1
  have hd:decide ((122:Int)<((s[0]'(by omega)).toNat:Int))=true:=by simpa using hf2
  go_enter Tryz.func99,Tryz.ntmps99;go_wp2;go_ret;exact⟨by rw[HN.o];rfl,rfl⟩
 have hd0:decide (((s[0]'(by omega)).toNat:Int)<97)=false:=by simpa using hf1
 have hd1:decide ((122:Int)<((s[0]'(by omega)).toNat:Int))=false:=by simpa using hf2
 have HN:=hI (nameB_all s h0' (by omega) (by simp[okFirst];omega));go_enter Tryz.func99,Tryz.ntmps99;go_wp2
 go_loop [3] (fun i=>∃k:Nat,k<=s.size/\i= .int .i64 k/\Hid ((s.data.toList.take k).all okc=true)) (fun i=>s.size-(intOf i).toNat)
 case atStart=>exact⟨0,by omega,rfl,hI rfl⟩
 case round=>
  obtain⟨k,hk,rfl,Hall⟩:=hrel
  by_cases hlt:k<s.size
  ·have HT:=hI (all_take_succ s k hlt);have HF:=hI (all_of_take s k hlt)
   by_cases h45:(s[k].toNat:Int)=45
   ·have h45b:((s[k].toNat:Int)==45)=true:=beq_iff_eq.2 h45;have H45:=hI h45;clear h45;go_wp2
    all_goals
     go_round
     case rel=>exact⟨k+1,by omega,by go_num,hI (by rw[HT.o,Hall.o,okc_true_3 _ H45.o];rfl)⟩
     case measure=>simp[intOf];omega
   ·have h45b:((s[k].toNat:Int)==45)=false:=beq_eq_false_iff_ne.2 h45;have H45:=hI h45;clear h45;go_wp2
    all_goals first
     | (go_ret;exact⟨by rw[HN.o,HF.o (okc_false _ (by omega) (by omega) H45.o)];rfl,rfl⟩)
     | (go_round;(case rel=>exact⟨k+1,by omega,by go_num,hI (by rw[HT.o,Hall.o];first | (rw[okc_true_1 _ (by omega) (by omega)];rfl) | (rw[okc_true_2 _ (by omega) (by omega)];rfl))⟩);(case measure=>simp[intOf];omega))
  ·obtain rfl:k=s.size:=by omega
   have HA:=hI (show s.data.toList.all okc=true by rw[<- Hall.o,zG];exact Nat.le_of_eq Array.length_toList);go_wp2;go_ret;exact⟨by rw[HN.o,HA.o];rfl,rfl⟩
end Go.Proofs.YtjpgnfekbojcaaaGreat
namespace W8
open W7
structure TCall where
 st:Int
 arr:Int
 lv:Int
deriving Inhabited,DecidableEq
structure TWay where
 A:Option Go.Addr
 c:Nat
 calls:List TCall
deriving Inhabited
def folB (l:Line) (w:List TCall) (i:Nat):Bool:=
 (decide ((w.getD i default).st-(w.getD (i-1) default).st=1)||decide ((w.getD i default).st-(w.getD (i-1) default).st= -1)) &&
  (decide (i<=1)||decide ((w.getD (i-1) default).st-(w.getD (i-2) default).st=(w.getD i default).st-(w.getD (i-1) default).st)) &&
  decide ((w.getD i default).arr=(w.getD (i-1) default).lv+l.run.getD (min (w.getD (i-1) default).st (w.getD i default).st).toNat 0)
def callErrAt (l:Line) (w:List TCall) (i:Nat):Int:=
 if withinB (w.getD i default).st 0 ((l.room.length:Int)-1) then
  (if isTm (w.getD i default).arr&&isTm (w.getD i default).lv&&decide ((w.getD i default).arr<=(w.getD i default).lv) then
   (if decide (i=0)||folB l w i then 0 else 8) else 1) else 7
def wayErr2 (l:Line) (w:List TCall):Int:=if lineErr l≠0 then lineErr l else if w.length=0 then 1 else firstErr (callErrAt l w) w.length
def tabErrAt (l:Line) (t:List (List TCall)) (i:Nat):Int:=wayErr2 l (t.getD i [])
def tabErr (l:Line) (t:List (List TCall)):Int:=if lineErr l≠0 then lineErr l else if 32<t.length then 3 else firstErr (tabErrAt l t) t.length
def stIn (s t:Int) (c:TCall):Nat:=if c.st=s/\c.arr<=t/\t<=c.lv then 1 else 0
def stWay (s t:Int):List TCall->Nat
 | []=>0
 | c::l=>stIn s t c+stWay s t l
def stAll (s t:Int):List (List TCall)->Nat
 | []=>0
 | w::l=>stWay s t w+stAll s t l
def seIn (k t:Int) (a b:TCall):Nat:=if min a.st b.st=k/\a.lv<=t/\t<=b.arr-1 then 1 else 0
def seWay (k t:Int):List TCall->Nat
 | []=>0
 | a::l=>(match l with | []=>0 | b::_=>seIn k t a b)+seWay k t l
def seAll (k t:Int):List (List TCall)->Nat
 | []=>0
 | w::l=>seWay k t w+seAll k t l
end W8
namespace Go.Proofs.YtjpgnfekbojcaaaGreat
open Go.RowKit W7 W8
attribute [local go_sem] Oper.semAt_some
def encU8 (x:Int):List Value:=[.int .u8 x]
theorem lawInts_any (xs:List Int) (A A':Option Addr) (n c c' B:Nat) (w:World) (hn:n=xs.length) (hA:Sl w B 1 encInt1 A xs) (hA':Sl w B 1 encInt1 A' xs) (hB:B<=w.heap.size) (hl:n<=1000000000) :
  Calls Tryz.prog 19 #[.slice A n c,.slice A' n c'] w fun e w'=>e= .returned (.bool true)/\Bl w w':=by
 have HA:=hI hA;have HA':=hI hA';have Hn:=hI hn;have hnn:((n:Int)==(n:Int))=true:=beq_self_eq_true _;have hnm:((n:Int) != (n:Int))=false:=by simp
 clear hA hA' hn;go_enter Tryz.func19,Tryz.ntmps19;go_wp2;go_loopw [5] (fun v wr=>∃i:Nat,i<=n/\v= .int .i64 i/\Hid (Bl w wr)) (fun v _=>n-(intOf v).toNat);case atStart=>exact⟨0,by omega,rfl,hI (zX _ _)⟩
 case round=>
  obtain⟨i,hi,rfl,Hb⟩:=hrel;have hsr:=Hb.o.size
  by_cases hlt:i<n
  ·have hil:i<xs.length:=by have:=Hn.o;omega
   obtain⟨b,off,hbe,hbB,hc1⟩:=(HA.o.below (Hb.o.mono hB)) (by omega)
   obtain⟨b',off',hbe',hbB',hc2⟩:=(HA'.o.below (Hb.o.mono hB)) (by omega)
   subst hbe hbe';have c0:wr.cell? ⟨b,off+i,none⟩=some (.int .i64 xs[i]):=by have h:=hc1 i hil 0 _ rfl;rwa [Nat.mul_one,Nat.add_zero] at h
   have c1:wr.cell? ⟨b',off'+i,none⟩=some (.int .i64 xs[i]):=by have h:=hc2 i hil 0 _ rfl;rwa [Nat.mul_one,Nat.add_zero] at h
   generalize xs[i]=x at c0 c1;have hx:(x==x)=true:=beq_self_eq_true _;have hx':(x != x)=false:=by simp
   clear hc1 hc2;go_wp2
   go_quiet (fail)
   have HB3:=hI (zO (B:=w.heap.size) Hb.o nq);go_wp2;go_roundw;case rel=>exact⟨i+1,by omega,by go_num,HB3⟩
   case measure=>simp[intOf];omega
  ·go_wp2;go_ret;exact⟨rfl,Hb.o⟩
def noFault (x:Int):Bool:=x==0
theorem next1_any (x:Int) (w:World):Calls Tryz.prog 111 #[.int .u8 x] w fun e w'=>e= .returned (.bool (!noFault x))/\w=w':=by
 unfold noFault;go_enter Tryz.func111,Tryz.ntmps111;go_wp2;go_ret;exact⟨rfl,rfl⟩
theorem idxFault_any (xs:List Int) (n:Nat) (hn:n=xs.length) (A:Option Addr) (c B:Nat) (w:World) (hA:Sl w B 1 encU8 A xs) (_hB:B<=w.heap.size) (hl:xs.length<=1000000000) :
  Calls Tryz.prog 172 #[.slice A n c,.func (.func 111) #[] #[]] w fun e w'=>e= .returned (.int .i64 (idxB (fun x=> !noFault x) xs))/\Bl w w':=by
 subst hn;have HA:=hI hA;clear hA;go_enter Tryz.func172,Tryz.ntmps172;go_wp2;go_loopw [8] (fun i wr=>∃k:Nat,k<=xs.length/\i= .int .i64 k/\Hid ((xs.take k).any (fun x=> !noFault x)=false)/\Hid (w=wr)) (fun i _=>xs.length-(intOf i).toNat);case atStart=>exact⟨0,by omega,rfl,hI (by simp),hI rfl⟩
 case round=>
  obtain⟨k,hk,rfl,Hno,hwr⟩:=hrel;obtain rfl:=hwr.out
  by_cases hlt:k<xs.length
  ·obtain⟨b,off,rfl,hbB,hcells⟩:=HA.o (by omega);have c0:w.cell? ⟨b,off+k,none⟩=some (.int .u8 xs[k]):=by have h:=hcells k hlt 0 _ rfl;rwa [Nat.mul_one,Nat.add_zero] at h
   have Hs:=hI (any_take_succ (p:=fun x=> !noFault x) hlt Hno.o);have Hh:=hI (idxB_hit (p:=fun x=> !noFault x) hlt Hno.o);generalize xs[k]=x at c0 Hs Hh;clear hcells;cases hp:noFault x
   ·have HI:=hI (Hh.o (by rw[hp];rfl));go_wp2_with (go_at_call 111;refine(next1_any x _).mono ?_;rintro e w1 ⟨rfl,rfl⟩);go_ret;exact⟨ret_int HI.o.symm,zX _ _⟩
   ·have HN:=hI (Hs.o (by rw[hp];rfl));go_wp2_with (go_at_call 111;refine(next1_any x _).mono ?_;rintro e w1 ⟨rfl,rfl⟩);go_roundw;case rel=>exact⟨k+1,by omega,by go_num,HN,hI trivial⟩
    case measure=>simp[intOf];omega
  ·have HN:=hI (idxB_none (p:=fun x=> !noFault x) (xs:=xs) (by rw[<- Hno.o,zG (by omega)]));go_wp2;go_ret;exact⟨ret_int HN.o.symm,zX _ _⟩
theorem conFault_any (xs:List Int) (n:Nat) (hn:n=xs.length) (A:Option Addr) (c B:Nat) (w:World) (hA:Sl w B 1 encU8 A xs) (hB:B<=w.heap.size) (hl:xs.length<=1000000000) :
  Calls Tryz.prog 110 #[.slice A n c,.func (.func 111) #[] #[]] w fun e w'=>e= .returned (.bool (!xs.all noFault))/\Bl w w':=by
 have H:=hI (idxFault_any xs n hn A c B w hA hB hl);have HB:=hI (show xs.any (fun x=> !noFault x)= !xs.all noFault by rw[List.not_all_eq_any_not]);clear hA hn;go_enter Tryz.func110,Tryz.ntmps110;go_wp2_with (go_at_call 172;refine H.o.mono ?_;rintro e w1 ⟨rfl,hb1⟩);go_ret;exact⟨ret_bool (idxB_any.trans HB.o),hb1⟩
def encRow (r:AirRow):List Value:=[.int .i64 r.pr,.int .i64 r.mi,.int .i64 r.out]
def tabV (t:Table):Value:= .agg #[.slice t.A t.rows.length t.c,.int .i64 t.rest,.int .i64 t.day]
structure TIn (w:World) (B:Nat) (t:Table):Prop where
 sl:Sl w B 3 encRow t.A t.rows
 lc:t.rows.length<=t.c
 c2:t.c<=9223372036854775807
theorem TIn.below {w w':World} {B:Nat} {t:Table} (h:TIn w B t) (hb:Below B w w'):TIn w' B t:=⟨h.sl.below hb,h.lc,h.c2⟩
theorem TIn.mono {w:World} {B B':Nat} {t:Table} (h:TIn w B t) (hB:B<=B'):TIn w B' t:=⟨h.sl.mono hB,h.lc,h.c2⟩
theorem CheckTable_any (t:Table) (B:Nat) (w:World) (ht:TIn w B t) (hB:B<=w.heap.size) :
  Calls Tryz.prog 44 #[tabV t] w fun e w'=>e= .returned (.int .i64 (tblErr t))/\Bl w w':=by
 obtain⟨QQ,hQQ⟩:=eX t.A;obtain⟨n,hn⟩:=eX t.rows.length;unfold tabV;have hlc:=ht.lc;have hc2:=ht.c2;have hsl:=ht.sl;rw[hQQ] at hsl ⊢;rw[hn] at hlc ⊢;obtain⟨W0,hW0⟩:=eY (w.alloc (.cells #[.slice QQ n t.c,.int .i64 t.rest,.int .i64 t.day] 74));have hs0:W0.heap.size=w.heap.size+1:=by rw[hW0];simp
 have HB0:=hI (show Bl w W0 by rw[hW0];exact(zX _ _).alloc (zm _) _)
 have HQ0:=hI (show ∀(X:World),Bl W0 X->X.cell? ⟨w.heap.size,0,none⟩=some (.slice QQ n t.c)/\X.cell? ⟨w.heap.size,1,none⟩=some (.int .i64 t.rest)/\X.cell? ⟨w.heap.size,2,none⟩=some (.int .i64 t.day) from fun X hX=>
  ⟨(hX.cell (p:=⟨w.heap.size,0,none⟩) (by simp;omega)).trans (by rw[hW0];exact alloc_cell rfl),(hX.cell (p:=⟨w.heap.size,1,none⟩) (by simp;omega)).trans (by rw[hW0];exact alloc_cell rfl),(hX.cell (p:=⟨w.heap.size,2,none⟩) (by simp;omega)).trans (by rw[hW0];exact alloc_cell rfl)⟩)
 have HR:=hI (fun(X:World) (hX:Bl W0 X)=>show Sl X B 3 encRow QQ t.rows from hsl.below ((HB0.o.mono hB).trans (hX.mono (by omega))));have HU:=hI (fun(X:World) (hX:Bl W0 X)=>show Bl w X from HB0.o.trans (hX.mono (by omega)));have HW0:=hI hW0;have Hn:=hI hn;obtain⟨q0,q1,q2⟩:=HQ0.o W0 (zX _ _);clear hW0 hsl ht hn hQQ
 by_cases h64:64<n
 ·have HE:=hI (tbl_long (t:=t) (by rw[Hn.o];exact h64));go_enter Tryz.func44,Tryz.ntmps44;go_upto_region 1 with fail;rw[<- HW0.o];go_wp2;go_ret;exact⟨ret_int HE.o.symm,HB0.o⟩
 have H64:=hI (show ¬ 64<t.rows.length by rw[Hn.o];exact h64);go_enter Tryz.func44,Tryz.ntmps44;go_upto_region 1 with fail;rw[<- HW0.o];go_wp2;clear q0 q1 q2;go_loopw [12] (fun v wr=>∃i:Nat,i<=n/\v= .int .i64 i/\Hid (Bl W0 wr)/\Hid ((t.rows.take i).all okRow=true)) (fun v _=>n-(intOf v).toNat);case atStart=>exact⟨0,by omega,rfl,hI (zX _ _),hI rfl⟩
 case round=>
  obtain⟨i,hi,rfl,Hb,Hall⟩:=hrel;obtain⟨q0,q1,q2⟩:=HQ0.o wr Hb.o;have hsr:=Hb.o.size
  by_cases hlt:i<n
  ·have hil:i<t.rows.length:=by rw[Hn.o];exact hlt
   obtain⟨b,off,hbe,hbB,hcells⟩:=(HR.o wr Hb.o) (by omega)
   subst hbe;have c0:wr.cell? ⟨b,off+i*3,none⟩=some (.int .i64 t.rows[i].pr):=hcells i hil 0 _ rfl;have c1:wr.cell? ⟨b,off+i*3+1,none⟩=some (.int .i64 t.rows[i].mi):=hcells i hil 1 _ rfl;have c2:wr.cell? ⟨b,off+i*3+2,none⟩=some (.int .i64 t.rows[i].out):=hcells i hil 2 _ rfl;have Hs:=hI (all_take_row hil Hall.o);have Hbad:=hI (fun h=>tbl_row (t:=t) H64.o hil h);obtain⟨r,hr⟩:=eY (t.rows[i]);rw[<- hr] at c0 c1 c2 Hs Hbad;have Hok:=hI (show okRow r=(isTm r.pr&&isTm r.mi&&isTm r.out) from rfl);clear hcells hr;cases h1:isTm r.pr
   ·have HE:=hI (Hbad.o (by rw[Hok.o,h1];rfl));go_wp2_with (go_at_call 70;refine(isTime_any _ _).mono ?_;rintro e w' ⟨rfl,rfl⟩);go_ret;exact⟨ret_int HE.o.symm,HU.o _ (Hb.o.alloc hsr _)⟩
   cases h2:isTm r.mi
   ·have HE:=hI (Hbad.o (by rw[Hok.o,h1,h2];rfl));go_wp2_with (go_at_call 70;refine(isTime_any _ _).mono ?_;rintro e w' ⟨rfl,rfl⟩);go_ret;exact⟨ret_int HE.o.symm,HU.o _ (Hb.o.alloc hsr _)⟩
   cases h3:isTm r.out
   ·have HE:=hI (Hbad.o (by rw[Hok.o,h1,h2,h3];rfl));go_wp2_with (go_at_call 70;refine(isTime_any _ _).mono ?_;rintro e w' ⟨rfl,rfl⟩);go_ret;exact⟨ret_int HE.o.symm,HU.o _ (Hb.o.alloc hsr _)⟩
   have Hnx:=hI (show(t.rows.take (i+1)).all okRow=true by rw[Hs.o,Hok.o,h1,h2,h3];rfl);go_wp2_with (go_at_call 70;refine(isTime_any _ _).mono ?_;rintro e w' ⟨rfl,rfl⟩);go_roundw;case rel=>exact⟨i+1,by omega,by go_num,hI (Hb.o.alloc hsr _),Hnx⟩
   case measure=>simp[intOf];omega
  ·have HE:=hI (tbl_end (t:=t) H64.o (by rw[<- Hall.o,zG (by rw[Hn.o];omega)]));cases h1:isTm t.rest
   ·have HE2:=hI (show tblErr t=1 by rw[HE.o,h1];rfl);go_wp2_with (go_at_call 70;refine(isTime_any _ _).mono ?_;rintro e w' ⟨rfl,rfl⟩);go_ret;exact⟨ret_int HE2.o.symm,HU.o _ Hb.o⟩
   cases h2:isTm t.day
   ·have HE2:=hI (show tblErr t=1 by rw[HE.o,h1,h2];rfl);go_wp2_with (go_at_call 70;refine(isTime_any _ _).mono ?_;rintro e w' ⟨rfl,rfl⟩);go_ret;exact⟨ret_int HE2.o.symm,HU.o _ Hb.o⟩
   have HE2:=hI (show tblErr t=0 by rw[HE.o,h1,h2];rfl);go_wp2_with (go_at_call 70;refine(isTime_any _ _).mono ?_;rintro e w' ⟨rfl,rfl⟩);go_ret;exact⟨ret_int HE2.o.symm,HU.o _ Hb.o⟩
theorem counts1_any (x:AirRow) (p m:Int) (bh bg:Nat) (w:World) (hc0:w.cell? ⟨bg,0,none⟩=some (.int .i64 p)) (hc1:w.cell? ⟨bh,0,none⟩=some (.int .i64 m)) (hbh:bh<w.heap.size) (hbg:bg<w.heap.size) :
  Calls Tryz.prog 170 #[.agg #[.int .i64 x.pr,.int .i64 x.mi,.int .i64 x.out],.pointer (some ⟨bg,0,none⟩),.pointer (some ⟨bh,0,none⟩)] w fun e w'=>e= .returned (.bool (fitsRow p m x))/\Bl w w':=by
 unfold fitsRow;cases h1:decide (p<=x.pr)
 ·go_enter Tryz.func170,Tryz.ntmps170;go_wp2;go_ret;exact⟨rfl,(by(repeat (refine Below.alloc ?_ (by first | exact zm _ | omega | (simp;done) | (simp;omega)) _));exact zX _ _)⟩
 cases h2:decide (m<=x.mi)
 ·go_enter Tryz.func170,Tryz.ntmps170;go_wp2;go_ret;exact⟨rfl,(by(repeat (refine Below.alloc ?_ (by first | exact zm _ | omega | (simp;done) | (simp;omega)) _));exact zX _ _)⟩
 ·go_enter Tryz.func170,Tryz.ntmps170;go_wp2;go_ret;exact⟨rfl,(by(repeat (refine Below.alloc ?_ (by first | exact zm _ | omega | (simp;done) | (simp;omega)) _));exact zX _ _)⟩
set_option maxHeartbeats 1000000 in
theorem idxRow_any (xs:List AirRow) (p m:Int) (bh:Nat) (n:Nat) (hn:n=xs.length) (A:Option Addr) (c B bg:Nat) (w:World) (hA:Sl w B 3 encRow A xs) (hB:B<=w.heap.size) (hl:xs.length<=1000000000)
    (hc0:w.cell? ⟨bg,0,none⟩=some (.int .i64 p)) (hc1:w.cell? ⟨bh,0,none⟩=some (.int .i64 m)) (hbh:bh<w.heap.size) (hbg:bg<w.heap.size) :
    Calls Tryz.prog 169 #[.slice A n c,.func (.func 170) #[] #[.pointer (some ⟨bg,0,none⟩),.pointer (some ⟨bh,0,none⟩)]] w fun e w'=>
      e= .returned (.int .i64 (idxB (fun x:AirRow=>fitsRow p m x) xs))/\Bl w w':=by
  subst hn;have HA:=hI hA;clear hA;have Hc0:=hI hc0;clear hc0;have Hc1:=hI hc1;clear hc1;go_enter Tryz.func169,Tryz.ntmps169;go_wp2;go_loopw [8] (fun i wr=>∃k:Nat,k<=xs.length/\i= .int .i64 k/\Hid ((xs.take k).any (fun x:AirRow=>fitsRow p m x)=false)/\Bl w wr) (fun i _=>xs.length-(intOf i).toNat);case atStart=>exact⟨0,by omega,rfl,hI (by simp),zX _ _⟩
  case round=>
    obtain⟨k,hk,rfl,Hno,hb⟩:=hrel
    by_cases hlt:k<xs.length
    · obtain⟨b,off,rfl,hbB,hcells⟩:=HA.o (by omega)
      have h0:=hcells k hlt;clear hcells;have c0:wr.cell? ⟨b,off+k*3,none⟩=some (.int .i64 xs[k].pr):=(hb.cell (p:=⟨b,_,none⟩) (by simp;omega)).trans (h0 0 _ rfl);have c1:wr.cell? ⟨b,off+k*3+1,none⟩=some (.int .i64 xs[k].mi):=(hb.cell (p:=⟨b,_,none⟩) (by simp;omega)).trans (h0 1 _ rfl);have c2:wr.cell? ⟨b,off+k*3+2,none⟩=some (.int .i64 xs[k].out):=(hb.cell (p:=⟨b,_,none⟩) (by simp;omega)).trans (h0 2 _ rfl);have hcg0:wr.cell? ⟨bg,0,none⟩=some (.int .i64 p):=(hb.cell (p:=⟨bg,0,none⟩) hbg).trans Hc0.o;have hcg1:wr.cell? ⟨bh,0,none⟩=some (.int .i64 m):=(hb.cell (p:=⟨bh,0,none⟩) hbh).trans Hc1.o;have Hs:=hI (any_take_succ (p:=fun x:AirRow=>fitsRow p m x) hlt Hno.o);have Hh:=hI (idxB_hit (p:=fun x:AirRow=>fitsRow p m x) hlt Hno.o);have hsz:=hb.size;clear h0;cases hp:(fun x:AirRow=>fitsRow p m x) xs[k]
      · go_wp2_with (go_at_call 170;refine(counts1_any xs[k] p m bh bg _ (by assumption) (by assumption) (by omega) (by omega)).mono ?_;rintro e w1 ⟨rfl,hb1⟩)
        go_roundw;case rel=>exact⟨k+1,by omega,by go_num,hI (Hs.o (by assumption)),hb.trans (hb1.mono hsz)⟩
        case measure=>simp[intOf];omega
      · go_wp2_with (go_at_call 170;refine(counts1_any xs[k] p m bh bg _ (by assumption) (by assumption) (by omega) (by omega)).mono ?_;rintro e w1 ⟨rfl,hb1⟩)
        go_ret;exact⟨ret_int (Hh.o (by assumption)).symm,hb.trans (hb1.mono hsz)⟩
    · have HN:=hI (idxB_none (p:=fun x:AirRow=>fitsRow p m x) (xs:=xs) (by rw[<- Hno.o,zG (by omega)]))
      go_wp2;go_ret;exact⟨ret_int HN.o.symm,hb⟩

theorem set3 {w:World} {b T:Nat} {u0 u1 u2:Value} (h:w.heap[b]? =some (.cells #[u0,u1,u2] T (0,0))) (x y z:Value) :
  (((w.setCell ⟨b,0,none⟩ x).setCell ⟨b,1,none⟩ y).setCell ⟨b,2,none⟩ z).cell? ⟨b,0,none⟩=some x/\(((w.setCell ⟨b,0,none⟩ x).setCell ⟨b,1,none⟩ y).setCell ⟨b,2,none⟩ z).cell? ⟨b,1,none⟩=some y/\(((w.setCell ⟨b,0,none⟩ x).setCell ⟨b,1,none⟩ y).setCell ⟨b,2,none⟩ z).cell? ⟨b,2,none⟩=some z:=by
 have h1:(w.setCell ⟨b,0,none⟩ x).heap[b]? =some (.cells #[x,u1,u2] T (0,0)):=by
  simp[World.setCell,Array.getElem?_modify,h]
 have h2:((w.setCell ⟨b,0,none⟩ x).setCell ⟨b,1,none⟩ y).heap[b]? =some (.cells #[x,y,u2] T (0,0)):=by
  generalize w.setCell ⟨b,0,none⟩ x=w1 at h1;simp[World.setCell,Array.getElem?_modify,h1]
 have h3:(((w.setCell ⟨b,0,none⟩ x).setCell ⟨b,1,none⟩ y).setCell ⟨b,2,none⟩ z).heap[b]? =some (.cells #[x,y,z] T (0,0)):=by
  generalize (w.setCell ⟨b,0,none⟩ x).setCell ⟨b,1,none⟩ y=w1 at h2;simp[World.setCell,Array.getElem?_modify,h2]
 simp only[World.cell?,h3];exact⟨rfl,rfl,rfl⟩
theorem h4 (w:World) (a b c d:Obj):((((w.alloc a).alloc b).alloc c).alloc d).heap[w.heap.size]? =some a/\((((w.alloc a).alloc b).alloc c).alloc d).heap[w.heap.size+1]? =some b/\((((w.alloc a).alloc b).alloc c).alloc d).heap[w.heap.size+2]? =some c/\((((w.alloc a).alloc b).alloc c).alloc d).heap[w.heap.size+3]? =some d/\((((w.alloc a).alloc b).alloc c).alloc d).heap.size=w.heap.size+4:=by
 have s1:(w.alloc a).heap.size=w.heap.size+1:=by simp
 have s2:((w.alloc a).alloc b).heap.size=w.heap.size+2:=by simp
 have s3:(((w.alloc a).alloc b).alloc c).heap.size=w.heap.size+3:=by simp
 refine⟨?_,?_,?_,?_,by simp⟩
 ·rw[zP _ _ _ (by omega),zP _ _ _ (by omega),zP _ _ _ (by omega)];exact zW _ _
 ·rw[zP _ _ _ (by omega),zP _ _ _ (by omega)];have h:=zW (w.alloc a) b
  rwa [s1] at h
 ·rw[zP _ _ _ (by omega)];have h:=zW ((w.alloc a).alloc b) c
  rwa [s2] at h
 ·have h:=zW (((w.alloc a).alloc b).alloc c) d
  rwa [s3] at h
def rowV (r:AirRow):Value:= .agg #[.int .i64 r.pr,.int .i64 r.mi,.int .i64 r.out]
theorem counts_any (t:Table) (p m:Int) (B:Nat) (w:World) (ht:TIn w B t) (hB:B<=w.heap.size) (hl:t.rows.length<=1000000000) :
  Calls Tryz.prog 104 #[tabV t,.int .i64 p,.int .i64 m] w fun e w'=>e= .returned (.tuple #[rowV ((cntRow t p m).getD ⟨0,0,0⟩),.bool (cntRow t p m).isSome])/\Bl w w':=by
 obtain⟨QQ,hQQ⟩:=eX t.A;obtain⟨n,hn⟩:=eX t.rows.length;unfold tabV;have hlc:=ht.lc;have hc2:=ht.c2;have hsl:=ht.sl;rw[hQQ] at hsl ⊢;rw[hn] at hlc ⊢;obtain⟨W0,hW0⟩:=eY ((((w.alloc (.cells #[.slice QQ n t.c,.int .i64 t.rest,.int .i64 t.day] 74)).alloc (.cells #[.int .i64 p] 3)).alloc (.cells #[.int .i64 m] 3)).alloc (.cells #[.int .i64 0,.int .i64 0,.int .i64 0] 89));obtain⟨k0,k1,k2,k3,hs0⟩:=h4 w (.cells #[.slice QQ n t.c,.int .i64 t.rest,.int .i64 t.day] 74) (.cells #[.int .i64 p] 3) (.cells #[.int .i64 m] 3) (.cells #[.int .i64 0,.int .i64 0,.int .i64 0] 89);rw[<- hW0] at k0 k1 k2 k3 hs0;have HB0:=hI (show Bl w W0 by rw[hW0];exact((((zX w.heap.size w).alloc (zm _) _).alloc (by simp) _).alloc (by simp;omega) _).alloc (by simp;omega) _);have q0:W0.cell? ⟨w.heap.size,0,none⟩=some (.slice QQ n t.c):=by simp only[World.cell?,k0];rfl
 have q1:W0.cell? ⟨w.heap.size+1,0,none⟩=some (.int .i64 p):=by simp only[World.cell?,k1];rfl
 have q2:W0.cell? ⟨w.heap.size+2,0,none⟩=some (.int .i64 m):=by simp only[World.cell?,k2];rfl
 have HR:=hI (show Sl W0 B 3 encRow QQ t.rows from hsl.below (HB0.o.mono hB));have HI:=hI (idxRow_any t.rows p m (w.heap.size+2) n hn.symm QQ t.c B (w.heap.size+1) W0 HR.o (by omega) hl q1 q2 (by omega) (by omega));have HW0:=hI hW0;have Hn:=hI hn;have K3:=hI k3;clear hW0 hsl ht hn hQQ q1 q2 k0 k1 k2 k3;go_enter Tryz.func104,Tryz.ntmps104;go_wp2_with (go_at_call 169;fail);rw[<- HW0.o];refine HI.o.mono ?_;rintro e w1 ⟨rfl,hb1⟩;have hs1:=hb1.size;have Hb1:=hI (HB0.o.trans (hb1.mono (by omega)));have q0':=(hb1.cell (p:=⟨w.heap.size,0,none⟩) (by simp;omega)).trans q0;have HR1:=hI (HR.o.below (hb1.mono (by omega)));have K31:=hI ((hb1.block (w.heap.size+3) (by omega)).trans K3.out);have e0:w1.cell? ⟨w.heap.size+3,0,none⟩=some (.int .i64 0):=by simp only[World.cell?,K31.out];rfl
 have e1:w1.cell? ⟨w.heap.size+3,1,none⟩=some (.int .i64 0):=by simp only[World.cell?,K31.out];rfl
 have e2:w1.cell? ⟨w.heap.size+3,2,none⟩=some (.int .i64 0):=by simp only[World.cell?,K31.out];rfl
 have f0:w1.frozen? ⟨w.heap.size+3,0,none⟩=false:=by simp[World.frozen?,K31.out]
 have f1:w1.frozen? ⟨w.heap.size+3,1,none⟩=false:=by simp[World.frozen?,K31.out]
 have f2:w1.frozen? ⟨w.heap.size+3,2,none⟩=false:=by simp[World.frozen?,K31.out]
 clear hb1 q0 HI
 by_cases hge:0<=idxB (fun x:AirRow=>fitsRow p m x) t.rows
 ·obtain⟨k,hk,hke⟩:=idx_lt hge;have HC:=hI (cnt_hit hk hke);rw[hke];have hkn:k<n:=by rw[<- Hn.o];exact hk
  obtain⟨b,off,hbe,hbB,hcells⟩:=HR1.o (by omega);subst hbe;have c0:w1.cell? ⟨b,off+k*3,none⟩=some (.int .i64 t.rows[k].pr):=hcells k hk 0 _ rfl;have c1:w1.cell? ⟨b,off+k*3+1,none⟩=some (.int .i64 t.rows[k].mi):=hcells k hk 1 _ rfl;have c2:w1.cell? ⟨b,off+k*3+2,none⟩=some (.int .i64 t.rows[k].out):=hcells k hk 2 _ rfl;generalize t.rows[k]=r at c0 c1 c2 HC;clear hcells hge hke hk;go_wp2;obtain⟨g0,g1,g2⟩:=set3 K31.out (.int .i64 r.pr) (.int .i64 r.mi) (.int .i64 r.out);refine bodyPost_ret (v:= .tuple #[rowV r,.bool true]) (by simp[results,Tryz.results104,go_sem,g0,g1,g2,rowV]) rfl ?_;exact⟨by rw[HC.o];rfl,((Hb1.o.setCell (p:=⟨w.heap.size+3,0,none⟩) (by simp) _).setCell (p:=⟨w.heap.size+3,1,none⟩) (by simp) _).setCell (p:=⟨w.heap.size+3,2,none⟩) (by simp) _⟩
 ·have HC:=hI (cnt_none hge);have hneg:idxB (fun x:AirRow=>fitsRow p m x) t.rows<0:=by omega
  generalize idxB (fun x:AirRow=>fitsRow p m x) t.rows=ix at hneg;clear hge;go_wp2;obtain⟨g0,g1,g2⟩:=set3 K31.out (.int .i64 0) (.int .i64 0) (.int .i64 0);refine bodyPost_ret (v:= .tuple #[rowV ⟨0,0,0⟩,.bool false]) (by simp[results,Tryz.results104,go_sem,g0,g1,g2,rowV]) rfl ?_;exact⟨by rw[HC.o];rfl,((Hb1.o.setCell (p:=⟨w.heap.size+3,0,none⟩) (by simp) _).setCell (p:=⟨w.heap.size+3,1,none⟩) (by simp) _).setCell (p:=⟨w.heap.size+3,2,none⟩) (by simp) _⟩
end Go.Proofs.YtjpgnfekbojcaaaGreat
namespace Go.Proofs.YtjpgnfekbojcaaaGreat
open Go.RowKit W7 W8
theorem section_any (a b:Int) (w:World):Calls Tryz.prog 147 #[.int .i64 a,.int .i64 b] w fun e w'=>e= .returned (.int .i64 (min a b))/\w=w':=by
 have hmn:=min_run Tryz.prog;go_enter Tryz.func147,Tryz.ntmps147;go_wp2;go_ret;exact⟨rfl,rfl⟩
end Go.Proofs.YtjpgnfekbojcaaaGreat
