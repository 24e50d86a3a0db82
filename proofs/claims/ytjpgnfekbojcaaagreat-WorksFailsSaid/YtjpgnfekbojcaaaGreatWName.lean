/- Which strings are names: package works and the specification say the same of every string. -/
import Derived.BigGuardPart
set_option maxHeartbeats 8000000
set_option maxRecDepth 100000
namespace Go.Proofs.YtjpgnfekbojcaaaGreat
open Go.RowKit W7 W8
theorem all_take_succ (s:ByteArray) (k:Nat) (h:k<s.size):(s.data.toList.take (k+1)).all okc=((s.data.toList.take k).all okc&&okc s[k]):=by
 rw[List.take_succ_eq_append_getElem (by simpa using h),List.all_append];simp;rfl
theorem all_of_take (s:ByteArray) (k:Nat) (h:k<s.size) (hn:okc s[k]=false):s.data.toList.all okc=false:=by
 rw[List.all_eq_false];exact⟨s[k],by simp[ByteArray.getElem_eq_getElem_data],by simp[hn]⟩
theorem head_at (s:ByteArray) (h:0<s.size):s.data.toList.headD 0=s[0]:=by
 have h':0<s.data.toList.length:=by simpa using h
 rw[List.headD_eq_head?_getD,List.head?_eq_getElem?,List.getElem?_eq_getElem h']
 rfl
theorem empty_iff (s:ByteArray):s.toList.isEmpty=decide (s.size=0):=by
 rw[ByteArray.toList_eq];have:s.data.toList.length=s.size:=Array.length_toList;rw[<- this];cases s.data.toList<;>simp
theorem nameB_empty (s:ByteArray) (h:s.size=0):nameB s=false:=by simp[nameB,h]
theorem nameB_long (s:ByteArray) (h:16<s.size):nameB s=false:=by
 have: ¬s.size<=16:=by omega
 simp[nameB,this]
theorem nameB_first (s:ByteArray) (h:0<s.size) (hf:okFirst s[0]=false):nameB s=false:=by
 rw[nameB,head_at s h,hf];simp
theorem nameB_all (s:ByteArray) (h0:0<s.size) (h16:s.size<=16) (hf:okFirst s[0]=true):nameB s=s.data.toList.all okc:=by
 rw[nameB,head_at s h0,hf];simp[h16];intro _;omega
theorem okc_true_1 (c:UInt8) (h1:(97:Int)<=(c.toNat:Int)) (h2:(c.toNat:Int)<=122):okc c=true:=by simp[okc,h1,h2]
theorem okc_true_2 (c:UInt8) (h1:(48:Int)<=(c.toNat:Int)) (h2:(c.toNat:Int)<=57):okc c=true:=by simp[okc,h1,h2]
theorem okc_true_3 (c:UInt8) (h1:(c.toNat:Int)=45):okc c=true:=by simp[okc,h1]
theorem okc_false (c:UInt8) (h1:(97:Int)<=(c.toNat:Int)->(122:Int)<(c.toNat:Int)) (h2:(48:Int)<=(c.toNat:Int)->(57:Int)<(c.toNat:Int)) (h3:(c.toNat:Int)≠45):okc c=false:=by
 simp[okc];omega
theorem isName_any (s:ByteArray) (hs:s.size<=maxLen) (w:World) :
  Calls Tryz.prog 106 #[.string s] w fun e w'=>e= .returned (.bool (nameB s))/\w=w':=by
 unfold maxLen at hs;have He:=hI (empty_iff s)
 by_cases h0:s.size=0
 ·have he:s.toList.isEmpty=true:=by rw[He.o,h0];rfl
  have HN:=hI (nameB_empty s h0);clear h0;go_enter Tryz.func106,Tryz.ntmps106;go_wp2;go_ret;exact⟨by rw[HN.o];rfl,rfl⟩
 have he:s.toList.isEmpty=false:=by rw[He.o];simpa using h0
 have h0':0<s.size:=by omega
 clear h0
 by_cases h16:16<s.size
 ·have HN:=hI (nameB_long s h16);go_enter Tryz.func106,Tryz.ntmps106;go_wp2;go_ret;exact⟨by rw[HN.o];rfl,rfl⟩
 by_cases hf1:((s[0]'(by omega)).toNat:Int)<97
 ·have HN:=hI (nameB_first s h0' (by simp[okFirst];omega));have hd:decide (((s[0]'(by omega)).toNat:Int)<97)=true:=by simpa using hf1
  go_enter Tryz.func106,Tryz.ntmps106;go_wp2;go_ret;exact⟨by rw[HN.o];rfl,rfl⟩
 by_cases hf2:(122:Int)<((s[0]'(by omega)).toNat:Int)
 ·have HN:=hI (nameB_first s h0' (by simp[okFirst];omega));have hd0:decide (((s[0]'(by omega)).toNat:Int)<97)=false:=by simpa using hf1
  have hd:decide ((122:Int)<((s[0]'(by omega)).toNat:Int))=true:=by simpa using hf2
  go_enter Tryz.func106,Tryz.ntmps106;go_wp2;go_ret;exact⟨by rw[HN.o];rfl,rfl⟩
 have hd2:decide ((16:Int)<(s.size:Int))=false:=by simp;omega
 have hd0:decide (((s[0]'(by omega)).toNat:Int)<97)=false:=by simpa using hf1
 have hd1:decide ((122:Int)<((s[0]'(by omega)).toNat:Int))=false:=by simpa using hf2
 have HN:=hI (nameB_all s h0' (by omega) (by simp[okFirst];omega));go_enter Tryz.func106,Tryz.ntmps106;go_wp2
 go_loop [24] (fun i=>∃k:Nat,k<=s.size/\i= .int .i64 k/\Hid ((s.data.toList.take k).all okc=true)) (fun i=>s.size-(intOf i).toNat)
 case atStart=>exact⟨0,by omega,rfl,hI rfl⟩
 case round=>
  obtain⟨k,hk,rfl,Hall⟩:=hrel
  by_cases hlt:k<s.size
  ·have HT:=hI (all_take_succ s k hlt);have HF:=hI (all_of_take s k hlt)
   by_cases h45:(s[k].toNat:Int)=45
   ·have h45b:((s[k].toNat:Int)==45)=true:=beq_iff_eq.2 h45;have H45:=hI h45;clear h45;go_wp2
    all_goals
     go_round
     case rel=>exact⟨k+1,by omega,by go_num,hI (by rw[HT.o,Hall.o,okc_true_3 _ H45.o];rfl)⟩
     case measure=>simp[intOf];omega
   ·have h45b:((s[k].toNat:Int)==45)=false:=beq_eq_false_iff_ne.2 h45;have H45:=hI h45;clear h45;go_wp2
    all_goals first
     | (go_ret;exact⟨by rw[HN.o,HF.o (okc_false _ (by omega) (by omega) H45.o)];rfl,rfl⟩)
     | (go_round;(case rel=>exact⟨k+1,by omega,by go_num,hI (by rw[HT.o,Hall.o];first | (rw[okc_true_1 _ (by omega) (by omega)];rfl) | (rw[okc_true_2 _ (by omega) (by omega)];rfl))⟩);(case measure=>simp[intOf];omega))
  ·obtain rfl:k=s.size:=by omega
   have HA:=hI (show s.data.toList.all okc=true by rw[<- Hall.o,List.take_of_length_le];exact Nat.le_of_eq Array.length_toList);go_wp2;go_ret;exact⟨by rw[HN.o,HA.o];rfl,rfl⟩
theorem refName_any (s:ByteArray) (hs:s.size<=maxLen) (w:World) :
  Calls Tryz.prog 99 #[.string s] w fun e w'=>e= .returned (.bool (nameB s))/\w=w':=by
 unfold maxLen at hs
 by_cases h0:s.size=0
 ·have he:((s.size:Int)==0)=true:=by rw[h0];rfl
  have HN:=hI (nameB_empty s h0);clear h0;go_enter Tryz.func99,Tryz.ntmps99;go_wp2;go_ret;exact⟨by rw[HN.o];rfl,rfl⟩
 have he:((s.size:Int)==0)=false:=by simp;exact fun h=>h0 (by simpa using h)
 have h0':0<s.size:=by omega
 clear h0
 by_cases h16:16<s.size
 ·have HN:=hI (nameB_long s h16);have h16b:decide ((16:Int)<(s.size:Int))=true:=by simp;omega
  go_enter Tryz.func99,Tryz.ntmps99;go_wp2;go_ret;exact⟨by rw[HN.o];rfl,rfl⟩
 have hd2:decide ((16:Int)<(s.size:Int))=false:=by simp;omega
 by_cases hf1:((s[0]'(by omega)).toNat:Int)<97
 ·have HN:=hI (nameB_first s h0' (by simp[okFirst];omega));have hd:decide (((s[0]'(by omega)).toNat:Int)<97)=true:=by simpa using hf1
  go_enter Tryz.func99,Tryz.ntmps99;go_wp2;go_ret;exact⟨by rw[HN.o];rfl,rfl⟩
 by_cases hf2:(122:Int)<((s[0]'(by omega)).toNat:Int)
 ·have HN:=hI (nameB_first s h0' (by simp[okFirst];omega));have hd0:decide (((s[0]'(by omega)).toNat:Int)<97)=false:=by simpa using hf1
  have hd:decide ((122:Int)<((s[0]'(by omega)).toNat:Int))=true:=by simpa using hf2
  go_enter Tryz.func99,Tryz.ntmps99;go_wp2;go_ret;exact⟨by rw[HN.o];rfl,rfl⟩
 have hd0:decide (((s[0]'(by omega)).toNat:Int)<97)=false:=by simpa using hf1
 have hd1:decide ((122:Int)<((s[0]'(by omega)).toNat:Int))=false:=by simpa using hf2
 have HN:=hI (nameB_all s h0' (by omega) (by simp[okFirst];omega));go_enter Tryz.func99,Tryz.ntmps99;go_wp2
 go_loop [3] (fun i=>∃k:Nat,k<=s.size/\i= .int .i64 k/\Hid ((s.data.toList.take k).all okc=true)) (fun i=>s.size-(intOf i).toNat)
 case atStart=>exact⟨0,by omega,rfl,hI rfl⟩
 case round=>
  obtain⟨k,hk,rfl,Hall⟩:=hrel
  by_cases hlt:k<s.size
  ·have HT:=hI (all_take_succ s k hlt);have HF:=hI (all_of_take s k hlt)
   by_cases h45:(s[k].toNat:Int)=45
   ·have h45b:((s[k].toNat:Int)==45)=true:=beq_iff_eq.2 h45;have H45:=hI h45;clear h45;go_wp2
    all_goals
     go_round
     case rel=>exact⟨k+1,by omega,by go_num,hI (by rw[HT.o,Hall.o,okc_true_3 _ H45.o];rfl)⟩
     case measure=>simp[intOf];omega
   ·have h45b:((s[k].toNat:Int)==45)=false:=beq_eq_false_iff_ne.2 h45;have H45:=hI h45;clear h45;go_wp2
    all_goals first
     | (go_ret;exact⟨by rw[HN.o,HF.o (okc_false _ (by omega) (by omega) H45.o)];rfl,rfl⟩)
     | (go_round;(case rel=>exact⟨k+1,by omega,by go_num,hI (by rw[HT.o,Hall.o];first | (rw[okc_true_1 _ (by omega) (by omega)];rfl) | (rw[okc_true_2 _ (by omega) (by omega)];rfl))⟩);(case measure=>simp[intOf];omega))
  ·obtain rfl:k=s.size:=by omega
   have HA:=hI (show s.data.toList.all okc=true by rw[<- Hall.o,List.take_of_length_le];exact Nat.le_of_eq Array.length_toList);go_wp2;go_ret;exact⟨by rw[HN.o,HA.o];rfl,rfl⟩
end Go.Proofs.YtjpgnfekbojcaaaGreat
namespace W8
open W7
theorem resErrAt_name {l:List ResP} {k:Nat} (hk:k<l.length) (h:nameB l[k].name=false):resErrAt l k=5:=by
 unfold resErrAt;rw[getD_of hk,h];rfl
theorem resErrAt_twice {l:List ResP} {k:Nat} (hk:k<l.length) (h:nameB l[k].name=true) (h2:(l.take k).any (fun x=>strEq x.name l[k].name)=true):resErrAt l k=6:=by
 unfold resErrAt;rw[getD_of hk,h,h2];rfl
theorem resErrAt_rest {l:List ResP} {k:Nat} (hk:k<l.length) (h:nameB l[k].name=true) (h2:(l.take k).any (fun x=>strEq x.name l[k].name)=false):resErrAt l k=resErr1 l[k]:=by
 unfold resErrAt;rw[getD_of hk,h,h2];rfl
theorem any_map_name (l:List Res) (k:Nat) (nm:ByteArray):((l.map (·.p)).take k).any (fun x=>strEq x.name nm)=(l.take k).any (fun x=>strEq x.p.name nm):=by
 rw[<- List.map_take,List.any_map];rfl
theorem any_map_nameT (l:List Task) (k:Nat) (nm:ByteArray):((l.map (·.p)).take k).any (fun x=>strEq x.name nm)=(l.take k).any (fun x=>strEq x.p.name nm):=by
 rw[<- List.map_take,List.any_map];rfl
end W8
namespace Go.Proofs.YtjpgnfekbojcaaaGreat
open Go.RowKit W7 W8
attribute [local go_sem] Oper.semAt_some
theorem res1_any (x:Res) (nm:ByteArray) (bg:Nat) (w:World) (hc:w.cell? ⟨bg,0,none⟩=some (.string nm)) (hb:bg<w.heap.size) :
  Calls Tryz.prog 165 #[.agg #[.string x.p.name,.int .i64 x.p.many,.slice x.OA x.p.off.length x.oc],.pointer (some ⟨bg,0,none⟩)] w fun e w'=>e= .returned (.bool (strEq x.p.name nm))/\Bl w w':=by
 go_enter Tryz.func165,Tryz.ntmps165;go_wp2;go_ret;exact⟨rfl,(by(repeat (refine Below.alloc ?_ (by first | exact Nat.le_refl _ | omega | (simp;done) | (simp;omega)) _));exact Below.refl _ _)⟩
set_option maxHeartbeats 1000000 in
theorem idxRes_any (P:Res->Bool) (a0:Value) (xs:List Res) (n:Nat) (hn:n=xs.length) (A:Option Addr) (c B:Nat) (w:World) (hA:Sl w B 3 encRes A xs) (hB:B<=w.heap.size) (hl:xs.length<=9223372036854775807)
    (hF:∀(x:Res),x∈xs->∀(W:World),Bl w W->Calls Tryz.prog 165 #[.agg #[.string x.p.name,.int .i64 x.p.many,.slice x.OA x.p.off.length x.oc],a0] W fun e w'=>e= .returned (.bool (P x))/\Bl W w') :
    Calls Tryz.prog 194 #[.slice A n c,.func (.func 165) #[] #[a0]] w fun e w'=>e= .returned (.int .i64 (idxB P xs))/\Bl w w':=by
  subst hn;have HA:=hI hA;have HF:=hI hF;clear hA hF;go_enter Tryz.func194,Tryz.ntmps194;go_wp2;go_loopw [8] (fun i wr=>∃k:Nat,k<=xs.length/\i= .int .i64 k/\Hid ((xs.take k).any P=false)/\Hid (Bl w wr)) (fun i _=>xs.length-(intOf i).toNat);case atStart=>exact⟨0,by omega,rfl,hI (by simp),hI (Below.refl _ _)⟩
  case round=>
    obtain⟨k,hk,rfl,Hno,Hb⟩:=hrel;have hsz:=Hb.o.size
    by_cases hlt:k<xs.length
    · obtain⟨b,off,rfl,hbB,hcells⟩:=(HA.o.below (Hb.o.mono hB)) (by omega)
      have h0:=hcells k hlt;clear hcells;have c0:wr.cell? ⟨b,off+k*3,none⟩=some (.string xs[k].p.name):=h0 0 _ rfl;have c1:wr.cell? ⟨b,off+k*3+1,none⟩=some (.int .i64 xs[k].p.many):=h0 1 _ rfl;have c2:wr.cell? ⟨b,off+k*3+2,none⟩=some (.slice xs[k].OA xs[k].p.off.length xs[k].oc):=h0 2 _ rfl;have Hs:=hI (any_take_succ (p:=P) hlt Hno.o);have Hh:=hI (idxB_hit (p:=P) hlt Hno.o);have HK:=hI (fun(W:World) (hW:Bl w W)=>HF.o xs[k] (List.getElem_mem hlt) W hW);generalize xs[k]=x at c0 c1 c2 Hs Hh HK;clear h0;cases hp:P x
      · have HK2:=hI (fun(W:World) (hW:Bl w W)=>hp▸HK.o W hW)
        go_wp2_with (go_at_call 165;refine(HK2.o _ (by first | exact Hb.o | exact Hb.o.alloc (by omega) _)).mono ?_;rintro e w1 ⟨rfl,hb1⟩;have Hb1:=hI hb1;clear hb1);go_roundw;case rel=>exact⟨k+1,by omega,by go_num,hI (Hs.o hp),hI (by first | exact Hb.o.trans (Hb1.o.mono hsz) | exact(Hb.o.alloc (by omega) _).trans (Hb1.o.mono (by simp;omega)))⟩
        case measure=>simp[intOf];omega
      · have HK2:=hI (fun(W:World) (hW:Bl w W)=>hp▸HK.o W hW)
        go_wp2_with (go_at_call 165;refine(HK2.o _ (by first | exact Hb.o | exact Hb.o.alloc (by omega) _)).mono ?_;rintro e w1 ⟨rfl,hb1⟩;have Hb1:=hI hb1;clear hb1);go_ret;exact⟨ret_int (Hh.o hp).symm,(by first | exact Hb.o.trans (Hb1.o.mono hsz) | exact(Hb.o.alloc (by omega) _).trans (Hb1.o.mono (by simp;omega)))⟩
    · have HN:=hI (idxB_none (p:=P) (xs:=xs) (by rw[<- Hno.o,List.take_of_length_le (by omega)]))
      go_wp2;go_ret;exact⟨ret_int HN.o.symm,Hb.o⟩
theorem conRes_any (P:Res->Bool) (a0:Value) (xs:List Res) (n:Nat) (hn:n=xs.length) (A:Option Addr) (c B:Nat) (w:World) (hA:Sl w B 3 encRes A xs) (hB:B<=w.heap.size) (hl:xs.length<=9223372036854775807)
    (hF:∀(x:Res),x∈xs->∀(W:World),Bl w W->Calls Tryz.prog 165 #[.agg #[.string x.p.name,.int .i64 x.p.many,.slice x.OA x.p.off.length x.oc],a0] W fun e w'=>e= .returned (.bool (P x))/\Bl W w') :
    Calls Tryz.prog 164 #[.slice A n c,.func (.func 165) #[] #[a0]] w fun e w'=>e= .returned (.bool (xs.any P))/\Bl w w':=by
  have H:=hI (idxRes_any P a0 xs n hn A c B w hA hB hl hF);have HI:=hI (idxB_any (p:=P) (xs:=xs));clear hA hn hF;go_enter Tryz.func164,Tryz.ntmps164;go_wp2_with (go_at_call 194;refine H.o.mono ?_;rintro e w1 ⟨rfl,hb1⟩;have Hb1:=hI hb1;clear hb1);go_ret;exact⟨ret_bool HI.o,Hb1.o⟩

theorem resources_any (l:List Res) (A:Option Addr) (n c B:Nat) (w:World) (hn:n=l.length) (hA:Sl w B 3 encRes A l) (hR:∀r∈l,RsIn w B r) (hB:B<=w.heap.size) (hnc:n<=c) (_hc:c<=9223372036854775807) :
  Calls Tryz.prog 97 #[.slice A n c] w fun e w'=>e= .returned (.int .i64 (ressErr (l.map (·.p))))/\Bl w w':=by
 have HA:=hI (show ∀X:World,Bl w X->Sl X B 3 encRes A l from fun X hX=>hA.below (hX.mono hB));have HR:=hI (show ∀X:World,Bl w X->∀r∈l,RsIn X B r from fun X hX r hr=>(hR r hr).below (hX.mono hB));have Hn:=hI hn;have HE:=hI (show ressErr (l.map (·.p))=if 16<n then 3 else firstErr (resErrAt (l.map (·.p))) n by unfold ressErr;rw[List.length_map,<-hn]);clear hn hA hR
 by_cases h16:16<n
 ·have HE3:=hI (show ressErr (l.map (·.p))=3 by rw[HE.o,if_pos h16]);go_enter Tryz.func97,Tryz.ntmps97;go_wp2;go_ret;exact⟨ret_int HE3.o.symm,Below.refl _ _⟩
 have HE2:=hI (show ressErr (l.map (·.p))=firstErr (resErrAt (l.map (·.p))) n by rw[HE.o,if_neg h16]);go_enter Tryz.func97,Tryz.ntmps97;go_wp2;go_loopw [12] (fun v12 wr=>∃i:Nat,i<=n/\v12= .int .i64 i/\Hid (Bl w wr)/\Hid (firstErr (resErrAt (l.map (·.p))) i=0)) (fun v12 _=>n-(intOf v12).toNat);case atStart=>exact⟨0,by omega,rfl,hI (Below.refl _ _),hI rfl⟩
 case round=>
  obtain⟨i,hi,rfl,Hb,Hf⟩:=hrel;have hsr:=Hb.o.size
  by_cases hlt:i<n
  ·have hil:i<l.length:=by have:=Hn.o;omega
   obtain⟨b,off,hbe,hbB,hcells⟩:=(HA.o wr Hb.o) (by omega)
   subst hbe;have c0:wr.cell? ⟨b,off+i*3,none⟩=some (.string l[i].p.name):=hcells i hil 0 _ rfl;have c1:wr.cell? ⟨b,off+i*3+1,none⟩=some (.int .i64 l[i].p.many):=hcells i hil 1 _ rfl;have c2:wr.cell? ⟨b,off+i*3+2,none⟩=some (.slice l[i].OA l[i].p.off.length l[i].oc):=hcells i hil 2 _ rfl;have hip:i<(l.map (·.p)).length:=by rw[List.length_map];exact hil
   have Hat:=hI (show resErrAt (l.map (·.p)) i≠0->ressErr (l.map (·.p))=resErrAt (l.map (·.p)) i from fun h=>HE2.o.trans (firstErr_at Hf.o h (by omega)));have Hsn:=hI (show firstErr (resErrAt (l.map (·.p))) (i+1)=resErrAt (l.map (·.p)) i from firstErr_succ Hf.o);have HN1:=hI (fun h=>resErrAt_name (l:=l.map (·.p)) hip h);have HN2:=hI (fun h1 h2=>resErrAt_twice (l:=l.map (·.p)) hip h1 h2);have HN3:=hI (fun h1 h2=>resErrAt_rest (l:=l.map (·.p)) hip h1 h2);rw[List.getElem_map,any_map_name] at HN2 HN3;rw[List.getElem_map] at HN1;have hrr:=HR.o wr Hb.o _ (List.getElem_mem hil);have hnm:=hrr.nm;have hol:=hrr.ol;have hoc:=hrr.oc;have HOs:=hI (show ∀X:World,Bl w X->Sl X B 2 encJSpan l[i].OA l[i].p.off from fun X hX=>(HR.o X hX _ (List.getElem_mem hil)).os);generalize l[i]=r at c0 c1 c2 HN1 HN2 HN3 hnm hol hoc HOs;obtain⟨OA,hOA⟩:∃x,r.OA=x:=⟨_,rfl⟩
   obtain⟨no,hno⟩:∃x,r.p.off.length=x:=⟨_,rfl⟩
   rw[hOA,hno] at c2;rw[hOA] at HOs;rw[hno] at hol;have Hno:=hI hno;clear hcells hOA hno hrr;have HTk:=hI ((HA.o wr Hb.o).take i);obtain⟨W2,hW2⟩:∃W2,W2=wr.alloc (.cells #[.string r.p.name,.int .i64 r.p.many,.slice OA no r.oc] 43):=⟨_,rfl⟩
   have hs2:wr.heap.size+1<=W2.heap.size:=by rw[hW2];simp
   have HB2:=hI (show Bl wr W2 by rw[hW2];exact(Below.refl _ _).alloc (Nat.le_refl _) _);have HU2:=hI (show ∀X:World,Bl W2 X->Bl w X from fun X hX=>Hb.o.trans ((HB2.o.trans (hX.mono (by omega))).mono hsr));have HXr:=hI (show ∀X:World,Bl W2 X->X.heap[wr.heap.size]? =some (.cells #[.string r.p.name,.int .i64 r.p.many,.slice OA no r.oc] 43 (0,0)) from fun X hX=>(hX.block _ (by omega)).trans (by rw[hW2];exact heap_alloc_new _ _));have HCon:=hI (conRes_any (fun x=>strEq x.p.name r.p.name) (.pointer (some ⟨wr.heap.size,0,none⟩)) (l.take i) i (by rw[List.length_take];omega) (some ⟨b,off,none⟩) c B W2 (HTk.o.below (HB2.o.mono (by omega))) (by omega) (by rw[List.length_take];omega) (fun x _ W hW=>res1_any x r.p.name wr.heap.size W (bc (j:=0) (HXr.o W hW) rfl) (by have:=hW.size;omega)));go_upto_region 6 with fail;rw[<- hW2];clear hW2 c0 c1 c2 HTk;have q0:=W7.bc (j:=0) (HXr.o W2 (Below.refl _ _)) rfl
   have q1:=W7.bc (j:=1) (HXr.o W2 (Below.refl _ _)) rfl;have q2:=W7.bc (j:=2) (HXr.o W2 (Below.refl _ _)) rfl;cases hN:nameB r.p.name
   ·have HV:=hI (show ressErr (l.map (·.p))=5 by rw[Hat.o (by rw[HN1.o hN];decide),HN1.o hN]);go_wp2_with (go_at_call 106;refine(isName_any r.p.name hnm _).mono ?_;rintro e w' ⟨rfl,rfl⟩);go_ret;exact⟨ret_int HV.o.symm,HU2.o _ (Below.refl _ _)⟩
   have HN2:=hI (HN2.o hN);have HN3:=hI (HN3.o hN);cases hT:(l.take i).any (fun x=>strEq x.p.name r.p.name);rotate_left
   ·have HV:=hI (show ressErr (l.map (·.p))=6 by rw[Hat.o (by rw[HN2.o hT];decide),HN2.o hT]);rw[hT] at HCon;go_wp2_with (first | (go_at_call 106;refine(isName_any r.p.name hnm _).mono ?_;rintro e w' ⟨rfl,rfl⟩) | (go_at_call 164;refine HCon.o.mono ?_;rintro e w3 ⟨rfl,hb3⟩;have Hb3:=hI hb3;clear hb3));go_ret;exact⟨ret_int HV.o.symm,HU2.o _ Hb3.o⟩
   have HN4:=hI (HN3.o hT);rw[hT] at HCon;go_upto_region 10 with(first | (go_at_call 106;refine(isName_any r.p.name hnm _).mono ?_;rintro e w' ⟨rfl,rfl⟩) | (go_at_call 164;refine HCon.o.mono ?_;rintro e w3 ⟨rfl,hb3⟩;have Hb3:=hI hb3;have hs3:=hb3.size;clear hb3))
   clear q0 q1 q2 HN1 HN2 HN3 hT HCon;have q0:=W7.bc (j:=0) (HXr.o w3 Hb3.o) rfl;have q1:=W7.bc (j:=1) (HXr.o w3 Hb3.o) rfl;have q2:=W7.bc (j:=2) (HXr.o w3 Hb3.o) rfl;have HRe:=hI (show resErr1 r.p=if withinB r.p.many 0 1000 then offErr r.p.off else 1 from rfl);cases hM:withinB r.p.many 0 1000
   ·have HV:=hI (show ressErr (l.map (·.p))=1 by
     have h1:resErrAt (l.map (·.p)) i=1:=by rw[HN4.o,HRe.o,hM];rfl
     rw[Hat.o (by rw[h1];decide),h1])
    go_wp2_with (go_at_call 62;refine(within_any _ _ _ _).mono ?_;rintro e w' ⟨rfl,rfl⟩);go_ret;exact⟨ret_int HV.o.symm,HU2.o _ Hb3.o⟩
   have HRf:=hI (show resErrAt (l.map (·.p)) i=if 16<no then 3 else firstErr (spanErrAt r.p.off) no by rw[HN4.o,HRe.o,hM,if_pos rfl];unfold offErr;rw[Hno.o])
   by_cases ho16:16<no
   ·have HV:=hI (show ressErr (l.map (·.p))=3 by
     have h1:resErrAt (l.map (·.p)) i=3:=by rw[HRf.o,if_pos ho16]
     rw[Hat.o (by rw[h1];decide),h1])
    go_wp2_with (go_at_call 62;refine(within_any _ _ _ _).mono ?_;rintro e w' ⟨rfl,rfl⟩);go_ret;exact⟨ret_int HV.o.symm,HU2.o _ Hb3.o⟩
   have HRg:=hI (show resErrAt (l.map (·.p)) i=firstErr (spanErrAt r.p.off) no by rw[HRf.o,if_neg ho16]);go_wp2_with (go_at_call 62;refine(within_any _ _ _ _).mono ?_;rintro e w' ⟨rfl,rfl⟩);clear q0 q1 q2 HN4 HRe HRf;obtain⟨wa,rfl⟩:∃wa:World,wa=wr:=⟨_,rfl⟩
   go_loopw [41] (fun v41 wr=>∃k:Nat,k<=no/\v41= .int .i64 k/\Hid (Bl W2 wr)/\Hid (firstErr (spanErrAt r.p.off) k=0)) (fun v41 _=>no-(intOf v41).toNat);case atStart=>exact⟨0,by omega,rfl,Hb3,hI rfl⟩
   case round=>
    obtain⟨k,hk,rfl,Hb4,Hf4⟩:=hrel;have hsr4:=Hb4.o.size
    by_cases hlt4:k<no
    ·have hkl:k<r.p.off.length:=by have:=Hno.o;omega
     obtain⟨ob,ooff,hoe,hob,hcells⟩:=(HOs.o _ (HU2.o _ Hb4.o)) (by omega)
     subst hoe;have c0:wr.cell? ⟨ob,ooff+k*2,none⟩=some (.int .i64 r.p.off[k].lo):=hcells k hkl 0 _ rfl;have c1:wr.cell? ⟨ob,ooff+k*2+1,none⟩=some (.int .i64 r.p.off[k].hi):=hcells k hkl 1 _ rfl;obtain⟨ph,hph⟩:∃x,(r.p.off.getD (k-1) default).hi=x:=⟨_,rfl⟩
     have cp:0<k->wr.cell? ⟨ob,ooff+(k-1)*2+1,none⟩=some (.int .i64 ph):=fun h0=>by
      rw[<- hph,getD_of (by omega)];exact hcells (k-1) (by omega) 1 _ rfl
     have HSp:=hI (show spanErrAt r.p.off k=if isTm r.p.off[k].lo&&isTm r.p.off[k].hi&&decide (r.p.off[k].lo<=r.p.off[k].hi)&&(decide (k=0)||decide (ph<r.p.off[k].lo)) then 0 else 1 by unfold spanErrAt;rw[getD_of hkl,hph])
     have HBad:=hI (show spanErrAt r.p.off k=1->ressErr (l.map (·.p))=1 from fun h=>by
      have h2:resErrAt (l.map (·.p)) i=1:=by rw[HRg.o,firstErr_at Hf4.o (by rw[h];decide) hlt4,h]
      rw[Hat.o (by rw[h2];decide),h2])
     have Hs4:=hI (show firstErr (spanErrAt r.p.off) (k+1)=spanErrAt r.p.off k from firstErr_succ Hf4.o);generalize r.p.off[k]=sp at c0 c1 HSp;obtain⟨W5,hW5⟩:∃W5,W5=wr.alloc (.cells #[.int .i64 sp.lo,.int .i64 sp.hi] 50):=⟨_,rfl⟩
     have hs5:wr.heap.size+1<=W5.heap.size:=by rw[hW5];simp
     have HB5:=hI (show Bl W2 W5 by rw[hW5];exact Hb4.o.alloc hsr4 _);have hBw:Bl wr W5:=by rw[hW5];exact(Below.refl _ _).alloc (Nat.le_refl _) _
     have y0:=later_cell (show W5.cell? ⟨wr.heap.size,0,none⟩=some (.int .i64 sp.lo) by rw[hW5];exact alloc_cell rfl) (by omega);have y1:=later_cell (show W5.cell? ⟨wr.heap.size,1,none⟩=some (.int .i64 sp.hi) by rw[hW5];exact alloc_cell rfl) (by omega);have y2:=later_cell (bc (j:=2) (HXr.o W5 HB5.o) rfl) (by omega);have yp:0<k->∀e:Later W5,e.w.cell? ⟨ob,ooff+(k-1)*2+1,none⟩=some (.int .i64 ph):=fun h0=>later_cell ((hBw.cell (p:=⟨ob,ooff+(k-1)*2+1,none⟩) (by simp;omega)).trans (cp h0)) (by omega)
     clear hcells hph cp hBw;go_upto_region 17 with fail;rw[<- hW5];clear hW5 c0 c1;cases h1:isTm sp.lo
     ·have HV:=hI (HBad.o (by rw[HSp.o,h1];simp));refine wp_region_later (by kernel_rfl) (by kernel_rfl) ?_
      repeat (any_goals (first | go_big_quiet_step ((go_at_call 70;exact later_call_same _ (isTime_any _ _))) | quiet_step ((go_at_call 70;exact later_call_same _ (isTime_any _ _)))))
      refine wpQuiet_nil ?_;rintro w' ⟨e,rfl⟩;have HEb:=hI (HU2.o _ (HB5.o.trans (e.b.mono (by omega))));go_wp2;go_ret;exact⟨ret_int HV.o.symm,HEb.o⟩
     cases h2:isTm sp.hi
     ·have HV:=hI (HBad.o (by rw[HSp.o,h1,h2];simp));refine wp_region_later (by kernel_rfl) (by kernel_rfl) ?_
      repeat (any_goals (first | go_big_quiet_step ((go_at_call 70;exact later_call_same _ (isTime_any _ _))) | quiet_step ((go_at_call 70;exact later_call_same _ (isTime_any _ _)))))
      refine wpQuiet_nil ?_;rintro w' ⟨e,rfl⟩;have HEb:=hI (HU2.o _ (HB5.o.trans (e.b.mono (by omega))));go_wp2;go_ret;exact⟨ret_int HV.o.symm,HEb.o⟩
     cases h3:decide (sp.hi<sp.lo);rotate_left
     ·have HV:=hI (HBad.o (by rw[HSp.o,h1,h2,decide_eq_false (show ¬sp.lo<=sp.hi by have:=of_decide_eq_true h3;omega)];simp));refine wp_region_later (by kernel_rfl) (by kernel_rfl) ?_
      repeat (any_goals (first | go_big_quiet_step ((go_at_call 70;exact later_call_same _ (isTime_any _ _))) | quiet_step ((go_at_call 70;exact later_call_same _ (isTime_any _ _)))))
      refine wpQuiet_nil ?_;rintro w' ⟨e,rfl⟩;have HEb:=hI (HU2.o _ (HB5.o.trans (e.b.mono (by omega))));go_wp2;go_ret;exact⟨ret_int HV.o.symm,HEb.o⟩
     have h3':=decide_eq_true (show sp.lo<=sp.hi by have:=of_decide_eq_false h3;omega);have H3':=hI h3';clear h3'
     by_cases hk0:0<k
     ·have yp:=yp hk0;cases h4:decide (sp.lo<=ph)
      ·have HV:=hI (show spanErrAt r.p.off k=0 by rw[HSp.o,h1,h2,H3'.o,decide_eq_true (show ph<sp.lo by have:=of_decide_eq_false h4;omega)];simp);refine wp_region_later (by kernel_rfl) (by kernel_rfl) ?_
       repeat (any_goals (first | go_big_quiet_step ((go_at_call 70;exact later_call_same _ (isTime_any _ _))) | quiet_step ((go_at_call 70;exact later_call_same _ (isTime_any _ _)))))
       refine wpQuiet_nil ?_;rintro w' ⟨e,rfl⟩;have HEb:=hI (HB5.o.trans (e.b.mono (by omega)));go_wp2;go_roundw;case rel=>exact⟨k+1,by omega,by go_num,HEb,hI (by rw[Hs4.o,HV.o])⟩
       case measure=>simp[intOf];omega
      ·have HV:=hI (HBad.o (by rw[HSp.o,h1,h2,H3'.o,decide_eq_false (show ¬ph<sp.lo by have:=of_decide_eq_true h4;omega),decide_eq_false (show ¬k=0 by omega)];simp));refine wp_region_later (by kernel_rfl) (by kernel_rfl) ?_
       repeat (any_goals (first | go_big_quiet_step ((go_at_call 70;exact later_call_same _ (isTime_any _ _))) | quiet_step ((go_at_call 70;exact later_call_same _ (isTime_any _ _)))))
       refine wpQuiet_nil ?_;rintro w' ⟨e,rfl⟩;have HEb:=hI (HU2.o _ (HB5.o.trans (e.b.mono (by omega))));go_wp2;go_ret;exact⟨ret_int HV.o.symm,HEb.o⟩
     ·clear yp;have HV:=hI (show spanErrAt r.p.off k=0 by rw[HSp.o,h1,h2,H3'.o,decide_eq_true (show k=0 by omega)];simp);refine wp_region_later (by kernel_rfl) (by kernel_rfl) ?_
      repeat (any_goals (first | go_big_quiet_step ((go_at_call 70;exact later_call_same _ (isTime_any _ _))) | quiet_step ((go_at_call 70;exact later_call_same _ (isTime_any _ _)))))
      refine wpQuiet_nil ?_;rintro w' ⟨e,rfl⟩;have HEb:=hI (HB5.o.trans (e.b.mono (by omega)));go_wp2;go_roundw;case rel=>exact⟨k+1,by omega,by go_num,HEb,hI (by rw[Hs4.o,HV.o])⟩
      case measure=>simp[intOf];omega
    ·have HV:=hI (show firstErr (resErrAt (l.map (·.p))) (i+1)=0 by rw[Hsn.o,HRg.o,show no=k by omega];exact Hf4.o);go_wp2;go_roundw;case rel=>exact⟨i+1,by omega,by go_num,hI (HU2.o _ Hb4.o),HV⟩
     case measure=>simp[intOf];omega
  ·have HV:=hI (show ressErr (l.map (·.p))=0 by rw[HE2.o,show n=i by omega];exact Hf.o);go_wp2;go_ret;exact⟨ret_int HV.o.symm,Hb.o⟩
end Go.Proofs.YtjpgnfekbojcaaaGreat
