/- The error of a task. -/
import Derived.Test.YtjpgnfekbojcaaaGreatWSortI
set_option maxHeartbeats 8000000
set_option maxRecDepth 100000
namespace W8
open W7
theorem tskErrAt_name {j:JobP} {k:Nat} (hk:k<j.tasks.length) (h:nameB j.tasks[k].name=false):tskErrAt j k=5:=by
 unfold tskErrAt;rw[getD_of hk,h];rfl
theorem tskErrAt_twice {j:JobP} {k:Nat} (hk:k<j.tasks.length) (h:nameB j.tasks[k].name=true) (h2:(j.tasks.take k).any (fun x=>strEq x.name j.tasks[k].name)=true):tskErrAt j k=6:=by
 unfold tskErrAt;rw[getD_of hk,h,h2];rfl
theorem tskErrAt_rest {j:JobP} {k:Nat} (hk:k<j.tasks.length) (h:nameB j.tasks[k].name=true) (h2:(j.tasks.take k).any (fun x=>strEq x.name j.tasks[k].name)=false):tskErrAt j k=tskErr1 j j.tasks[k]:=by
 unfold tskErrAt;rw[getD_of hk,h,h2];rfl
end W8
namespace Go.Proofs.YtjpgnfekbojcaaaGreat
open Go.RowKit W7 W8
attribute [local go_sem] Oper.semAt_some
theorem task1_any (x:Task) (nm:ByteArray) (bg:Nat) (w:World) (hc:w.cell? ⟨bg,0,none⟩=some (.string nm)) (hb:bg<w.heap.size) :
  Calls Tryz.prog 167 #[.agg #[.string x.p.name,.int .i64 x.p.takes,.slice x.NA x.p.needs.length x.nc,.slice x.UA x.p.uses.length x.uc],.pointer (some ⟨bg,0,none⟩)] w fun e w'=>e= .returned (.bool (strEq x.p.name nm))/\Bl w w':=by
 go_enter Tryz.func167,Tryz.ntmps167;go_wp2;go_ret;exact⟨rfl,(by(repeat (refine Below.alloc ?_ (by first | exact zm _ | omega | (simp;done) | (simp;omega)) _));exact zX _ _)⟩
set_option maxHeartbeats 1000000 in
theorem idxTask_any (P:Task->Bool) (a0:Value) (xs:List Task) (n:Nat) (hn:n=xs.length) (A:Option Addr) (c B:Nat) (w:World) (hA:Sl w B 4 encTask A xs) (hB:B<=w.heap.size) (hl:xs.length<=9223372036854775807)
    (hF:∀(x:Task),x∈xs->∀(W:World),Bl w W->Calls Tryz.prog 167 #[.agg #[.string x.p.name,.int .i64 x.p.takes,.slice x.NA x.p.needs.length x.nc,.slice x.UA x.p.uses.length x.uc],a0] W fun e w'=>e= .returned (.bool (P x))/\Bl W w') :
    Calls Tryz.prog 195 #[.slice A n c,.func (.func 167) #[] #[a0]] w fun e w'=>e= .returned (.int .i64 (idxB P xs))/\Bl w w':=by
  subst hn;have HA:=hI hA;have HF:=hI hF;clear hA hF;go_enter Tryz.func195,Tryz.ntmps195;go_wp2;go_loopw [8] (fun i wr=>∃k:Nat,k<=xs.length/\i= .int .i64 k/\Hid ((xs.take k).any P=false)/\Hid (Bl w wr)) (fun i _=>xs.length-(intOf i).toNat);case atStart=>exact⟨0,by omega,rfl,hI (by simp),hI (zX _ _)⟩
  case round=>
    obtain⟨k,hk,rfl,Hno,Hb⟩:=hrel;have hsz:=Hb.o.size
    by_cases hlt:k<xs.length
    · obtain⟨b,off,rfl,hbB,hcells⟩:=(HA.o.below (Hb.o.mono hB)) (by omega)
      have h0:=hcells k hlt;clear hcells;have c0:wr.cell? ⟨b,off+k*4,none⟩=some (.string xs[k].p.name):=h0 0 _ rfl;have c1:wr.cell? ⟨b,off+k*4+1,none⟩=some (.int .i64 xs[k].p.takes):=h0 1 _ rfl;have c2:wr.cell? ⟨b,off+k*4+2,none⟩=some (.slice xs[k].NA xs[k].p.needs.length xs[k].nc):=h0 2 _ rfl;have c3:wr.cell? ⟨b,off+k*4+3,none⟩=some (.slice xs[k].UA xs[k].p.uses.length xs[k].uc):=h0 3 _ rfl;have Hs:=hI (any_take_succ (p:=P) hlt Hno.o);have Hh:=hI (idxB_hit (p:=P) hlt Hno.o);have HK:=hI (fun(W:World) (hW:Bl w W)=>HF.o xs[k] (zC hlt) W hW);generalize xs[k]=x at c0 c1 c2 c3 Hs Hh HK;clear h0;cases hp:P x
      · have HK2:=hI (fun(W:World) (hW:Bl w W)=>hp▸HK.o W hW)
        go_wp2_with (go_at_call 167;refine(HK2.o _ (by first | exact Hb.o | exact Hb.o.alloc (by omega) _)).mono ?_;rintro e w1 ⟨rfl,hb1⟩;have Hb1:=hI hb1;clear hb1);go_roundw;case rel=>exact⟨k+1,by omega,by go_num,hI (Hs.o hp),hI (by first | exact Hb.o.trans (Hb1.o.mono hsz) | exact(Hb.o.alloc (by omega) _).trans (Hb1.o.mono (by simp;omega)))⟩
        case measure=>simp[intOf];omega
      · have HK2:=hI (fun(W:World) (hW:Bl w W)=>hp▸HK.o W hW)
        go_wp2_with (go_at_call 167;refine(HK2.o _ (by first | exact Hb.o | exact Hb.o.alloc (by omega) _)).mono ?_;rintro e w1 ⟨rfl,hb1⟩;have Hb1:=hI hb1;clear hb1);go_ret;exact⟨ret_int (Hh.o hp).symm,(by first | exact Hb.o.trans (Hb1.o.mono hsz) | exact(Hb.o.alloc (by omega) _).trans (Hb1.o.mono (by simp;omega)))⟩
    · have HN:=hI (idxB_none (p:=P) (xs:=xs) (by rw[<- Hno.o,zG (by omega)]))
      go_wp2;go_ret;exact⟨ret_int HN.o.symm,Hb.o⟩
theorem conTask_any (P:Task->Bool) (a0:Value) (xs:List Task) (n:Nat) (hn:n=xs.length) (A:Option Addr) (c B:Nat) (w:World) (hA:Sl w B 4 encTask A xs) (hB:B<=w.heap.size) (hl:xs.length<=9223372036854775807)
    (hF:∀(x:Task),x∈xs->∀(W:World),Bl w W->Calls Tryz.prog 167 #[.agg #[.string x.p.name,.int .i64 x.p.takes,.slice x.NA x.p.needs.length x.nc,.slice x.UA x.p.uses.length x.uc],a0] W fun e w'=>e= .returned (.bool (P x))/\Bl W w') :
    Calls Tryz.prog 166 #[.slice A n c,.func (.func 167) #[] #[a0]] w fun e w'=>e= .returned (.bool (xs.any P))/\Bl w w':=by
  have H:=hI (idxTask_any P a0 xs n hn A c B w hA hB hl hF);have HI:=hI (idxB_any (p:=P) (xs:=xs));clear hA hn hF;go_enter Tryz.func166,Tryz.ntmps166;go_wp2_with (go_at_call 195;refine H.o.mono ?_;rintro e w1 ⟨rfl,hb1⟩;have Hb1:=hI hb1;clear hb1);go_ret;exact⟨ret_bool HI.o,Hb1.o⟩

theorem task2_any (x:JUse) (r:Int) (bg:Nat) (w:World) (hc:w.cell? ⟨bg,0,none⟩=some (.int .i64 r)) (hb:bg<w.heap.size) :
  Calls Tryz.prog 168 #[.agg #[.int .i64 x.res,.int .i64 x.many],.pointer (some ⟨bg,0,none⟩)] w fun e w'=>e= .returned (.bool (x.res==r))/\Bl w w':=by
 go_enter Tryz.func168,Tryz.ntmps168;go_wp2;go_ret;exact⟨rfl,(by(repeat (refine Below.alloc ?_ (by first | exact zm _ | omega | (simp;done) | (simp;omega)) _));exact zX _ _)⟩
set_option maxHeartbeats 1000000 in
theorem idxUse_any (P:JUse->Bool) (a0:Value) (xs:List JUse) (n:Nat) (hn:n=xs.length) (A:Option Addr) (c B:Nat) (w:World) (hA:Sl w B 2 encUse A xs) (hB:B<=w.heap.size) (hl:xs.length<=9223372036854775807)
    (hF:∀(x:JUse),x∈xs->∀(W:World),Bl w W->Calls Tryz.prog 168 #[.agg #[.int .i64 x.res,.int .i64 x.many],a0] W fun e w'=>e= .returned (.bool (P x))/\Bl W w') :
    Calls Tryz.prog 145 #[.slice A n c,.func (.func 168) #[] #[a0]] w fun e w'=>e= .returned (.int .i64 (idxB P xs))/\Bl w w':=by
  subst hn;have HA:=hI hA;have HF:=hI hF;clear hA hF;go_enter Tryz.func145,Tryz.ntmps145;go_wp2;go_loopw [8] (fun i wr=>∃k:Nat,k<=xs.length/\i= .int .i64 k/\Hid ((xs.take k).any P=false)/\Hid (Bl w wr)) (fun i _=>xs.length-(intOf i).toNat);case atStart=>exact⟨0,by omega,rfl,hI (by simp),hI (zX _ _)⟩
  case round=>
    obtain⟨k,hk,rfl,Hno,Hb⟩:=hrel;have hsz:=Hb.o.size
    by_cases hlt:k<xs.length
    · obtain⟨b,off,rfl,hbB,hcells⟩:=(HA.o.below (Hb.o.mono hB)) (by omega)
      have h0:=hcells k hlt;clear hcells;have c0:wr.cell? ⟨b,off+k*2,none⟩=some (.int .i64 xs[k].res):=h0 0 _ rfl;have c1:wr.cell? ⟨b,off+k*2+1,none⟩=some (.int .i64 xs[k].many):=h0 1 _ rfl;have Hs:=hI (any_take_succ (p:=P) hlt Hno.o);have Hh:=hI (idxB_hit (p:=P) hlt Hno.o);have HK:=hI (fun(W:World) (hW:Bl w W)=>HF.o xs[k] (zC hlt) W hW);generalize xs[k]=x at c0 c1 Hs Hh HK;clear h0;cases hp:P x
      · have HK2:=hI (fun(W:World) (hW:Bl w W)=>hp▸HK.o W hW)
        go_wp2_with (go_at_call 168;refine(HK2.o _ (by first | exact Hb.o | exact Hb.o.alloc (by omega) _)).mono ?_;rintro e w1 ⟨rfl,hb1⟩;have Hb1:=hI hb1;clear hb1);go_roundw;case rel=>exact⟨k+1,by omega,by go_num,hI (Hs.o hp),hI (by first | exact Hb.o.trans (Hb1.o.mono hsz) | exact(Hb.o.alloc (by omega) _).trans (Hb1.o.mono (by simp;omega)))⟩
        case measure=>simp[intOf];omega
      · have HK2:=hI (fun(W:World) (hW:Bl w W)=>hp▸HK.o W hW)
        go_wp2_with (go_at_call 168;refine(HK2.o _ (by first | exact Hb.o | exact Hb.o.alloc (by omega) _)).mono ?_;rintro e w1 ⟨rfl,hb1⟩;have Hb1:=hI hb1;clear hb1);go_ret;exact⟨ret_int (Hh.o hp).symm,(by first | exact Hb.o.trans (Hb1.o.mono hsz) | exact(Hb.o.alloc (by omega) _).trans (Hb1.o.mono (by simp;omega)))⟩
    · have HN:=hI (idxB_none (p:=P) (xs:=xs) (by rw[<- Hno.o,zG (by omega)]))
      go_wp2;go_ret;exact⟨ret_int HN.o.symm,Hb.o⟩
theorem conUse_any (P:JUse->Bool) (a0:Value) (xs:List JUse) (n:Nat) (hn:n=xs.length) (A:Option Addr) (c B:Nat) (w:World) (hA:Sl w B 2 encUse A xs) (hB:B<=w.heap.size) (hl:xs.length<=9223372036854775807)
    (hF:∀(x:JUse),x∈xs->∀(W:World),Bl w W->Calls Tryz.prog 168 #[.agg #[.int .i64 x.res,.int .i64 x.many],a0] W fun e w'=>e= .returned (.bool (P x))/\Bl W w') :
    Calls Tryz.prog 73 #[.slice A n c,.func (.func 168) #[] #[a0]] w fun e w'=>e= .returned (.bool (xs.any P))/\Bl w w':=by
  have H:=hI (idxUse_any P a0 xs n hn A c B w hA hB hl hF);have HI:=hI (idxB_any (p:=P) (xs:=xs));clear hA hn hF;go_enter Tryz.func73,Tryz.ntmps73;go_wp2_with (go_at_call 145;refine H.o.mono ?_;rintro e w1 ⟨rfl,hb1⟩;have Hb1:=hI hb1;clear hb1);go_ret;exact⟨ret_bool HI.o,Hb1.o⟩

theorem indexI_any (xs:List Int) (x:Int) (n:Nat) (hn:n=xs.length) (A:Option Addr) (c B:Nat) (w:World) (hA:Sl w B 1 encInt1 A xs) (_hB:B<=w.heap.size) (hl:xs.length<=9223372036854775807) :
  Calls Tryz.prog 175 #[.slice A n c,.int .i64 x] w fun e w'=>e= .returned (.int .i64 (idxB (fun y=>x==y) xs))/\Bl w w':=by
 subst hn;have HA:=hI hA;clear hA;go_enter Tryz.func175,Tryz.ntmps175;go_wp2;go_loopw [8] (fun i wr=>∃k:Nat,k<=xs.length/\i= .int .i64 k/\Hid ((xs.take k).any (fun y=>x==y)=false)/\w=wr) (fun i _=>xs.length-(intOf i).toNat);case atStart=>exact⟨0,by omega,rfl,hI (by simp),rfl⟩
 case round=>
  obtain⟨k,hk,rfl,Hno,rfl⟩:=hrel
  by_cases hlt:k<xs.length
  ·obtain⟨b,off,rfl,hbB,hcells⟩:=HA.o (by omega);have c0:w.cell? ⟨b,off+k,none⟩=some (.int .i64 xs[k]):=by have h:=hcells k hlt 0 _ rfl;rwa [Nat.mul_one,Nat.add_zero] at h
   have Hs:=hI (any_take_succ (p:=fun y=>x==y) hlt Hno.o);have Hh:=hI (idxB_hit (p:=fun y=>x==y) hlt Hno.o);generalize xs[k]=y at c0 Hs Hh;clear hcells;cases hp:(x==y)
   ·go_wp2;go_roundw;case rel=>exact⟨k+1,by omega,by go_num,hI (Hs.o hp),by first | rfl | trivial⟩
    case measure=>simp[intOf];omega
   ·go_wp2;go_ret;exact⟨ret_int (Hh.o hp).symm,zX _ _⟩
  ·have HN:=hI (idxB_none (p:=fun y=>x==y) (xs:=xs) (by rw[<- Hno.o,zG (by omega)]));go_wp2;go_ret;exact⟨ret_int HN.o.symm,zX _ _⟩
theorem containsI_any (xs:List Int) (x:Int) (n:Nat) (hn:n=xs.length) (A:Option Addr) (c B:Nat) (w:World) (hA:Sl w B 1 encInt1 A xs) (hB:B<=w.heap.size) (hl:xs.length<=9223372036854775807) :
  Calls Tryz.prog 121 #[.slice A n c,.int .i64 x] w fun e w'=>e= .returned (.bool (xs.any (fun y=>x==y)))/\Bl w w':=by
 have H:=hI (indexI_any xs x n hn A c B w hA hB hl);have HI:=hI (idxB_any (p:=fun y=>x==y) (xs:=xs));clear hA hn;go_enter Tryz.func121,Tryz.ntmps121;go_wp2_with (go_at_call 175;refine H.o.mono ?_;rintro e w1 ⟨rfl,hb1⟩;have Hb1:=hI hb1;clear hb1);go_ret;exact⟨ret_bool HI.o,Hb1.o⟩
theorem any_comm (l:List Int) (x:Int):l.any (fun y=>x==y)=l.any (fun y=>y==x):=by
 congr 1
 funext y
 exact Bool.eq_iff_iff.2 ⟨fun h=>by rw[eq_of_beq h];simp,fun h=>by rw[eq_of_beq h];simp⟩
theorem task_any (j:Job) (i B:Nat) (w:World) (hj:JIn w B j) (hB:B<=w.heap.size) (hi:i<j.tasks.length) (hnt:j.tasks.length<=64) (hnr:j.res.length<=16) :
  Calls Tryz.prog 98 #[jobV j,.int .i64 (i:Int)] w fun e w'=>e= .returned (.int .i64 (tskErrAt j.p i))/\Bl w w':=by
 obtain⟨n,hn⟩:=eX j.tasks.length;obtain⟨m,hm⟩:=eX j.res.length;obtain⟨tb,off,hTA,htb⟩:=hj.ta (by omega);obtain⟨RA,hRA⟩:=eX j.RA;have hjv:jobV j= .agg #[.slice (some ⟨tb,off,none⟩) n j.tc,.slice RA m j.rc]:=by unfold jobV;rw[hn,hm,hTA,hRA]
 rw[hjv];obtain⟨W0,HW0,hs0,HB0,HX00,HU0⟩:=boxes1 w (.cells #[.slice (some ⟨tb,off,none⟩) n j.tc,.slice RA m j.rc] 25);have hlc:=hj.tl;have hc2:=hj.tc;have hlr:=hj.rl;have hcr:=hj.rc;rw[hn] at hlc hnt;rw[hm] at hlr hnr;have hj0:=hj.below (HB0.o.mono hB);have HJ:=hI (show ∀X:World,Bl W0 X->JIn X B j from fun X hX=>hj.below ((HU0.o X hX).mono hB));obtain⟨c0,c1,c2,c3⟩:=hj0.tcells hTA hi;have hip:i<j.p.tasks.length:=by rw[j.nt];exact hi
 have HTi:=hI (show j.p.tasks[i]=(j.T i).p by rw[<- j.pT,getD_of hip]);have HN1:=hI (fun h=>tskErrAt_name (j:=j.p) hip h);have HN2:=hI (fun h1 h2=>tskErrAt_twice (j:=j.p) hip h1 h2);have HN3:=hI (fun h1 h2=>tskErrAt_rest (j:=j.p) hip h1 h2);have hall:(j.p.tasks.take i).any (fun x=>strEq x.name (j.T i).p.name)=(j.tasks.take i).any (fun x=>strEq x.p.name (j.T i).p.name):=any_map_nameT _ _ _;rw[HTi.o,hall] at HN2 HN3;rw[HTi.o] at HN1;have hTk:=hj0.tks _ (j.T_mem hi);have hnm:=hTk.nm;have hnl:=hTk.nl;have hnc:=hTk.nc;have hul:=hTk.ul;have huc:=hTk.uc;have hnul:(j.T i).p.needs.length<=9223372036854775807/\(j.T i).p.uses.length<=9223372036854775807:=⟨by omega,by omega⟩
 have HNs:=hI (fun(X:World) (hX:Bl W0 X)=>((HJ.o X hX).tks _ (j.T_mem hi)).ns);have HUs:=hI (fun(X:World) (hX:Bl W0 X)=>((HJ.o X hX).tks _ (j.T_mem hi)).us);have HE1:=hI (show tskErr1 j.p (j.T i).p=if isTm (j.T i).p.takes then(if firstErr (needErrAt n (j.T i).p.needs) (j.T i).p.needs.length=0 then firstErr (useErrAt j.p.res (j.T i).p.uses) (j.T i).p.uses.length else firstErr (needErrAt n (j.T i).p.needs) (j.T i).p.needs.length) else 1 by unfold tskErr1;rw[j.nt,hn]);have HSl:=hI (show ∀X:World,Bl W0 X->Sl X B 4 encTask (some ⟨tb,off,none⟩) (j.tasks.take i) from fun X hX=>by have h:=(HJ.o X hX).tk.take i;rwa [hTA] at h);have HiL:=hI (show(j.tasks.take i).length=i by rw[List.length_take];omega);have Hm:=hI hm;have HTA:=hI hTA;have HRA:=hI hRA;rw[hn] at hi;generalize j.T i=t at c0 c1 c2 c3 HN1 HN2 HN3 hnm hnl hnc hul huc hnul HNs HUs HE1;obtain⟨NA,hNA⟩:=eX t.NA;obtain⟨nn,hnn⟩:=eX t.p.needs.length
 obtain⟨UA,hUA⟩:=eX t.UA;obtain⟨nu,hnu'⟩:=eX t.p.uses.length;rw[hNA,hnn] at c2;rw[hUA,hnu'] at c3;rw[hNA] at HNs;rw[hUA] at HUs;rw[hnn] at hnl hnul HE1;rw[hnu'] at hul hnul HE1;have Hnn:=hI hnn;have Hnu:=hI hnu';have q0:=kC 0 (HX00.o W0 (zX _ _)) rfl;clear hj hj0 hn hm hTA hRA hjv hTk hNA hnn hUA hnu' hall HTi hip;go_enter Tryz.func98,Tryz.ntmps98;go_upto_region 1 with fail;rw[<- HW0.o];go_upto_region 2 with fail;obtain⟨W2,hW2⟩:=eY (W0.alloc (.cells #[.string t.p.name,.int .i64 t.p.takes,.slice NA nn t.nc,.slice UA nu t.uc] 46));have hs2:W0.heap.size+1<=W2.heap.size:=by rw[hW2];simp
 have HB2:=hI (show Bl W0 W2 by rw[hW2];exact(zX _ _).alloc (zm _) _);have HU2:=hI (show ∀X:World,Bl W2 X->Bl W0 X from fun X hX=>HB2.o.trans (hX.mono (by omega)));have HXt:=hI (show ∀X:World,Bl W2 X->X.heap[w.heap.size+1]? =some (.cells #[.string t.p.name,.int .i64 t.p.takes,.slice NA nn t.nc,.slice UA nu t.uc] 46 (0,0)) from fun X hX=>(hX.block _ (by omega)).trans (by rw[hW2,<-hs0];exact zW _ _));rw[<- hW2];clear hW2 c0 c1 c2 c3 q0;have t0:=kC 0 (HXt.o W2 (zX _ _)) rfl;have t1:=kC 1 (HXt.o W2 (zX _ _)) rfl;have t2:=kC 2 (HXt.o W2 (zX _ _)) rfl;have t3:=kC 3 (HXt.o W2 (zX _ _)) rfl;have q0:=kC 0 (HX00.o W2 HB2.o) rfl;have q1:=kC 1 (HX00.o W2 HB2.o) rfl;cases hN:nameB t.p.name
 ·have HV:=hI (HN1.o hN);go_wp2_with (go_at_call 106;refine(isName_any t.p.name hnm _).mono ?_;rintro e w' ⟨rfl,rfl⟩);go_ret;exact⟨ret_int HV.o.symm,HU0.o _ HB2.o⟩
 have HN2:=hI (HN2.o hN);have HN3:=hI (HN3.o hN);have HCon:=hI (conTask_any (fun x=>strEq x.p.name t.p.name) (.pointer (some ⟨w.heap.size+1,0,none⟩)) (j.tasks.take i) i HiL.o.symm (some ⟨tb,off,none⟩) j.tc B W2 (HSl.o W2 HB2.o) (by omega) (by rw[HiL.o];omega) (fun x _ W hW=>task1_any x t.p.name (w.heap.size+1) W (kC 0 (HXt.o W hW) rfl) (by have:=hW.size;omega)));cases hT:(j.tasks.take i).any (fun x=>strEq x.p.name t.p.name);rotate_left
 ·have HV:=hI (HN2.o hT);rw[hT] at HCon;go_wp2_with (first | (go_at_call 106;refine(isName_any t.p.name hnm _).mono ?_;rintro e w' ⟨rfl,rfl⟩) | (go_at_call 166;refine HCon.o.mono ?_;rintro e w3 ⟨rfl,hb3⟩;have Hb3:=hI hb3;clear hb3));go_ret;exact⟨ret_int HV.o.symm,HU0.o _ (HU2.o _ Hb3.o)⟩
 have HN4:=hI (HN3.o hT);rw[hT] at HCon;go_upto_region 6 with(first | (go_at_call 106;refine(isName_any t.p.name hnm _).mono ?_;rintro e w' ⟨rfl,rfl⟩) | (go_at_call 166;refine HCon.o.mono ?_;rintro e w3 ⟨rfl,hb3⟩;have Hb3:=hI hb3;have hs3:=hb3.size;clear hb3))
 clear t0 t1 t2 t3 q0 q1 HN1 HN2 HN3 hT HCon;have t0:=kC 0 (HXt.o w3 Hb3.o) rfl;have t1:=kC 1 (HXt.o w3 Hb3.o) rfl;have t2:=kC 2 (HXt.o w3 Hb3.o) rfl;have t3:=kC 3 (HXt.o w3 Hb3.o) rfl;cases hM:isTm t.p.takes
 ·have HV:=hI (show tskErrAt j.p i=1 by rw[HN4.o,HE1.o,hM];rfl);go_wp2_with (go_at_call 70;refine(isTime_any _ _).mono ?_;rintro e w' ⟨rfl,rfl⟩);go_ret;exact⟨ret_int HV.o.symm,HU0.o _ (HU2.o _ Hb3.o)⟩
 have HE2:=hI (show tskErrAt j.p i=if firstErr (needErrAt n t.p.needs) nn=0 then firstErr (useErrAt j.p.res t.p.uses) nu else firstErr (needErrAt n t.p.needs) nn by rw[HN4.o,HE1.o,hM,if_pos rfl]);go_upto_region 8 with(go_at_call 70;refine(isTime_any _ _).mono ?_;rintro e w' ⟨rfl,rfl⟩)
 clear HN4 HE1 hM;go_wp2;clear t0 t1 t2 t3;go_loopw [35] (fun v35 wr=>∃k:Nat,k<=nn/\v35= .int .i64 k/\Hid (Bl W2 wr)/\Hid (firstErr (needErrAt n t.p.needs) k=0)) (fun v35 _=>nn-(intOf v35).toNat);case atStart=>exact⟨0,by omega,rfl,Hb3,hI rfl⟩
 case round=>
  obtain⟨k,hk,rfl,Hb,Hf⟩:=hrel;have hsr:=Hb.o.size;have t2:=kC 2 (HXt.o wr Hb.o) rfl;have t3:=kC 3 (HXt.o wr Hb.o) rfl;have q0:=kC 0 (HX00.o wr (HU2.o _ Hb.o)) rfl
  by_cases hlt:k<nn
  ·have hkl:k<t.p.needs.length:=by have:=Hnn.o;omega
   obtain⟨nb,noff,hne,hnb,hcells⟩:=(HNs.o wr (HU2.o _ Hb.o)) (by omega)
   subst hne;have c0:wr.cell? ⟨nb,noff+k,none⟩=some (.int .i64 t.p.needs[k]):=by have h:=hcells k hkl 0 _ rfl;rwa [Nat.mul_one,Nat.add_zero] at h
   have HBad:=hI (show needErrAt n t.p.needs k≠0->tskErrAt j.p i=needErrAt n t.p.needs k from fun h=>by
    have h1:=firstErr_at Hf.o h hlt;rw[HE2.o,h1,if_neg h])
   have Hsn:=hI (show firstErr (needErrAt n t.p.needs) (k+1)=needErrAt n t.p.needs k from firstErr_succ Hf.o);have HNe:=hI (show needErrAt n t.p.needs k=if withinB t.p.needs[k] 0 ((n:Int)-1) then(if (t.p.needs.take k).any (fun x=>t.p.needs[k]==x) then 6 else 0) else 7 by unfold needErrAt;rw[getD_of hkl,any_comm]);have HTk:=hI ((HNs.o wr (HU2.o _ Hb.o)).take k);have hkt:(t.p.needs.take k).length=k:=by rw[List.length_take];omega
   generalize t.p.needs[k]=x at c0 HNe;have HCo:=hI (containsI_any (t.p.needs.take k) x k hkt.symm (some ⟨nb,noff,none⟩) t.nc B wr HTk.o (by omega) (by omega));clear hcells hkt;cases hW:withinB x 0 ((n:Int)-1)
   ·have HV:=hI (show tskErrAt j.p i=7 by
     have h1:needErrAt n t.p.needs k=7:=by rw[HNe.o,hW];rfl
     rw[HBad.o (by rw[h1];decide),h1])
    go_wp2_with (go_at_call 62;refine(within_any _ _ _ _).mono ?_;rintro e w' ⟨rfl,rfl⟩);go_ret;exact⟨ret_int HV.o.symm,HU0.o _ (HU2.o _ Hb.o)⟩
   cases hA:(t.p.needs.take k).any (fun y=>x==y)
   ·have HV:=hI (show firstErr (needErrAt n t.p.needs) (k+1)=0 by rw[Hsn.o,HNe.o,hW,hA];rfl);rw[hA] at HCo;go_wp2_with (first | (go_at_call 62;refine(within_any _ _ _ _).mono ?_;rintro e w' ⟨rfl,rfl⟩) | (go_at_call 121;refine HCo.o.mono ?_;rintro e w4 ⟨rfl,hb4⟩;have Hb4:=hI hb4;clear hb4));go_roundw;case rel=>exact⟨k+1,by omega,by go_num,hI (Hb.o.trans (Hb4.o.mono (by omega))),HV⟩
    case measure=>simp[intOf];omega
   ·have HV:=hI (show tskErrAt j.p i=6 by
     have h1:needErrAt n t.p.needs k=6:=by rw[HNe.o,hW,hA];rfl
     rw[HBad.o (by rw[h1];decide),h1])
    rw[hA] at HCo;go_wp2_with (first | (go_at_call 62;refine(within_any _ _ _ _).mono ?_;rintro e w' ⟨rfl,rfl⟩) | (go_at_call 121;refine HCo.o.mono ?_;rintro e w4 ⟨rfl,hb4⟩;have Hb4:=hI hb4;clear hb4));go_ret;exact⟨ret_int HV.o.symm,HU0.o _ (HU2.o _ (Hb.o.trans (Hb4.o.mono (by omega))))⟩
  ·have HE3:=hI (show tskErrAt j.p i=firstErr (useErrAt j.p.res t.p.uses) nu by rw[HE2.o,show nn=k by omega,if_pos Hf.o]);go_wp2;clear t2 t3 q0;obtain⟨wa,rfl⟩:∃wa:World,wa=wr:=⟨_,rfl⟩
   go_loopw [57] (fun v57 wr=>∃z:Nat,z<=nu/\v57= .int .i64 z/\Hid (Bl W2 wr)/\Hid (firstErr (useErrAt j.p.res t.p.uses) z=0)) (fun v57 _=>nu-(intOf v57).toNat);case atStart=>exact⟨0,by omega,rfl,Hb,hI rfl⟩
   case round=>
    obtain⟨z,hz,rfl,Hb2,Hf2⟩:=hrel;have hsr2:=Hb2.o.size
    by_cases hlt2:z<nu
    ·have hzl:z<t.p.uses.length:=by have:=Hnu.o;omega
     obtain⟨ub,uoff,hue,hub,hcells⟩:=(HUs.o wr (HU2.o _ Hb2.o)) (by omega)
     subst hue;have c0:wr.cell? ⟨ub,uoff+z*2,none⟩=some (.int .i64 t.p.uses[z].res):=hcells z hzl 0 _ rfl;have c1:wr.cell? ⟨ub,uoff+z*2+1,none⟩=some (.int .i64 t.p.uses[z].many):=hcells z hzl 1 _ rfl;have HBad:=hI (show useErrAt j.p.res t.p.uses z≠0->tskErrAt j.p i=useErrAt j.p.res t.p.uses z from fun h=>by rw[HE3.o,firstErr_at Hf2.o h hlt2]);have Hsn:=hI (show firstErr (useErrAt j.p.res t.p.uses) (z+1)=useErrAt j.p.res t.p.uses z from firstErr_succ Hf2.o);have HUe:=hI (show useErrAt j.p.res t.p.uses z=if withinB t.p.uses[z].res 0 ((m:Int)-1) then(if (t.p.uses.take z).any (fun x=>x.res==t.p.uses[z].res) then 6 else if withinB t.p.uses[z].many 1 1000 then(if (j.p.res.getD t.p.uses[z].res.toNat default).many<t.p.uses[z].many then 9 else 0) else 1) else 7 by unfold useErrAt;rw[getD_of hzl,j.nr,Hm.o]);have HTz:=hI ((HUs.o wr (HU2.o _ Hb2.o)).take z)
     have hzt:(t.p.uses.take z).length=z:=by rw[List.length_take];omega
     generalize t.p.uses[z]=u at c0 c1 HUe;obtain⟨W4,hW4⟩:=eY (wr.alloc (.cells #[.int .i64 u.res,.int .i64 u.many] 48));have hs4:wr.heap.size+1<=W4.heap.size:=by rw[hW4];simp
     have HB4:=hI (show Bl W2 W4 by rw[hW4];exact Hb2.o.alloc hsr2 _);have HXu:=hI (show ∀X:World,Bl W4 X->X.heap[wr.heap.size]? =some (.cells #[.int .i64 u.res,.int .i64 u.many] 48 (0,0)) from fun X hX=>(hX.block _ (by omega)).trans (by rw[hW4];exact zW _ _));have HCo:=hI (conUse_any (fun x=>x.res==u.res) (.pointer (some ⟨wr.heap.size,0,none⟩)) (t.p.uses.take z) z hzt.symm (some ⟨ub,uoff,none⟩) t.uc B W4 (HTz.o.below (show Below B wr W4 by rw[hW4];exact(zX _ _).alloc (by omega) _)) (by omega) (by omega) (fun x _ W hW=>task2_any x u.res wr.heap.size W (kC 0 (HXu.o W hW) rfl) (by have:=hW.size;omega)));clear hcells hzt;go_upto_region 19 with fail;rw[<- hW4];clear hW4 c0 c1;have u0:=kC 0 (HXu.o W4 (zX _ _)) rfl;have u1:=kC 1 (HXu.o W4 (zX _ _)) rfl;have t3:=kC 3 (HXt.o W4 HB4.o) rfl;have q1:=kC 1 (HX00.o W4 (HU2.o _ HB4.o)) rfl;cases hW:withinB u.res 0 ((m:Int)-1)
     ·have HV:=hI (show tskErrAt j.p i=7 by
       have h1:useErrAt j.p.res t.p.uses z=7:=by rw[HUe.o,hW];rfl
       rw[HBad.o (by rw[h1];decide),h1])
      go_wp2_with (go_at_call 62;refine(within_any _ _ _ _).mono ?_;rintro e w' ⟨rfl,rfl⟩);go_ret;exact⟨ret_int HV.o.symm,HU0.o _ (HU2.o _ HB4.o)⟩
     cases hA:(t.p.uses.take z).any (fun x=>x.res==u.res);rotate_left
     ·have HV:=hI (show tskErrAt j.p i=6 by
       have h1:useErrAt j.p.res t.p.uses z=6:=by rw[HUe.o,hW,hA];rfl
       rw[HBad.o (by rw[h1];decide),h1])
      rw[hA] at HCo;go_wp2_with (first | (go_at_call 62;refine(within_any _ _ _ _).mono ?_;rintro e w' ⟨rfl,rfl⟩) | (go_at_call 73;refine HCo.o.mono ?_;rintro e w5 ⟨rfl,hb5⟩;have Hb5:=hI hb5;clear hb5));go_ret;exact⟨ret_int HV.o.symm,HU0.o _ (HU2.o _ (HB4.o.trans (Hb5.o.mono (by omega))))⟩
     rw[hA] at HCo;go_upto_region 23 with(first | (go_at_call 62;refine(within_any _ _ _ _).mono ?_;rintro e w' ⟨rfl,rfl⟩) | (go_at_call 73;refine HCo.o.mono ?_;rintro e w5 ⟨rfl,hb5⟩;have Hb5:=hI hb5;have hs5:=hb5.size;clear hb5))
     clear u0 u1 t3 q1;have HB5:=hI (HB4.o.trans (Hb5.o.mono (by omega)));have u0:=kC 0 (HXu.o w5 Hb5.o) rfl;have u1:=kC 1 (HXu.o w5 Hb5.o) rfl;have q1:=kC 1 (HX00.o w5 (HU2.o _ HB5.o)) rfl;cases hM:withinB u.many 1 1000
     ·have HV:=hI (show tskErrAt j.p i=1 by
       have h1:useErrAt j.p.res t.p.uses z=1:=by rw[HUe.o,hW,hA,hM];rfl
       rw[HBad.o (by rw[h1];decide),h1])
      go_wp2_with (go_at_call 62;refine(within_any _ _ _ _).mono ?_;rintro e w' ⟨rfl,rfl⟩);go_ret;exact⟨ret_int HV.o.symm,HU0.o _ (HU2.o _ HB5.o)⟩
     have hw1:=withinB_true.1 hW;obtain⟨rn,hrn⟩:∃rn:Nat,u.res=rn:=⟨u.res.toNat,by omega⟩
     have hrl:rn<j.res.length:=by have:=Hm.o;omega
     have HUf:=hI (show useErrAt j.p.res t.p.uses z=if (j.R rn).p.many<u.many then 9 else 0 by rw[HUe.o,hW,hA,hM,hrn,zZ,j.pR];rfl);have hj5:=HJ.o w5 (HU2.o _ HB5.o);obtain⟨rb,roff,hRA,hrb⟩:=hj5.ra (by omega);obtain⟨_,r1,_⟩:=hj5.rcells hRA hrl;have hRe:RA=some ⟨rb,roff,none⟩:=by rw[<- HRA.o];exact hRA
     subst hRe;rw[hrn] at u0;generalize (j.R rn).p.many=rm at r1 HUf;have hrm:rn<m:=by have:=Hm.o;omega
     clear hj5 hRA hW hw1 hA;cases hD:decide (rm<u.many)
     ·have HV:=hI (show firstErr (useErrAt j.p.res t.p.uses) (z+1)=0 by rw[Hsn.o,HUf.o,if_neg (zH hD)]);go_upto_region 25 with(go_at_call 62;refine(within_any _ _ _ _).mono ?_;rintro e w' ⟨rfl,rfl⟩)
      go_quiet (fail)
      go_wp2;go_roundw;case rel=>exact⟨z+1,by omega,by go_num,hI (zO HB5.o _),HV⟩
      case measure=>simp[intOf];omega
     ·have HV:=hI (show tskErrAt j.p i=9 by
       have h1:useErrAt j.p.res t.p.uses z=9:=by rw[HUf.o,if_pos (zI hD)]
       rw[HBad.o (by rw[h1];decide),h1])
      go_upto_region 25 with(go_at_call 62;refine(within_any _ _ _ _).mono ?_;rintro e w' ⟨rfl,rfl⟩)
      go_quiet (fail)
      go_wp2;go_ret;exact⟨ret_int HV.o.symm,HU0.o _ (HU2.o _ (zO HB5.o _))⟩
    ·have HV:=hI (show tskErrAt j.p i=0 by rw[HE3.o,show nu=z by omega];exact Hf2.o);go_wp2;go_ret;exact⟨ret_int HV.o.symm,HU0.o _ (HU2.o _ Hb2.o)⟩
end Go.Proofs.YtjpgnfekbojcaaaGreat
