/- Is what is laid free (free);Free. -/
import Derived.Test.YtjpgnfekbojcaaaGreatWLaid
import Derived.DeepKeys5
set_option maxHeartbeats 8000000
set_option maxRecDepth 100000
namespace W8
open W7
theorem maxU_int {f:Nat->Nat} {r:Int} (n:Nat):decide ((maxU f n:Int)<=r)=(List.range (n+1)).all fun t=>decide ((f t:Int)<=r):=by
 rw[Bool.eq_iff_iff,decide_eq_true_eq,List.all_eq_true]
 constructor
 ·intro h t ht;have h1:=List.mem_range.1 ht;have h2:=(maxU_le f (maxU f n) n).1 (Nat.le_refl _) t (by omega);exact decide_eq_true (by omega)
 ·intro h;have h0:=of_decide_eq_true (h 0 (List.mem_range.2 (by omega)))
  have h1:=(maxU_le f r.toNat n).2 (fun t ht=>by
   have:=of_decide_eq_true (h t (List.mem_range.2 (by omega)));omega)
  omega
def freeT (l:Line) (F G:Nat->Nat->Nat):Bool:=(List.range l.room.length).all (fun i=>decide ((maxU (F i) 100001:Int)<=l.room.getD i 0))&&(List.range l.run.length).all (fun k=>decide (maxU (G k) 100001<=1))
theorem freeN (N:Nat) (l:Line) (F G:Nat->Nat->Nat):((List.range l.room.length).all (fun i=>decide ((maxU (F i) N:Int)<=l.room.getD i 0))&&(List.range l.run.length).all (fun k=>decide (maxU (G k) N<=1))) =
  ((List.range l.room.length).all (fun i=>(List.range (N+1)).all fun t=>decide ((F i t:Int)<=l.room.getD i 0))&&(List.range l.run.length).all (fun k=>(List.range (N+1)).all fun t=>decide (G k t<=1))):=by
 have h1:(fun i=>decide ((maxU (F i) N:Int)<=l.room.getD i 0))=fun i=>(List.range (N+1)).all fun t=>decide ((F i t:Int)<=l.room.getD i 0):=funext fun i=>maxU_int N
 have h2:(fun k=>decide (maxU (G k) N<=1))=fun k=>(List.range (N+1)).all fun t=>decide (G k t<=1):=funext fun k=>by
  have h:=maxU_int (f:=G k) (r:=1) N;rw[show decide (maxU (G k) N<=1)=decide ((maxU (G k) N:Int)<=1) from decide_eq_decide.2 (by omega),h]
  congr 1
  funext t
  exact decide_eq_decide.2 (by omega)
 rw[h1,h2]
theorem freeT_eq {l:Line} {tab:List (List TCall)}:freeT l (fun i t=>stAll i t tab) (fun i t=>seAll i t tab)=freeB l tab:=freeN 100001 l _ _
theorem rangeAll_no {p:Nat->Bool} {k n:Nat} (hk:k<n) (h:p k=false):(List.range n).all p=false:=by
 rw[Bool.eq_false_iff];intro h1;rw[List.all_eq_true.1 h1 k (List.mem_range.2 hk)] at h;cases h
theorem take_all_succ {p:Nat->Bool} {k:Nat} (h:(List.range k).all p=true):(List.range (k+1)).all p=p k:=by
 rw[List.range_succ,List.all_append,h];simp
end W8
namespace Go.Proofs.YtjpgnfekbojcaaaGreat
open Go.RowKit W7 W8
attribute [local go_sem] Oper.semAt_some
def encPtr (b:Nat):List Value:=[.pointer (some ⟨b,0,none⟩)]
theorem mfree1_any (b:Nat) (f:Nat->Nat) (w:World) (h:MinIn w b f) (hf:∀t,t<100002->f t<=60000) :
  Calls Tryz.prog 151 #[.pointer (some ⟨b,0,none⟩)] w fun e w'=>e= .returned (.bool (decide (1<maxU f 100001)))/\Bl w w':=by
 have HM:=hI (most_any b f w h hf);have hx:=(maxU_le f 60000 100001).2 (fun t ht=>hf t (by omega));generalize maxU f 100001=m at HM hx ⊢;clear h hf;obtain⟨mi,hmi⟩:∃mi:Int,(m:Int)=mi:=⟨_,rfl⟩
 have HD:=hI (show decide ((1:Int)<mi)=decide (1<m) from decide_eq_decide.2 (by omega));rw[hmi] at HM;have hm2:0<=mi/\mi<=60000:=by omega
 clear hmi;go_enter Tryz.func151,Tryz.ntmps151;go_wp2_with (go_at_call 149;go_loud (refine HM.o.mono ?_);rintro e w1 ⟨rfl,rfl⟩);go_ret;exact⟨ret_bool HD.o,Below.refl _ _⟩
set_option maxHeartbeats 1000000 in
theorem idxFr1_any (P:Nat->Bool) (xs:List Nat) (n:Nat) (hn:n=xs.length) (A:Option Addr) (c B:Nat) (w:World) (hA:Sl w B 1 encPtr A xs) (hB:B<=w.heap.size) (hl:xs.length<=9223372036854775807)
    (hF:∀(x:Nat),x∈xs->∀(W:World),Bl w W->Calls Tryz.prog 151 #[.pointer (some ⟨x,0,none⟩)] W fun e w'=>e= .returned (.bool (P x))/\Bl W w') :
    Calls Tryz.prog 191 #[.slice A n c,.func (.func 151) #[] #[]] w fun e w'=>e= .returned (.int .i64 (idxB P xs))/\Bl w w':=by
  subst hn;have HA:=hI hA;have HF:=hI hF;clear hA hF;go_enter Tryz.func191,Tryz.ntmps191;go_wp2;go_loopw [8] (fun i wr=>∃k:Nat,k<=xs.length/\i= .int .i64 k/\Hid ((xs.take k).any P=false)/\Hid (Bl w wr)) (fun i _=>xs.length-(intOf i).toNat);case atStart=>exact⟨0,by omega,rfl,hI (by simp),hI (Below.refl _ _)⟩
  case round=>
    obtain⟨k,hk,rfl,Hno,Hb⟩:=hrel;have hsz:=Hb.o.size
    by_cases hlt:k<xs.length
    · obtain⟨b,off,rfl,hbB,hcells⟩:=(HA.o.below (Hb.o.mono hB)) (by omega)
      have h0:=hcells k hlt;clear hcells;have c0:wr.cell? ⟨b,off+k,none⟩=some (.pointer (some ⟨xs[k],0,none⟩)):=(by have h:=h0 0 _ rfl;rwa [Nat.mul_one,Nat.add_zero] at h)
      have Hs:=hI (any_take_succ (p:=P) hlt Hno.o);have Hh:=hI (idxB_hit (p:=P) hlt Hno.o);have HK:=hI (fun(W:World) (hW:Bl w W)=>HF.o xs[k] (List.getElem_mem hlt) W hW);generalize xs[k]=x at c0 Hs Hh HK;clear h0;cases hp:P x
      · have HK2:=hI (fun(W:World) (hW:Bl w W)=>hp▸HK.o W hW)
        go_wp2_with (go_at_call 151;refine(HK2.o _ (by first | exact Hb.o | exact Hb.o.alloc (by omega) _)).mono ?_;rintro e w1 ⟨rfl,hb1⟩;have Hb1:=hI hb1;clear hb1);go_roundw;case rel=>exact⟨k+1,by omega,by go_num,hI (Hs.o hp),hI (by first | exact Hb.o.trans (Hb1.o.mono hsz) | exact(Hb.o.alloc (by omega) _).trans (Hb1.o.mono (by simp;omega)))⟩
        case measure=>simp[intOf];omega
      · have HK2:=hI (fun(W:World) (hW:Bl w W)=>hp▸HK.o W hW)
        go_wp2_with (go_at_call 151;refine(HK2.o _ (by first | exact Hb.o | exact Hb.o.alloc (by omega) _)).mono ?_;rintro e w1 ⟨rfl,hb1⟩;have Hb1:=hI hb1;clear hb1);go_ret;exact⟨ret_int (Hh.o hp).symm,(by first | exact Hb.o.trans (Hb1.o.mono hsz) | exact(Hb.o.alloc (by omega) _).trans (Hb1.o.mono (by simp;omega)))⟩
    · have HN:=hI (idxB_none (p:=P) (xs:=xs) (by rw[<- Hno.o,List.take_of_length_le (by omega)]))
      go_wp2;go_ret;exact⟨ret_int HN.o.symm,Hb.o⟩
theorem conFr1_any (P:Nat->Bool) (xs:List Nat) (n:Nat) (hn:n=xs.length) (A:Option Addr) (c B:Nat) (w:World) (hA:Sl w B 1 encPtr A xs) (hB:B<=w.heap.size) (hl:xs.length<=9223372036854775807)
    (hF:∀(x:Nat),x∈xs->∀(W:World),Bl w W->Calls Tryz.prog 151 #[.pointer (some ⟨x,0,none⟩)] W fun e w'=>e= .returned (.bool (P x))/\Bl W w') :
    Calls Tryz.prog 150 #[.slice A n c,.func (.func 151) #[] #[]] w fun e w'=>e= .returned (.bool (xs.any P))/\Bl w w':=by
  have H:=hI (idxFr1_any P  xs n hn A c B w hA hB hl hF);have HI:=hI (idxB_any (p:=P) (xs:=xs));clear hA hn hF;go_enter Tryz.func150,Tryz.ntmps150;go_wp2_with (go_at_call 191;refine H.o.mono ?_;rintro e w1 ⟨rfl,hb1⟩;have Hb1:=hI hb1;clear hb1);go_ret;exact⟨ret_bool HI.o,Hb1.o⟩

theorem flat_ptr:∀xs:List Nat,xs.flatMap encPtr=xs.map ptrV
 | []=>rfl
 | x::l=>by show encPtr x++l.flatMap encPtr=_;rw[flat_ptr l];rfl
theorem trkFree_any (l:Line) (g base B:Nat) (SA KA:Option Addr) (sc kc:Nat) (sbs kbs:List Nat) (F G:Nat->Nat->Nat) (w:World) (h:TrkIn w base g l SA KA sc kc sbs kbs F G) (hl:LnIn w B l) (hB:B<=w.heap.size) (hs:sbs.length=l.room.length) (hk:kbs.length=l.run.length) (hm:l.room.length<=16) (hr:l.run.length<=16)
  (hF:∀i t,F i t<=60000) (hG:∀i t,G i t<=60000) :
  Calls Tryz.prog 86 #[ptrV g] w fun e w'=>e= .returned (.bool (freeT l F G))/\Bl w w':=by
 have H:=hI (show ∀X,Bl w X->TrkIn X base g l SA KA sc kc sbs kbs F G/\LnIn X B l from fun X hX=>⟨h.below hX,hl.below (hX.mono hB)⟩);have h3:=hl.mlc;have h4:=hl.mc2;obtain⟨m,hm'⟩:∃x,l.room.length=x:=⟨_,rfl⟩
 obtain⟨r,hr'⟩:∃x,l.run.length=x:=⟨_,rfl⟩
 rw[hm'] at hm hs h3;rw[hr'] at hr hk;have hcs:=own_caps1 h.sr;have hck:=own_caps1 h.kr;rw[hs] at hcs;rw[hk] at hck;have Hs:=hI hs;have Hk:=hI hk;have Hm:=hI hm';have Hr:=hI hr';have HF:=hI hF;have HG:=hI hG;have HT:=hI (show freeT l F G=((List.range m).all (fun i=>decide ((maxU (F i) 100001:Int)<=l.room.getD i 0))&&(List.range r).all (fun k=>decide (maxU (G k) 100001<=1))) by unfold freeT;rw[hm',hr'])
 have HCon:=hI (fun(X:World) (hX:Bl w X)=>conFr1_any (fun b=>decide (∃i,i<r/\kbs.getD i 0=b/\1<maxU (G i) 100001)) kbs r hk.symm KA kc X.heap.size X (by
   have h5:=(H.o X hX).1.kr;rw[<- flat_ptr] at h5;exact sl_own2 (enc:=encPtr) (k:=1) (fun _=>rfl) h5) (Nat.le_refl _) (by omega) (fun b hb W hW=>by
   obtain⟨i,hi,rfl⟩:=mem_getD hb;have h5:=(H.o W (hX.trans (hW.mono hX.size))).1.se i hi;have h6:=mfree1_any _ (G i) W h5 (fun t _=>HG.o i t)
   have h7:decide (∃j,j<r/\kbs.getD j 0=kbs.getD i 0/\1<maxU (G j) 100001)=decide (1<maxU (G i) 100001):=decide_eq_decide.2 ⟨fun⟨j,hj,he,h8⟩=>by
     have hj2:j<kbs.length:=by omega
     rw[List.getD_eq_getElem?_getD,List.getElem?_eq_getElem hj2,List.getD_eq_getElem?_getD,List.getElem?_eq_getElem hi] at he;have:=nodup_inj (List.nodup_append.1 (H.o w (Below.refl _ _)).1.nd).2.1 hj2 hi he;rw[<- this];exact h8,fun h8=>⟨i,by omega,rfl,h8⟩⟩
   rw[h7];exact h6))
 have HAny:=hI (show(!kbs.any (fun b=>decide (∃i,i<r/\kbs.getD i 0=b/\1<maxU (G i) 100001)))=(List.range r).all (fun k=>decide (maxU (G k) 100001<=1)) by
  rw[Bool.eq_iff_iff,Bool.not_eq_true',List.any_eq_false,List.all_eq_true]
  constructor
  ·intro h9 k hk9;have hk10:=List.mem_range.1 hk9
   by_cases h11:maxU (G k) 100001<=1
   ·exact decide_eq_true h11
   ·exact absurd (decide_eq_true ⟨k,hk10,rfl,by omega⟩) (h9 _ (getD_memN (by omega)))
  ·intro h9 b hb h10;obtain⟨i,hi,_,h11⟩:=of_decide_eq_true h10;have:=of_decide_eq_true (h9 i (List.mem_range.2 hi));omega)
 generalize kbs.any (fun b=>decide (∃i,i<r/\kbs.getD i 0=b/\1<maxU (G i) 100001))=an at HCon HAny;have hblk:=h.blk;rw[hs,hk,hm',hr'] at hblk;have c2:=bc (j:=2) hblk rfl;have HY:=hI (fun(X:World) (hX:Bl w X)=>show X.heap[g]? =_ from(hX.block g (blk_lt h.blk)).trans hblk);clear h hl hF hG hs hk hm' hr' hblk;unfold ptrV;go_enter Tryz.func86,Tryz.ntmps86;go_wp2;clear c2;go_loopw [10] (fun v10 wr=>∃i:Nat,i<=m/\v10= .int .i64 i/\Hid (Bl w wr)/\Hid ((List.range i).all (fun i=>decide ((maxU (F i) 100001:Int)<=l.room.getD i 0))=true)) (fun v10 _=>m-(intOf v10).toNat);case atStart=>exact⟨0,by omega,rfl,hI (Below.refl _ _),hI rfl⟩
 case round=>
  obtain⟨i,hi,rfl,Hb,Hall⟩:=hrel;have hsr:=Hb.o.size
  by_cases hlt:i<m
  ·have hin:=H.o wr Hb.o;have his:i<sbs.length:=by have:=Hs.o;omega
   obtain⟨sab,scap,hSe,_,hsab,_,_,hscs⟩:=owns_cells hin.1.sr (by omega);have hscap:scap=sc/\SA=some ⟨sab,0,none⟩:=by injection hSe with h1 _ h3;exact⟨h3.symm,h1⟩
   obtain⟨rfl,rfl⟩:=hscap;have d0:=hscs i (ptrV (sbs.getD i 0)) (by rw[List.getElem?_map,List.getElem?_eq_getElem his,List.getD_eq_getElem?_getD,List.getElem?_eq_getElem his];rfl);rw[Nat.zero_add] at d0;unfold ptrV at d0;have hmi:=hin.1.st i his;obtain⟨pS,hpS⟩:∃x,sbs.getD i 0=x:=⟨_,rfl⟩
   rw[hpS] at d0 hmi;have HMo:=hI (fun(e:Later wr)=>most_any pS (F i) e.w (hmi.kept (e.b.block _ hmi.lt)) (fun t _=>HF.o i t));have hx:=(maxU_le (F i) 60000 100001).2 (fun t _=>HF.o i t);obtain⟨rb,roff,hMA,hrb,hrc⟩:=hin.2.room (by rw[Hm.o];omega);have hil:i<l.room.length:=by rw[Hm.o];exact hlt
   have c0:wr.cell? ⟨rb,roff+i,none⟩=some (.int .i64 (l.room.getD i 0)):=by
    have h5:=hrc i hil 0 _ rfl;rw[Nat.mul_one,Nat.add_zero] at h5;rw[h5,List.getD_eq_getElem?_getD,List.getElem?_eq_getElem hil]
    rfl
   have hY:=HY.o wr Hb.o;rw[hMA] at hY;have y1:=later_cell (bc (j:=1) hY rfl) (blk_lt hY);have yc0:=later_cell c0 (by omega);have Hsn:=hI (take_all_succ Hall.o);have Hbad:=hI (show decide ((maxU (F i) 100001:Int)<=l.room.getD i 0)=false->freeT l F G=false from fun h9=>by rw[HT.o,rangeAll_no hlt h9];rfl);generalize maxU (F i) 100001=M at HMo hx Hsn Hbad;generalize l.room.getD i 0=rv at yc0 Hsn Hbad;obtain⟨Mi,hMi⟩:∃Mi:Int,(M:Int)=Mi:=⟨_,rfl⟩
   rw[hMi] at HMo Hsn Hbad;have hMi2:0<=Mi/\Mi<=60000:=by omega
   clear hin hSe hscs hpS hmi hrc c0 hY hMA hMi;cases hd:decide (rv<Mi)
   ·have HOk:=hI (show(List.range (i+1)).all (fun i=>decide ((maxU (F i) 100001:Int)<=l.room.getD i 0))=true by rw[Hsn.o];have:=of_decide_eq_false hd;exact decide_eq_true (by omega));go_upto_region 4 with fail;clear d0;refine wp_region_later (by kernel_rfl) (by kernel_rfl) ?_
    repeat (any_goals (first | go_big_quiet_step ((go_at_call 149;exact later_call_same _ ((HMo.o _).mono (fun _ _ h=>⟨h.1,h.2.symm⟩)))) | quiet_step ((go_at_call 149;exact later_call_same _ ((HMo.o _).mono (fun _ _ h=>⟨h.1,h.2.symm⟩))))))
    refine wpQuiet_nil ?_;rintro w' ⟨e,rfl⟩;have HB2:=hI (show Bl w e.w from Hb.o.trans (e.b.mono hsr));go_wp2;go_roundw;case rel=>exact⟨i+1,by omega,by go_num,HB2,HOk⟩
    case measure=>simp[intOf];omega
   ·have HR:=hI (Hbad.o (decide_eq_false (by have:=of_decide_eq_true hd;omega)));go_upto_region 4 with fail;clear d0;refine wp_region_later (by kernel_rfl) (by kernel_rfl) ?_
    repeat (any_goals (first | go_big_quiet_step ((go_at_call 149;exact later_call_same _ ((HMo.o _).mono (fun _ _ h=>⟨h.1,h.2.symm⟩)))) | quiet_step ((go_at_call 149;exact later_call_same _ ((HMo.o _).mono (fun _ _ h=>⟨h.1,h.2.symm⟩))))))
    refine wpQuiet_nil ?_;rintro w' ⟨e,rfl⟩;have HB2:=hI (show Bl w e.w from Hb.o.trans (e.b.mono hsr));go_wp2;go_ret;exact⟨ret_bool HR.o.symm,HB2.o⟩
  ·have him:i=m:=by omega
   have HR:=hI (show(!an)=freeT l F G by rw[HAny.o,HT.o,<-him,Hall.o];rfl);have c3:=bc (j:=3) (HY.o wr Hb.o) rfl;have HCw:=hI (HCon.o wr Hb.o);clear him;go_wp2_with (go_at_call 150;go_loud (refine HCw.o.mono ?_);rintro e w1 ⟨rfl,hb1⟩;have Hb1:=hI hb1;clear hb1);go_ret;exact⟨ret_bool HR.o,Hb.o.trans (Hb1.o.mono hsr)⟩
theorem tab_bounds {l:Line} {tab:List (List TCall)} (h:TabOk l tab):(∀s t:Int,stAll s t tab<=60000)/\∀s t:Int,seAll s t tab<=60000:=by
 have hl:∀w∈tab,w.length<=16:=fun w hw=>by
  have h1:=(h.way w hw).len;have h2:=(line_ok h.line).1;omega
 have hm:=h.many;refine⟨fun s t=> ?_,fun s t=> ?_⟩
 ·have:=stAll_le s t 16 tab hl;omega
 ·have:=seAll_le s t 16 tab hl;omega
def freeV (l:Line) (tab:List (List TCall)):Bool:=decide (tabErr l tab=0)&&freeB l tab
theorem Free_any (l:Line) (ways:List TWay) (TA:Option Addr) (tn tc B:Nat) (w:World) (hl:LnIn w B l) (ht:TabIn w B TA tn tc ways) (hB:B<=w.heap.size) :
  Calls Tryz.prog 30 #[lineV l,.slice TA tn tc] w fun e w'=>e= .returned (.tuple #[.bool (freeV l (tabP ways)),.int .i64 (tabErr l (tabP ways))])/\Bl w w':=by
 obtain⟨RA,hRA⟩:∃x,l.RA=x:=⟨_,rfl⟩
 obtain⟨MA,hMA⟩:∃x,l.MA=x:=⟨_,rfl⟩
 obtain⟨r,hr⟩:∃x,l.run.length=x:=⟨_,rfl⟩
 obtain⟨m,hm⟩:∃x,l.room.length=x:=⟨_,rfl⟩
 have hlv:lineV l= .agg #[.slice RA r l.rc,.slice MA m l.mc]:=by unfold lineV;rw[hRA,hMA,hr,hm]
 obtain⟨W0,hW0⟩:∃W0,W0=w.alloc (.cells #[.slice RA r l.rc,.slice MA m l.mc] 52):=⟨_,rfl⟩
 have hs0:W0.heap.size=w.heap.size+1:=by rw[hW0];simp
 have HB0:=hI (show Bl w W0 by rw[hW0];exact(Below.refl _ _).alloc (Nat.le_refl _) _);have Q0:=hI (show W0.heap[w.heap.size]? =some (.cells #[.slice RA r l.rc,.slice MA m l.mc] 52 (0,0)) by rw[hW0];exact heap_alloc_new _ _)
 have HL:=hI (show ∀X,Bl W0 X->LnIn X B l/\TabIn X B TA tn tc ways from fun X hX=>by
  have h:=HB0.o.trans (hX.mono (by omega));exact⟨hl.below (h.mono hB),ht.below (h.mono hB)⟩)
 obtain⟨te,hte⟩:∃x,tabErr l (tabP ways)=x:=⟨_,rfl⟩
 have HT:=hI (timetable_any l ways TA tn tc B W0 (HL.o W0 (Below.refl _ _)).1 (HL.o W0 (Below.refl _ _)).2 (by omega));rw[hlv,hte] at HT;obtain⟨fv,hfv⟩:∃x,freeV l (tabP ways)=x:=⟨_,rfl⟩
 have HV:=hI (show fv=(decide (te=0)&&freeB l (tabP ways)) by rw[<- hfv];unfold freeV;rw[hte]);rw[hlv,hte,hfv];have Hte:=hI hte;have Hlv:=hI hlv;have HW0:=hI hW0;have q0:=W7.bc (j:=0) Q0.out rfl;have q1:=W7.bc (j:=1) Q0.out rfl;clear hW0 hl ht hm hr hRA hMA hlv hte hfv;go_enter Tryz.func30,Tryz.ntmps30;go_upto_region 1 with fail;rw[<- HW0.o];go_upto_region 2 with(go_at_call 84;go_loud (refine HT.o.mono ?_);rintro e w1 ⟨rfl,hb1⟩;have hs1:=hb1.size;have Hb1:=hI hb1;clear hb1)
 clear q0 q1 HT;cases h0:(te==0)
 ·have h0':(te != 0)=true:=by simp[bne,h0]
  have hne:te≠0:=fun h=>by rw[h] at h0;cases h0
  have HR:=hI (show fv=false by rw[HV.o,decide_eq_false hne];rfl);clear hne;go_wp2;go_ret2;exact⟨by rw[HR.o];rfl,HB0.o.trans (Hb1.o.mono (by omega))⟩
 have h0':(te != 0)=false:=by simp[bne,h0]
 obtain rfl:=eq_of_beq h0;have HOk:=hI (tabOk_of Hte.o);have HLa:=hI (laid_any l ways TA tn tc B w1 (HL.o w1 Hb1.o).1 (HL.o w1 Hb1.o).2 (by omega) HOk.o);rw[Hlv.o] at HLa;have HR:=hI (show fv=freeB l (tabP ways) by rw[HV.o];rfl);have q0:=W7.bc (j:=0) ((Hb1.o.block _ (by omega)).trans Q0.out) rfl;have q1:=W7.bc (j:=1) ((Hb1.o.block _ (by omega)).trans Q0.out) rfl;obtain⟨fb,hfb⟩:∃x,freeB l (tabP ways)=x:=⟨_,rfl⟩
 have Hfb:=hI hfb;clear hfb
 have HFr:=hI (fun(g:Nat) (SA KA:Option Addr) (sc kc:Nat) (sbs kbs:List Nat) (X:World) (h:TrkIn X w1.heap.size g l SA KA sc kc sbs kbs (fun i t=>stAll i t (tabP ways)) (fun i t=>seAll i t (tabP ways))) (hb:Bl w1 X) (hs:sbs.length=l.room.length) (hk:kbs.length=l.run.length)=>by
  have h5:=trkFree_any l g w1.heap.size B SA KA sc kc sbs kbs _ _ X h (HL.o X (Hb1.o.trans (hb.mono hs1))).1 (by have:=hb.size;omega) hs hk (line_ok HOk.o.line).1 (by have:=line_ok HOk.o.line;omega) (fun i t=>(tab_bounds HOk.o).1 i t) (fun i t=>(tab_bounds HOk.o).2 i t);rw[freeT_eq,Hfb.o] at h5;exact h5)
 go_wp2_with (first | (go_at_call 85;go_loud (refine HLa.o.mono ?_);rintro e w2 ⟨g,SA,KA,sc,kc,sbs,kbs,rfl,hg,hs,hk,ht,hb2⟩;have hs2:=hb2.size;have Hb2:=hI hb2;have HFr2:=hI (HFr.o g SA KA sc kc sbs kbs w2 ht hb2 hs hk);unfold ptrV at HFr2 ⊢;clear hs hk ht hb2) | (go_at_call 86;go_loud (refine HFr2.o.mono ?_);rintro e w3 ⟨rfl,hb3⟩;have hs3:=hb3.size;have Hb3:=hI hb3;clear hb3));go_ret2;exact⟨by rw[HR.o,Hfb.o];rfl,HB0.o.trans ((Hb1.o.trans ((Hb2.o.mono (by omega)).trans (Hb3.o.mono (by omega)))).mono (by omega))⟩
structure SrD where
 sg:Nat
 g:Nat
 mb:Nat
 eb:Nat
 PA:Option Addr
 SA:Option Addr
 KA:Option Addr
 pc:Nat
 sc:Nat
 kc:Nat
 sbs:List Nat
 kbs:List Nat
 base:Nat
 B:Nat
structure StOk (l:Line) (stops:List Int):Prop where
 pos:0<stops.length
 len:stops.length<=16
 at':∀k,k<stops.length->0<=stops.getD k 0/\stops.getD k 0<l.room.length
 step:∀k,k+1<stops.length->stops.getD (k+1) 0-stops.getD k 0=1\/stops.getD (k+1) 0-stops.getD k 0= -1
structure SrIn (X:World) (d:SrD) (l:Line) (tab:List (List TCall)) (stops:List Int):Prop where
 blk:X.heap[d.sg]? =some (.cells #[.pointer (some ⟨d.g,0,none⟩),.slice d.PA stops.length d.pc,.map (some d.mb),.map (some d.eb)] 133 (0,0))
 trk:TrkIn X d.base d.g l d.SA d.KA d.sc d.kc d.sbs d.kbs (fun i t=>stAll i t tab) (fun i t=>seAll i t tab)
 ln:LnIn X d.B l
 hB:d.B<=X.heap.size
 sp:X.ownsRow d.base 3 1 (.slice d.PA stops.length d.pc) stops.length (stops.map (Value.int .i64))
 sl:d.sbs.length=l.room.length
 kl:d.kbs.length=l.run.length
 ok:TabOk l tab
 st:StOk l stops
theorem SrIn.below {X Y:World} {d:SrD} {l:Line} {tab:List (List TCall)} {stops:List Int} (h:SrIn X d l tab stops) (hb:Bl X Y):SrIn Y d l tab stops:=
 ⟨(hb.block _ (blk_lt h.blk)).trans h.blk,h.trk.below hb,h.ln.below (hb.mono h.hB),Nat.le_trans h.hB hb.size,own_below h.sp hb,h.sl,h.kl,h.ok,h.st⟩
section
variable {X:World} {d:SrD} {l:Line} {tab:List (List TCall)} {stops:List Int}
theorem SrIn.stop (h:SrIn X d l tab stops) {k:Nat} (hk:k<stops.length):∃pb,d.PA=some ⟨pb,0,none⟩/\pb<X.heap.size/\X.cell? ⟨pb,k,none⟩=some (.int .i64 (stops.getD k 0)):=by
 obtain⟨pb,cap,e,_,hlt,_,_,hc⟩:=owns_cells h.sp (by omega)
 injection e with e1 _ _
 refine⟨pb,e1,hlt,?_⟩;have h1:=hc k (.int .i64 (stops.getD k 0)) (by rw[List.getElem?_map,List.getElem?_eq_getElem hk,List.getD_eq_getElem?_getD,List.getElem?_eq_getElem hk];rfl)
 rwa [Nat.zero_add] at h1
theorem SrIn.stB (h:SrIn X d l tab stops) {i:Nat} (hi:i<d.sbs.length):∃sab,d.SA=some ⟨sab,0,none⟩/\sab<X.heap.size/\X.cell? ⟨sab,i,none⟩=some (.pointer (some ⟨d.sbs.getD i 0,0,none⟩)):=by
 obtain⟨sab,cap,e,_,hlt,_,_,hc⟩:=owns_cells h.trk.sr (by omega)
 injection e with e1 _ _
 refine⟨sab,e1,hlt,?_⟩;have h1:=hc i (ptrV (d.sbs.getD i 0)) (by rw[List.getElem?_map,List.getElem?_eq_getElem hi,List.getD_eq_getElem?_getD,List.getElem?_eq_getElem hi];rfl)
 rwa [Nat.zero_add] at h1
theorem SrIn.seB (h:SrIn X d l tab stops) {i:Nat} (hi:i<d.kbs.length):∃kab,d.KA=some ⟨kab,0,none⟩/\kab<X.heap.size/\X.cell? ⟨kab,i,none⟩=some (.pointer (some ⟨d.kbs.getD i 0,0,none⟩)):=by
 obtain⟨kab,cap,e,_,hlt,_,_,hc⟩:=owns_cells h.trk.kr (by omega)
 injection e with e1 _ _
 refine⟨kab,e1,hlt,?_⟩;have h1:=hc i (ptrV (d.kbs.getD i 0)) (by rw[List.getElem?_map,List.getElem?_eq_getElem hi,List.getD_eq_getElem?_getD,List.getElem?_eq_getElem hi];rfl)
 rwa [Nat.zero_add] at h1
theorem ln_room {B:Nat} (h:LnIn X B l) {i:Nat} (hi:i<l.room.length):∃rb roff,l.MA=some ⟨rb,roff,none⟩/\rb<B/\X.cell? ⟨rb,roff+i,none⟩=some (.int .i64 (l.room.getD i 0)):=by
 obtain⟨rb,roff,e,hb,hc⟩:=h.room (by omega);refine⟨rb,roff,e,hb,?_⟩;have h5:=hc i hi 0 _ rfl;rw[Nat.mul_one,Nat.add_zero] at h5;rw[h5,List.getD_eq_getElem?_getD,List.getElem?_eq_getElem hi]
 rfl
theorem ln_run {B:Nat} (h:LnIn X B l) {i:Nat} (hi:i<l.run.length):∃rb roff,l.RA=some ⟨rb,roff,none⟩/\rb<B/\X.cell? ⟨rb,roff+i,none⟩=some (.int .i64 (l.run.getD i 0)):=by
 obtain⟨rb,roff,e,hb,hc⟩:=h.run (by omega);refine⟨rb,roff,e,hb,?_⟩;have h5:=hc i hi 0 _ rfl;rw[Nat.mul_one,Nat.add_zero] at h5;rw[h5,List.getD_eq_getElem?_getD,List.getElem?_eq_getElem hi]
 rfl
end
theorem later_un {w:World} {n b o:Nat} {v:Value} (h:∀e:Later w,e.w.cell? ⟨b,o,none⟩=some v):∀e:Later (w.drewN n),e.w.cell? ⟨b,o,none⟩=some v:=fun e=>h ⟨e.w,(below_drewN (Below.refl _ _) n).trans e.b⟩
theorem sroom_any (d:SrD) (l:Line) (tab:List (List TCall)) (stops:List Int) (k:Nat) (t:Int) (w:World) (h:SrIn w d l tab stops) (hk:k<stops.length) :
  Calls Tryz.prog 155 #[.pointer (some ⟨d.sg,0,none⟩),.agg #[.int .i64 (k:Int),.int .i64 t]] w fun e w'=>e= .returned (.bool (roomB l tab stops k t))/\Bl w w':=by
 obtain⟨sp,hsp⟩:∃x,stops.length=x:=⟨_,rfl⟩
 obtain⟨W0,hW0⟩:∃W0,W0=w.alloc (.cells #[.int .i64 (k:Int),.int .i64 t] 136):=⟨_,rfl⟩
 have hs0:W0.heap.size=w.heap.size+1:=by rw[hW0];simp
 have HB0:=hI (show Bl w W0 by rw[hW0];exact(Below.refl _ _).alloc (Nat.le_refl _) _);have Q0:=hI (show W0.heap[w.heap.size]? =some (.cells #[.int .i64 (k:Int),.int .i64 t] 136 (0,0)) by rw[hW0];exact heap_alloc_new _ _);have h0:=h.below HB0.o;have hst:=h.st.at' k hk;have hlo:=line_ok h.ok.line;have hpc:=own_caps1 h.sp;have hscc:=own_caps1 h.trk.sr;have hml:=h.ln.mlc;have hmc:=h.ln.mc2;obtain⟨ns,hns⟩:∃x:Nat,stops.getD k 0=(x:Int):=⟨(stops.getD k 0).toNat,by omega⟩
 have hnm:ns<l.room.length:=by omega
 obtain⟨pb,hPA,hpb,p0⟩:=h0.stop hk;obtain⟨sab,hSA,hsab,s0⟩:=h0.stB (i:=ns) (by rw[h.sl];exact hnm);obtain⟨rb,roff,hMA,hrb,r0⟩:=ln_room h0.ln hnm;have hmi:=h0.trk.st ns (by rw[h.sl];exact hnm);obtain⟨pS,hpS⟩:∃x,d.sbs.getD ns 0=x:=⟨_,rfl⟩
 rw[hpS] at s0 hmi;have hblk:=h0.blk;have htk:=h0.trk.blk;rw[hsp,hPA] at hblk;rw[h.sl,h.kl,hSA,hMA] at htk;rw[hns] at p0;obtain⟨m,hm⟩:∃x,l.room.length=x:=⟨_,rfl⟩
 rw[hm] at htk hnm hml;rw[hm] at hlo;have hm16:=hlo.1;rw[h.sl,hm] at hscc;rw[hsp] at hpc hk;have HV:=hI (show roomB l tab stops k t=(isTm t&&decide ((stAll (ns:Int) t tab:Int)<l.room.getD ns 0)) by unfold roomB;rw[hns,Int.toNat_natCast]);have hbs:=(tab_bounds h.ok).1 ns;have HMi:=hI hmi;have y0:=later_cell (bc (j:=1) htk rfl) (blk_lt htk);have y1:=later_cell (bc (j:=2) htk rfl) (blk_lt htk);have y2:=later_cell (bc (j:=0) hblk rfl) (blk_lt hblk);have ys:=later_cell s0 hsab;have yr:=later_cell r0 (by have:=h.hB;omega);have yq:=later_cell (bc (j:=1) Q0.out rfl) (by omega);have hpp:=bc (j:=1) hblk rfl;have HW0:=hI hW0;have HY:=hI (show(∀e:Later W0,e.w.cell? ⟨d.g,1,none⟩=some (.slice (some ⟨rb,roff,none⟩) m l.mc))/\(∀e:Later W0,e.w.cell? ⟨d.g,2,none⟩=some (.slice (some ⟨sab,0,none⟩) m d.sc))/\(∀e:Later W0,e.w.cell? ⟨d.sg,0,none⟩=some (.pointer (some ⟨d.g,0,none⟩))) from⟨y0,y1,y2⟩)
 have q0:=W7.bc (j:=0) Q0.out rfl;have q1:=W7.bc (j:=1) Q0.out rfl;generalize l.room.getD ns 0=rv at yr HV;generalize d.pc=pc at *;generalize d.sc=sc at *;generalize d.sg=sg at *;generalize d.g=g at *;clear hW0 h h0 hst hlo hPA hSA hMA hpS hmi hblk htk hsp hm r0 s0 hns;go_enter Tryz.func155,Tryz.ntmps155;go_upto_region 1 with fail;rw[<- HW0.o]
 go_quiet (fail)
 have z0:=later_un (n:=nq) HY.o.1;have z1:=later_un (n:=nq) HY.o.2.1;have z2:=later_un (n:=nq) HY.o.2.2;have zs:=later_un (n:=nq) ys;have zr:=later_un (n:=nq) yr;have zq:=later_un (n:=nq) yq;have HB1:=hI (below_drewN HB0.o nq);have hs1:w.heap.size<=(W0.drewN nq).heap.size:=HB1.o.size;cases ht:isTm t
 ·have HR:=hI (show roomB l tab stops k t=false by rw[HV.o,ht];rfl);have HTm:=hI (fun X=>by have h:=isTime_any t X;rw[ht] at h;exact h);go_upto_region 2 with fail;clear y0 y1 y2 ys yr yq hpp p0 q0 q1;refine wp_region_later (by kernel_rfl) (by kernel_rfl) ?_
  repeat (any_goals (first | go_big_quiet_step ((go_at_call 70;exact later_call_same _ (HTm.o _))) | quiet_step ((go_at_call 70;exact later_call_same _ (HTm.o _)))))
  refine wpQuiet_nil ?_;rintro w' ⟨e,rfl⟩;have HB2:=hI (HB1.o.trans (e.b.mono hs1));go_wp2;go_ret;exact⟨ret_bool HR.o.symm,HB2.o⟩
 ·have HTm:=hI (fun X=>by have h:=isTime_any t X;rw[ht] at h;exact h);have htt:=isTm_true.1 ht;obtain⟨tn,htn⟩:∃x:Nat,t=(x:Int):=⟨t.toNat,by omega⟩
  subst htn;have hbt:=hbs (tn:Int);have HR:=hI (show roomB l tab stops k (tn:Int)=decide ((stAll (ns:Int) (tn:Int) tab:Int)<rv) by rw[HV.o,ht];rfl);have yc:=later_cell (HMi.o.cell (t:=tn) (by omega)) HMi.o.lt;generalize stAll (ns:Int) (tn:Int) tab=cnt at yc HR hbt;have zc:=later_un (n:=nq) yc;obtain⟨ci,hci⟩:∃ci:Int,(cnt:Int)=ci:=⟨_,rfl⟩
  rw[hci] at zc HR;have hc0:0<=ci/\ci<=60000:=by omega
  obtain⟨hc1,hc2⟩:=hc0;go_upto_region 2 with fail;clear y0 y1 y2 ys yr yq yc hpp p0 q0 q1 hci;refine wp_region_later (by kernel_rfl) (by kernel_rfl) ?_
  repeat (any_goals (first | go_big_quiet_step ((go_at_call 70;exact later_call_same _ (HTm.o _))) | quiet_step ((go_at_call 70;exact later_call_same _ (HTm.o _)))))
  refine wpQuiet_nil ?_;rintro w' ⟨e,rfl⟩;have HB2:=hI (HB1.o.trans (e.b.mono hs1));go_wp2;go_ret;exact⟨ret_bool HR.o.symm,HB2.o⟩
end Go.Proofs.YtjpgnfekbojcaaaGreat
namespace Go.Proofs.YtjpgnfekbojcaaaGreat
open Go.RowKit W7 W8
theorem laidOutM:laidOutB Tryz.prog=true:=by kernel_rfl
theorem wideM:(match Tryz.prog.underlying 136 with | some (.array _ _) | some (.struct _)=>true | _=>false)=true:=by rw[Tryz.underlying136]
theorem ktM:Tryz.prog.keyTypeAt 2 136=true:=by kernel_rfl
theorem rowM:(136:TypeId)<Tryz.prog.types.size:=of_decide_eq_true (by kernel_rfl)
theorem lawM:WideMaps.KeyLaw Tryz.prog 136:=deep_law_laid laidOutM (m:=2) (by omega) rowM ktM wideM
theorem keyedM:Maps.Keyed Tryz.prog 136:=Maps.Keyed.of_law lawM
theorem cellsM:Tryz.prog.cellsOf 136=2:=by kernel_rfl
theorem cellsI:Tryz.prog.cellsOf 3=1:=by kernel_rfl
theorem keyTM:Tryz.prog.keyType 136=true:=by kernel_rfl
theorem sizeTM:∃n,Tryz.prog.types.size=n+2:=⟨Tryz.prog.types.size-2,by have h:(136:Nat)<Tryz.prog.types.size:=rowM;omega⟩
theorem keyM_some (a b:Int) (ha:(Lit.int .i64 a).wf=true) (hb:(Lit.int .i64 b).wf=true):keyOf Tryz.prog 136 (.agg #[.int .i64 a,.int .i64 b])=some (.string (keyBytes [.int .i64 a,.int .i64 b])):=by
 obtain⟨n,hn⟩:=sizeTM;unfold keyOf;rw[Tryz.underlying136,keyTM,hn];have hf:(Value.agg #[Value.int .i64 a,Value.int .i64 b]).formed Tryz.prog 136=true:=by simp[Value.formed,Tryz.underlying136,cellsM]
 simp only[hf,Bool.and_self,if_true];simp only[Program.keyLits,Tryz.underlying136];simp[Value.cells,cellsM,cellsI,Tryz.underlying3,ha,hb]
def keyMo (k:Nat) (t:Int):Lit:= .string (keyBytes [.int .i64 (k:Int),.int .i64 t])
def moV (k:Nat) (t:Int):Value:= .agg #[.int .i64 (k:Int),.int .i64 t]
structure KeyB (k:Nat) (t:Int):Prop where
 k:k<1000
 lo: -10000000<=t
 hi:t<=10000000
theorem keyMo_of {k:Nat} {t:Int} (h:KeyB k t):keyOf Tryz.prog 136 (moV k t)=some (keyMo k t):=keyM_some _ _ (wf64 (by have:=h.k;omega)) (wf64 (by have:=h.lo;have:=h.hi;omega))
theorem keyMo_is (k:Nat) (t:Int):WideAt.IsKeyLit (keyMo k t):=by simp[WideAt.IsKeyLit,keyMo]
theorem keyMo_ne {k k':Nat} {t t':Int} (h:KeyB k t) (h':KeyB k' t') (hne:(k,t)≠(k',t')):keyMo k t≠keyMo k' t':=fun e=>by
 have h1:=keyMo_of h;have h2:=keyMo_of h';rw[<- e] at h2;have h3:=keyedM.inj h1 h2;unfold moV at h3;simp at h3;exact hne (by rw[show k=k' by omega,h3.2])
theorem plainB_inv {v:Value} {z:DataW Unit×List MemPlace} (h:plainElem Tryz.prog 4 v=some z):∃b,v= .bool b/\z=(.lit (.bool b),[]):=by
 unfold plainElem at h;rw[Tryz.underlying4] at h;cases v<;>simp at h
 exact⟨_,rfl,h.symm⟩
theorem zeroB (w:World):(zeroValue 4).run Tryz.prog w= .ok (.bool false) w:=by kernel_rfl
def MapIn (X:World) (b:Nat) (E:List (Nat×Int)) (f:Nat->Int->Bool):Prop:=∃D:DataW Unit,X.ownsMap Tryz.prog 136 (plainElem Tryz.prog 4) b (Maps.size D) D/\Maps.size D=E.length ∧
 ∀k t,KeyB k t->Maps.has D (keyMo k t)=E.contains (k,t)/\D.atKey (keyMo k t) (.lit (.bool false))= .lit (.bool (E.contains (k,t)&&f k t))
def mapLen (X:World) (b:Nat):Nat:=match X.heap[b]? with
 | some (.map es _)=>es.size
 | _=>0
section
variable {X Y:World} {b:Nat} {E:List (Nat×Int)} {f:Nat->Int->Bool}
theorem MapIn.lt (h:MapIn X b E f):b<X.heap.size:=by obtain⟨D,h,_⟩:=h;exact h.lt
theorem MapIn.kept (h:MapIn X b E f) (he:Y.heap[b]? =X.heap[b]?):MapIn Y b E f:=by
 obtain⟨D,⟨es,clock,hb,F,hs,hD⟩,hM⟩:=h;exact⟨D,⟨es,clock,he.trans hb,F,hs,hD⟩,hM⟩
theorem MapIn.below (h:MapIn X b E f) (hb:Bl X Y):MapIn Y b E f:=h.kept (hb.block b h.lt)
theorem MapIn.made (w:World) (f:Nat->Int->Bool):MapIn (w.alloc (.map #[] 0)) w.heap.size [] f:=
 ⟨.map [],World.ownsMap_made _ _ _ _,by simp[Maps.size],fun k t _=>⟨by simp[Maps.has],by simp[DataW.atKey]⟩⟩
theorem MapIn.len (h:MapIn X b E f):mapLen X b=E.length:=by
 obtain⟨D,⟨es,clock,hb,F,hs,rfl⟩,h2,_⟩:=h;unfold mapLen;rw[hb];simp only;rw[<- h2];simp[Maps.size,length_sorted]
theorem MapIn.is (h:MapIn X b E f):∃es c,X.heap[b]? =some (.map es c):=by
 obtain⟨D,⟨es,clock,hb,_⟩,_⟩:=h;exact⟨es,clock,hb⟩
theorem MapIn.look {k:Nat} {t:Int} (h:MapIn X b E f) (hk:KeyB k t):(Instr.lookup 131 (.map (some b)) (moV k t) false).run Tryz.prog X= .ok (.bool (E.contains (k,t)&&f k t)) X:=by
 obtain⟨D,hown,_,hD⟩:=h;obtain⟨v,ps,hrun,hv⟩:=hown.lookup keyedM Tryz.underlying131 (zeroB X) (plainElem_bool Tryz.underlying4 false) (keyMo_of hk);obtain⟨c,rfl,hc⟩:=plainB_inv hv;have h1:=(hD k t hk).2;have h2:=congrArg Prod.fst hc;simp only at h2;rw[h1] at h2
 injection h2 with h3
 injection h3 with h4
 rw[hrun,h4]
theorem MapIn.look_ok {k:Nat} {t:Int} (h:MapIn X b E f) (hk:KeyB k t):(Instr.lookup 131 (.map (some b)) (moV k t) true).run Tryz.prog X= .ok (.tuple #[.bool (E.contains (k,t)&&f k t),.bool (E.contains (k,t))]) X:=by
 obtain⟨D,hown,_,hD⟩:=h;obtain⟨v,ps,hrun,hv⟩:=hown.look_ok keyedM Tryz.underlying131 (zeroB X) (plainElem_bool Tryz.underlying4 false) (keyMo_of hk);obtain⟨c,rfl,hc⟩:=plainB_inv hv;have h1:=(hD k t hk).2;have h2:=congrArg Prod.fst hc;simp only at h2;rw[h1] at h2
 injection h2 with h3
 injection h3 with h4
 rw[hrun,h4,(hD k t hk).1]
end
def insK (E:List (Nat×Int)) (p:Nat×Int):List (Nat×Int):=if E.contains p then E else p::E
theorem insK_mem {E:List (Nat×Int)} {p q:Nat×Int}:q∈insK E p↔q=p\/q∈E:=by
 unfold insK
 split
 ·rename_i h
  rw[List.contains_iff_mem] at h;exact⟨.inr,fun h1=>h1.elim (fun e=>e▸h) id⟩
 ·exact List.mem_cons
theorem insK_contains {E:List (Nat×Int)} {p q:Nat×Int}:(insK E p).contains q=(q==p||E.contains q):=by
 rw[Bool.eq_iff_iff,List.contains_iff_mem,insK_mem,Bool.or_eq_true,beq_iff_eq,List.contains_iff_mem]
theorem insK_nodup {E:List (Nat×Int)} {p:Nat×Int} (h:E.Nodup):(insK E p).Nodup:=by
 unfold insK
 split
 ·exact h
 ·rename_i h1
  rw[List.contains_iff_mem] at h1;exact List.nodup_cons.2 ⟨h1,h⟩
theorem wpList_mapIn_put {P:Program} (hP:P=Tryz.prog) {w:World} {ops:Array Oper} {rest:List Oper} {o:Oper} {a:Act} {Q:Exit->Act->World->Prop} (hg:o.guard=none) (m x v:Operand) (hop:o.op=Op.mapUpdate 131 m x v)
  (b:Nat) (E:List (Nat×Int)) (f:Nat->Int->Bool) (k:Nat) (t:Int) (h:MapIn w b E f) (hm:a.eval m= .map (some b)) (hx:a.eval x=moV k t) (hv:a.eval v= .bool (f k t)) (hk:KeyB k t) (hl:E.length<1000000000)
  (hK:∀w',MapIn w' b (insK E (k,t)) f->w.grownBy w' (some b)->wpList P ops Q rest (a.put o.dst undef) w'):wpList P ops Q (o::rest) a w:=by
 subst hP;obtain⟨D,hown,hsz,hD⟩:=h;refine wpList_mapUpdate_own w hg m x v 131 hop 136 4 keyedM Tryz.underlying131 (plainElem Tryz.prog 4) b (Maps.size D) D hm hown (by unfold maxLen;omega) (moV k t) (.bool (f k t)) (keyMo k t) hx hv (keyMo_of hk) (.lit (.bool (f k t))) [] (plainElem_bool Tryz.underlying4 _) ?_;intro w' hown' hgr;refine hK w' ⟨_,own_fit hown',?_,fun k' t' hk'=> ?_⟩ hgr
 ·have ht:=hown.tidy keyedM;rw[Maps.size_put ht,(hD k t hk).1,hsz];unfold insK
  split<;>rfl
 ·have ht:=(hown.tidy keyedM).isMap;have h1:=hD k' t' hk';rw[insK_contains]
  by_cases he:(k',t')=(k,t)
  ·injection he with e1 e2
   subst e1 e2;rw[Maps.has_put_same ht (keyMo_is _ _),Maps.atKey_put_same ht (keyMo_is _ _)];simp
  ·have hne2:=keyMo_ne hk' hk he;rw[Maps.has_put_other hne2,Maps.atKey_put_other hne2,h1.1,h1.2];have hb:((k',t')==(k,t))=false:=beq_false_of_ne he;simp only[hb,Bool.false_or];exact⟨trivial,trivial⟩
def Alien (X:World) (b:Nat):Prop:=∀cs T,X.heap[b]? =some (.cells cs T (0,0))->T≠133/\T≠190/\T≠195/\T≠191/\T≠3
theorem MapIn.alien {X:World} {b:Nat} {E:List (Nat×Int)} {f:Nat->Int->Bool} (h:MapIn X b E f):Alien X b:=fun cs T hc=>by
 obtain⟨es,c,h1⟩:=h.is;rw[h1] at hc;cases hc
theorem own_alien {X Y:World} {base k n b T:Nat} {v:Value} {xs:List Value} (h:X.ownsRow base T k v n xs) (g:X.grownBy Y (some b)) (ha:∀cs,X.heap[b]? ≠some (.cells cs T (0,0))):Y.ownsRow base T k v n xs:=h.kept g (by
 cases hv:v.ownBlock with
 | none=>exact .inl rfl
 | some j=>
  refine .inr fun e=> ?_
  obtain⟨cs,hc⟩:=owns_block h j hv;rw[Option.some.inj e] at hc;exact ha cs hc)
theorem SrIn.grown {X Y:World} {d:SrD} {l:Line} {tab:List (List TCall)} {stops:List Int} {b:Nat} (h:SrIn X d l tab stops) (g:X.grownBy Y (some b)) (hb:d.B<=b) (ha:Alien X b):SrIn Y d l tab stops:=by
 have hne:∀(i:Nat) (o:Obj),X.heap[i]? =some o->(∀cs T,o=Obj.cells cs T (0,0)->T=133\/T=190\/T=195\/T=191\/T=3)->(∃cs T,o=Obj.cells cs T (0,0))->Y.heap[i]? =some o:=fun i o hi ht ⟨cs,T,ho⟩=>by
  refine(g.block i (blk_lt hi) (fun e=> ?_)).trans hi;have e1:=Option.some.inj e;subst e1;have h1:=ht cs T ho;have h2:=ha cs T (by rw[hi,ho]);rcases h1 with h1 | h1 | h1 | h1 | h1
  ·exact h2.1 h1
  ·exact h2.2.1 h1
  ·exact h2.2.2.1 h1
  ·exact h2.2.2.2.1 h1
  ·exact h2.2.2.2.2 h1
 have hmin:∀c f,MinIn X c f->MinIn Y c f:=fun c f ⟨cs,h1,h2⟩=>⟨cs,hne c _ h1 (fun cs T e=>by cases e;exact .inr (.inr (.inl rfl))) ⟨_,_,rfl⟩,h2⟩
 have hpr:∀ {v:Value} {n:Nat} {xs:List Value},X.ownsRow d.base 191 1 v n xs->Y.ownsRow d.base 191 1 v n xs:=fun hr=>own_alien hr g (fun cs hc=>(ha cs _ hc).2.2.2.1 rfl)
 have hbl:Below d.B X Y:=⟨g.os,g.tape,g.output,g.size,fun i hi=>g.block i (by have:=h.hB;omega) (fun e=>by have:=Option.some.inj e;omega)⟩
 exact⟨hne _ _ h.blk (fun cs T e=>by cases e;exact .inl rfl) ⟨_,_,rfl⟩,
  ⟨hne _ _ h.trk.blk (fun cs T e=>by cases e;exact .inr (.inl rfl)) ⟨_,_,rfl⟩,hpr h.trk.sr,hpr h.trk.kr,fun i hi=>hmin _ _ (h.trk.st i hi),fun i hi=>hmin _ _ (h.trk.se i hi),h.trk.nd,h.trk.ge,h.trk.ne⟩,
  h.ln.below hbl,Nat.le_trans h.hB g.size,own_alien h.sp g (fun cs hc=>(ha cs _ hc).2.2.2.2 rfl),h.sl,h.kl,h.ok,h.st⟩
def ELater (w:World) (b:Nat) (M:World->Prop):Type:={ W:World // w.grownBy W (some b)/\M W }
def ELater.w {w:World} {b:Nat} {M:World->Prop} (e:ELater w b M):World:=e.1
theorem ELater.g {w:World} {b:Nat} {M:World->Prop} (e:ELater w b M):w.grownBy e.w (some b):=e.2.1
theorem ELater.m {w:World} {b:Nat} {M:World->Prop} (e:ELater w b M):M e.w:=e.2.2
theorem wp_region_elater_tail {P:Program} {id:Nat} {Q:Exit->Act->World->Prop} {a:Act} {w:World} {l:List Oper} (b:Nat) (M:World->Prop) (n:Nat) (hm:P.follows .mixedOrders=true) (hB:Region.lexTailB .any l.toArray n=true) (h0:M { w with drawn:=w.drawn+1 })
  (h:wpQuiet P l.toArray (fun w'=>∃e:ELater w b M,w'=e.w) (fun a'=>∀w',(∃e:ELater w b M,w'=e.w)->wpList P l.toArray Q (l.drop n) a' w') (l.take n) a):(Code.region id l.toArray true).wp P Q a w:=
 wp_region_class_tail n hm hB ⟨⟨{ w with drawn:=w.drawn+1 },⟨⟨rfl,rfl,rfl,Nat.le_refl _,fun _ _ _=>rfl⟩,h0⟩⟩,rfl⟩ h
theorem elater_call {P:Program} {f:FuncId} {args:Array Value} {w:World} {b:Nat} {M:World->Prop} (hM:∀X Y,M X->Bl X Y->M Y) (e:ELater w b M) {v:Value} (h:Calls P f args e.w fun r w'=>r= .returned v/\Below e.w.heap.size e.w w') :
  Calls P f args e.w fun r w'=>r= .returned v/\∃e':ELater w b M,w'=e'.w:=
 h.mono fun _ w' ⟨hr,hb⟩=>⟨hr,⟨w',grown_trans e.g (grown_of_below hb _),hM _ _ e.m hb⟩,rfl⟩
theorem elater_call2 {P:Program} {f:FuncId} {args:Array Value} {w:World} {b:Nat} {M:World->Prop} (e:ELater w b M) {v:Value} (h:Calls P f args e.w fun r w'=>r= .returned v/\e.w.grownBy w' (some b)/\M w') :
  Calls P f args e.w fun r w'=>r= .returned v/\∃e':ELater w b M,w'=e'.w:=
 h.mono fun _ w' ⟨hr,hg,hm⟩=>⟨hr,⟨w',grown_trans e.g hg,hm⟩,rfl⟩
theorem elater_cell {w:World} {b c o:Nat} {M:World->Prop} {v:Value} (h:w.cell? ⟨c,o,none⟩=some v) (hc:c<w.heap.size) (hne:c≠b):∀e:ELater w b M,e.w.cell? ⟨c,o,none⟩=some v:=fun e=>
 (World.cell?_of_block (a:=⟨c,o,none⟩) (e.g.block c hc (fun he=>hne (Option.some.inj he)))).trans h
end Go.Proofs.YtjpgnfekbojcaaaGreat
