/- A board: may a task be placed;placing the tasks of an order. -/
import Derived.Test.YtjpgnfekbojcaaaGreatWJob7
import Derived.Shelf.SlSortCmp.WholeK
import Derived.Sort.LotA
import Derived.Sort.OwnSorted
set_option maxHeartbeats 4000000
set_option maxRecDepth 100000
namespace W8
open W7
theorem any_not_all {α:Type} (f:α->Bool):∀l:List α,(!l.any (fun x=> !f x))=l.all f
 | []=>rfl
 | x::l=>by
  rw[List.any_cons,List.all_cons,<-any_not_all f l];cases f x<;>simp
theorem serialGo_none {j:JobP} {fr:Int} {order:List Int} {f:Nat} {b:Bd} (h:order.find? (fun n=>mayB j b.pl n.toNat)=none):serialGo j fr order (f+1) b=(true,b):=by
 simp only[serialGo,h]
theorem serialGo_no {j:JobP} {fr:Int} {order:List Int} {f:Nat} {b:Bd} {n:Int} (h:order.find? (fun n=>mayB j b.pl n.toNat)=some n) (h2:placeV j b fr n.toNat=none):serialGo j fr order (f+1) b=(false,b):=by
 simp only[serialGo,h,h2]
theorem serialGo_put {j:JobP} {fr:Int} {order:List Int} {f:Nat} {b:Bd} {n s:Int} (h:order.find? (fun n=>mayB j b.pl n.toNat)=some n) (h2:placeV j b fr n.toNat=some s):serialGo j fr order (f+1) b=serialGo j fr order f (b.put n.toNat s):=by
 simp only[serialGo,h,h2]
end W8
namespace Go.Proofs.YtjpgnfekbojcaaaGreat
open Go.RowKit W7 W8
attribute [local go_sem] Oper.semAt_some
theorem may1_any (j:Job) (b:Bd) (fr:Int) (q bb g sb pb:Nat) (w:World) (hb:BdIn w g sb pb j b fr) (hq:q<j.tasks.length) (h0:w.cell? ⟨bb,0,none⟩=some (.pointer (some ⟨g,0,none⟩))) :
  Calls Tryz.prog 181 #[.int .i64 (q:Int),.pointer (some ⟨bb,0,none⟩)] w fun e w'=>e= .returned (.bool (!b.pl.getD q false))/\Bl w w':=by
 have p1:=bc (j:=3) hb.hg rfl;have cp:=hb.pl hq;generalize b.pl.getD q false=pl at cp;obtain⟨n,hn⟩:∃n,j.tasks.length=n:=⟨_,rfl⟩
 rw[hn] at p1 hq;clear hb hn;go_enter Tryz.func181,Tryz.ntmps181;go_wp2;go_ret;exact⟨rfl,Below.refl _ _⟩
set_option maxHeartbeats 1000000 in
theorem idxMay1_any (P:Int->Bool) (a0:Value) (xs:List Int) (n:Nat) (hn:n=xs.length) (A:Option Addr) (c B:Nat) (w:World) (hA:Sl w B 1 encInt1 A xs) (hB:B<=w.heap.size) (hl:xs.length<=9223372036854775807)
    (hF:∀(x:Int),x∈xs->∀(W:World),Bl w W->Calls Tryz.prog 181 #[.int .i64 x,a0] W fun e w'=>e= .returned (.bool (P x))/\Bl W w') :
    Calls Tryz.prog 132 #[.slice A n c,.func (.func 181) #[] #[a0]] w fun e w'=>e= .returned (.int .i64 (idxB P xs))/\Bl w w':=by
  subst hn;have HA:=hI hA;have HF:=hI hF;clear hA hF;go_enter Tryz.func132,Tryz.ntmps132;go_wp2;go_loopw [8] (fun i wr=>∃k:Nat,k<=xs.length/\i= .int .i64 k/\Hid ((xs.take k).any P=false)/\Hid (Bl w wr)) (fun i _=>xs.length-(intOf i).toNat);case atStart=>exact⟨0,by omega,rfl,hI (by simp),hI (Below.refl _ _)⟩
  case round=>
    obtain⟨k,hk,rfl,Hno,Hb⟩:=hrel;have hsz:=Hb.o.size
    by_cases hlt:k<xs.length
    · obtain⟨b,off,rfl,hbB,hcells⟩:=(HA.o.below (Hb.o.mono hB)) (by omega)
      have h0:=hcells k hlt;clear hcells;have c0:wr.cell? ⟨b,off+k,none⟩=some (.int .i64 xs[k]):=(by have h:=h0 0 _ rfl;rwa [Nat.mul_one,Nat.add_zero] at h)
      have Hs:=hI (any_take_succ (p:=P) hlt Hno.o);have Hh:=hI (idxB_hit (p:=P) hlt Hno.o);have HK:=hI (fun(W:World) (hW:Bl w W)=>HF.o xs[k] (List.getElem_mem hlt) W hW);generalize xs[k]=x at c0 Hs Hh HK;clear h0;cases hp:P x
      · have HK2:=hI (fun(W:World) (hW:Bl w W)=>hp▸HK.o W hW)
        go_wp2_with (go_at_call 181;refine(HK2.o _ (by first | exact Hb.o | exact Hb.o.alloc (by omega) _)).mono ?_;rintro e w1 ⟨rfl,hb1⟩;have Hb1:=hI hb1;clear hb1);go_roundw;case rel=>exact⟨k+1,by omega,by go_num,hI (Hs.o hp),hI (by first | exact Hb.o.trans (Hb1.o.mono hsz) | exact(Hb.o.alloc (by omega) _).trans (Hb1.o.mono (by simp;omega)))⟩
        case measure=>simp[intOf];omega
      · have HK2:=hI (fun(W:World) (hW:Bl w W)=>hp▸HK.o W hW)
        go_wp2_with (go_at_call 181;refine(HK2.o _ (by first | exact Hb.o | exact Hb.o.alloc (by omega) _)).mono ?_;rintro e w1 ⟨rfl,hb1⟩;have Hb1:=hI hb1;clear hb1);go_ret;exact⟨ret_int (Hh.o hp).symm,(by first | exact Hb.o.trans (Hb1.o.mono hsz) | exact(Hb.o.alloc (by omega) _).trans (Hb1.o.mono (by simp;omega)))⟩
    · have HN:=hI (idxB_none (p:=P) (xs:=xs) (by rw[<- Hno.o,List.take_of_length_le (by omega)]))
      go_wp2;go_ret;exact⟨ret_int HN.o.symm,Hb.o⟩
theorem conMay1_any (P:Int->Bool) (a0:Value) (xs:List Int) (n:Nat) (hn:n=xs.length) (A:Option Addr) (c B:Nat) (w:World) (hA:Sl w B 1 encInt1 A xs) (hB:B<=w.heap.size) (hl:xs.length<=9223372036854775807)
    (hF:∀(x:Int),x∈xs->∀(W:World),Bl w W->Calls Tryz.prog 181 #[.int .i64 x,a0] W fun e w'=>e= .returned (.bool (P x))/\Bl W w') :
    Calls Tryz.prog 60 #[.slice A n c,.func (.func 181) #[] #[a0]] w fun e w'=>e= .returned (.bool (xs.any P))/\Bl w w':=by
  have H:=hI (idxMay1_any P a0 xs n hn A c B w hA hB hl hF);have HI:=hI (idxB_any (p:=P) (xs:=xs));clear hA hn hF;go_enter Tryz.func60,Tryz.ntmps60;go_wp2_with (go_at_call 132;refine H.o.mono ?_;rintro e w1 ⟨rfl,hb1⟩;have Hb1:=hI hb1;clear hb1);go_ret;exact⟨ret_bool HI.o,Hb1.o⟩

theorem may_any (j:Job) (b:Bd) (fr:Int) (i g sb pb B:Nat) (w:World) (hb:BdIn w g sb pb j b fr) (hj:JIn w B j) (hB:B<=w.heap.size) (hG:JGood j.p) (hi:i<j.tasks.length) :
  Calls Tryz.prog 133 #[.pointer (some ⟨g,0,none⟩),.int .i64 (i:Int)] w fun e w'=>e= .returned (.bool (mayB j.p b.pl i))/\Bl w w':=by
 obtain⟨n,hn⟩:∃n,j.tasks.length=n:=⟨_,rfl⟩
 obtain⟨W0,HW0,hs0,HB0,HX00,HU0⟩:=boxes1 w (.cells #[.pointer (some ⟨g,0,none⟩)] 110);have h64:n<=64:=by have:=hG.nt;rw[j.nt] at this;omega
 have hlc:=hj.tl;have hc2:=hj.tc;rw[hn] at hlc;have hb0:=hb.below HB0.o;have hj0:=hj.below (HB0.o.mono hB);have HB:=hI (show ∀X:World,Bl W0 X->BdIn X g sb pb j b fr/\JIn X B j from fun X hX=>⟨hb.below (HU0.o X hX),hj.below ((HU0.o X hX).mono hB)⟩);obtain⟨tb,off,hTA,htb⟩:=hj.ta (by omega);obtain⟨_,_,c2,_⟩:=hj0.tcells hTA hi;have p0:=bc (j:=0) hb0.hg rfl;have p1:=bc (j:=3) hb0.hg rfl;have cp:=hb0.pl hi;rw[hn] at p0 p1;rw[hTA] at p0;have hTk:=hj0.tks _ (j.T_mem hi);have hnl:=hTk.nl;have hnc:=hTk.nc;have Hns:=hI hTk.ns;have HNd:=hI (hG.needs _ (j.Tp_mem hi));have hnn:=needs_len hG (j.Tp_mem hi);have HM:=hI (show mayB j.p b.pl i=(!b.pl.getD i false&& !(j.T i).p.needs.any (fun k=> !b.pl.getD k.toNat false)) by unfold mayB standB;rw[j.pT,any_not_all]);generalize j.T i=t at c2 Hns HNd hnn HM hnl hnc;generalize b.pl.getD i false=pl at cp HM;have v0:=bc (j:=0) (HX00.o W0 (Below.refl _ _)) rfl
 obtain⟨NA,hNA⟩:∃x,t.NA=x:=⟨_,rfl⟩
 obtain⟨nn,hnn'⟩:∃x,t.p.needs.length=x:=⟨_,rfl⟩
 rw[hNA,hnn'] at c2;rw[hNA] at Hns;rw[hnn'] at hnl hnn
 have HC:=hI (conMay1_any (fun k=> !b.pl.getD k.toNat false) (.pointer (some ⟨w.heap.size,0,none⟩)) t.p.needs nn hnn'.symm NA t.nc B W0 Hns.o (by omega) (by omega) (fun x hx W hW=>by
  have h1:=HNd.o x hx;obtain⟨q,hq⟩:∃q:Nat,x=q:=⟨x.toNat,by omega⟩
  subst hq;exact may1_any j b fr q w.heap.size g sb pb W (HB.o W hW).1 (by have:=h1.2;rw[j.nt] at this;omega) (bc (j:=0) (HX00.o W hW) rfl)))
 generalize t.p.needs.any (fun k=> !b.pl.getD k.toNat false)=an at HC HM;rw[hn] at hi;clear hb hj hG hn hb0 hj0 hTA hTk hNA hnn';go_enter Tryz.func133,Tryz.ntmps133;go_upto_region 1 with fail;rw[<- HW0.o];cases pl
 ·go_wp2_with (go_at_call 60;refine HC.o.mono ?_;rintro e w2 ⟨rfl,hb2⟩;have Hb2:=hI hb2;clear hb2);go_ret;exact⟨ret_bool (by rw[HM.o];simp),HU0.o _ Hb2.o⟩
 ·go_wp2;go_ret;exact⟨ret_bool (by rw[HM.o];simp),HB0.o⟩
set_option maxHeartbeats 1000000 in
theorem idxMay_any (P:Int->Bool) (b0:Value) (xs:List Int) (n:Nat) (hn:n=xs.length) (A:Option Addr) (c B:Nat) (w:World) (hA:Sl w B 1 encInt1 A xs) (hB:B<=w.heap.size) (hl:xs.length<=9223372036854775807)
    (hF:∀(x:Int),x∈xs->∀(W:World),Bl w W->Calls Tryz.prog 133 #[b0,.int .i64 x] W fun e w'=>e= .returned (.bool (P x))/\Bl W w') :
    Calls Tryz.prog 132 #[.slice A n c,.func (.func 133) #[b0] #[]] w fun e w'=>e= .returned (.int .i64 (idxB P xs))/\Bl w w':=by
  subst hn;have HA:=hI hA;have HF:=hI hF;clear hA hF;go_enter Tryz.func132,Tryz.ntmps132;go_wp2;go_loopw [8] (fun i wr=>∃k:Nat,k<=xs.length/\i= .int .i64 k/\Hid ((xs.take k).any P=false)/\Hid (Bl w wr)) (fun i _=>xs.length-(intOf i).toNat);case atStart=>exact⟨0,by omega,rfl,hI (by simp),hI (Below.refl _ _)⟩
  case round=>
    obtain⟨k,hk,rfl,Hno,Hb⟩:=hrel;have hsz:=Hb.o.size
    by_cases hlt:k<xs.length
    · obtain⟨b,off,rfl,hbB,hcells⟩:=(HA.o.below (Hb.o.mono hB)) (by omega)
      have h0:=hcells k hlt;clear hcells;have c0:wr.cell? ⟨b,off+k,none⟩=some (.int .i64 xs[k]):=(by have h:=h0 0 _ rfl;rwa [Nat.mul_one,Nat.add_zero] at h)
      have Hs:=hI (any_take_succ (p:=P) hlt Hno.o);have Hh:=hI (idxB_hit (p:=P) hlt Hno.o);have HK:=hI (fun(W:World) (hW:Bl w W)=>HF.o xs[k] (List.getElem_mem hlt) W hW);generalize xs[k]=x at c0 Hs Hh HK;clear h0;cases hp:P x
      · have HK2:=hI (fun(W:World) (hW:Bl w W)=>hp▸HK.o W hW)
        go_wp2_with (go_at_call 133;refine(HK2.o _ (by first | exact Hb.o | exact Hb.o.alloc (by omega) _)).mono ?_;rintro e w1 ⟨rfl,hb1⟩;have Hb1:=hI hb1;clear hb1);go_roundw;case rel=>exact⟨k+1,by omega,by go_num,hI (Hs.o hp),hI (by first | exact Hb.o.trans (Hb1.o.mono hsz) | exact(Hb.o.alloc (by omega) _).trans (Hb1.o.mono (by simp;omega)))⟩
        case measure=>simp[intOf];omega
      · have HK2:=hI (fun(W:World) (hW:Bl w W)=>hp▸HK.o W hW)
        go_wp2_with (go_at_call 133;refine(HK2.o _ (by first | exact Hb.o | exact Hb.o.alloc (by omega) _)).mono ?_;rintro e w1 ⟨rfl,hb1⟩;have Hb1:=hI hb1;clear hb1);go_ret;exact⟨ret_int (Hh.o hp).symm,(by first | exact Hb.o.trans (Hb1.o.mono hsz) | exact(Hb.o.alloc (by omega) _).trans (Hb1.o.mono (by simp;omega)))⟩
    · have HN:=hI (idxB_none (p:=P) (xs:=xs) (by rw[<- Hno.o,List.take_of_length_le (by omega)]))
      go_wp2;go_ret;exact⟨ret_int HN.o.symm,Hb.o⟩

theorem serial_any (j:Job) (fr:Int) (order:List Int) (g sb pb B m oc:Nat) (OA:Option Addr) (b:Bd) (w:World) (hm:m=order.length) (hm2:m<=64) (hmo:m<=oc) (hoc:oc<=9223372036854775807)
  (hb:BdIn w g sb pb j b fr) (hj:JIn w B j) (hBs:B<=sb) (hBp:B<=pb) (hne:g≠sb/\g≠pb/\sb≠pb) (hG:JGood j.p) (hs:BOk b) (hfr:0<=fr/\fr<=200000) (hord:∀x∈order,0<=x/\x<j.tasks.length) (hO:∀X,Kept2 w X sb pb->Sl X X.heap.size 1 encInt1 OA order) :
  Calls Tryz.prog 65 #[.pointer (some ⟨g,0,none⟩),.slice OA m oc] w fun e w'=>e= .returned (.bool (serialGo j.p fr order m b).1)/\Kept2 w w' sb pb/\BdIn w' g sb pb j (serialGo j.p fr order m b).2 fr:=by
 have HJ:=hI (show ∀X,Kept2 w X sb pb->JIn X B j from fun X hX=>hj.below (hX.below hBs hBp (by have:=blk_lt hb.hs;omega)));have hBw:B<=w.heap.size:=by have:=blk_lt hb.hs;omega
 have HG:=hI hG;have Hne:=hI hne;have Hm:=hI hm;have HOr:=hI hord;have HO:=hI hO;have Hb0:=hI hb;have Hs0:=hI hs;obtain⟨SG,hSG⟩:∃x,serialGo j.p fr order m b=x:=⟨_,rfl⟩
 have HSG:=hI hSG;rw[hSG];clear hb hj hG hne hm hord hO hs hSG;go_enter Tryz.func65,Tryz.ntmps65;go_wp2;go_loopw [8] (fun v8 wr=>∃(i:Nat) (bd:Bd),i<=m/\v8= .int .i64 i/\Hid (Kept2 w wr sb pb)/\Hid (BdIn wr g sb pb j bd fr)/\Hid (BOk bd)/\Hid (serialGo j.p fr order (m-i) bd=SG)) (fun v8 _=>m-(intOf v8).toNat);case atStart=>exact⟨0,b,by omega,rfl,hI (Kept2.refl _ _ _),Hb0,Hs0,HSG⟩
 case round=>
  obtain⟨i,bd,hi,rfl,HK,Hb,Hs,HSg⟩:=hrel;have hsk:=HK.o.size
  by_cases hlt:i<m
  ·obtain⟨ob,ooff,hoe,hob,_⟩:=(HO.o _ HK.o) (by have:=Hm.o;omega)
   subst hoe
   have HI:=hI (idxMay_any (fun x=>mayB j.p bd.pl x.toNat) (.pointer (some ⟨g,0,none⟩)) order m Hm.o (some ⟨ob,ooff,none⟩) oc wr.heap.size wr (HO.o _ HK.o) (Nat.le_refl _) (by have:=Hm.o;omega) (fun x hx W hW=>by
    have h1:=HOr.o x hx;obtain⟨q,hq⟩:∃q:Nat,x=q:=⟨x.toNat,by omega⟩
    subst hq;exact may_any j bd fr q g sb pb B W (Hb.o.below hW) ((HJ.o _ HK.o).below (hW.mono (by omega))) (by have:=hW.size;omega) HG.o (by omega)))
   obtain⟨f,hf⟩:∃f,m-i=f+1:=⟨m-i-1,by omega⟩
   have Hf:=hI hf;rw[hf] at HSg;clear hf
   by_cases hv:0<=idxB (fun x=>mayB j.p bd.pl x.toNat) order
   ·obtain⟨kk,hkk,hvk⟩:=idx_lt hv;have hfi:=find_hit hkk hvk;have ho1:=HOr.o _ (List.getElem_mem hkk)
    have HCk:=hI (show ∀X:World,Bl wr X->X.cell? ⟨ob,ooff+kk,none⟩=some (.int .i64 order[kk]) from fun X hX=>by
     obtain⟨b9,o9,e9,_,hc9⟩:=(HO.o X (HK.o.trans (Kept2.of_below hX))) (by omega)
     cases e9;have h:=hc9 kk hkk 0 _ rfl
     rwa [Nat.mul_one,Nat.add_zero] at h)
    rw[hvk] at HI;have hkm:kk<m:=by have:=Hm.o;omega
    generalize order[kk]=x at hfi ho1 HCk;obtain⟨q,hq⟩:∃q:Nat,x=q:=⟨x.toNat,by omega⟩
    subst hq;have hql:q<j.tasks.length:=by omega
    have hqp:q<j.p.tasks.length:=by rw[j.nt];exact hql
    cases hpv:placeV j.p bd fr q with
    | none=>
     have HR:=hI (show placeR j.p bd fr q=(false,bd) by unfold placeR;rw[hpv]);have HE:=hI (show SG=(false,bd) by rw[<- HSg.o];exact serialGo_no hfi (by rw[Int.toNat_natCast];exact hpv));clear hv hvk hfi hpv ho1;go_upto_region 6 with(go_at_call 132;refine HI.o.mono ?_;rintro e w2 ⟨rfl,hb2⟩;have hs2:=hb2.size;have Hb2:=hI hb2;clear hb2)
     have c0:=HCk.o w2 Hb2.o;have HPl:=hI (place_any j bd fr q g sb pb B w2 (Hb.o.below Hb2.o) ((HJ.o _ HK.o).below (Hb2.o.mono (by omega))) (by omega) Hne.o HG.o Hs.o hql hfr);rw[HR.o] at HPl;go_wp2_with (go_at_call 134;refine HPl.o.mono ?_;rintro e w3 ⟨rfl,hk3,hb3⟩;have Hk3:=hI hk3;have Hb3:=hI hb3;clear hk3 hb3);go_ret;rw[HE.o];exact⟨rfl,(HK.o.trans (Kept2.of_below Hb2.o)).trans Hk3.o,Hb3.o⟩
    | some st=>
     have HR:=hI (show placeR j.p bd fr q=(true,bd.put q st) by unfold placeR;rw[hpv]);have HE:=hI (show serialGo j.p fr order f (bd.put q st)=SG by rw[<- HSg.o];exact(serialGo_put hfi (by rw[Int.toNat_natCast];exact hpv)).symm);have HSn:=hI (show BOk (bd.put q st) from Hs.o.put ⟨(place_bd HG.o Hs.o hfr hqp hpv).1,(place_bd HG.o Hs.o hfr hqp hpv).2.1⟩);clear hv hvk hfi hpv ho1;go_upto_region 6 with(go_at_call 132;refine HI.o.mono ?_;rintro e w2 ⟨rfl,hb2⟩;have hs2:=hb2.size;have Hb2:=hI hb2;clear hb2)
     have c0:=HCk.o w2 Hb2.o;have HPl:=hI (place_any j bd fr q g sb pb B w2 (Hb.o.below Hb2.o) ((HJ.o _ HK.o).below (Hb2.o.mono (by omega))) (by omega) Hne.o HG.o Hs.o hql hfr);rw[HR.o] at HPl;go_wp2_with (go_at_call 134;refine HPl.o.mono ?_;rintro e w3 ⟨rfl,hk3,hb3⟩;have Hk3:=hI hk3;have Hb3:=hI hb3;clear hk3 hb3);go_roundw;case rel=>exact⟨i+1,bd.put q st,by omega,by go_num,hI ((HK.o.trans (Kept2.of_below Hb2.o)).trans Hk3.o),Hb3,HSn,hI (by rw[show m-(i+1)=f by have:=Hf.o;omega];exact HE.o)⟩
     case measure=>simp[intOf];omega
   ·have HE:=hI (show SG=(true,bd) by rw[<- HSg.o];exact serialGo_none (find_no hv));generalize idxB (fun x=>mayB j.p bd.pl x.toNat) order=iv at hv HI;go_wp2_with (go_at_call 132;refine HI.o.mono ?_;rintro e w2 ⟨rfl,hb2⟩;have Hb2:=hI hb2;clear hb2);go_ret;rw[HE.o];exact⟨rfl,HK.o.trans (Kept2.of_below Hb2.o),Hb.o.below Hb2.o⟩
  ·have HE:=hI (show SG=(true,bd) by rw[<- HSg.o,show m-i=0 by omega];rfl);go_wp2;go_ret;rw[HE.o];exact⟨rfl,HK.o,Hb.o⟩
end Go.Proofs.YtjpgnfekbojcaaaGreat
namespace W7
structure K where
 t:Int
 lo:Int
 hi:Int
deriving Inhabited
section
variable (r f:Int)
end
structure V where
 t:Int
 v:Int
section
variable (r f:Int)
variable {r f}
def Sorted (l:List V):Prop:=l.Pairwise fun a b=>a.t<=b.t
end
section
variable {r f:Int}
end
end W7
namespace W7
open Go
theorem flatMap_get {α:Type} {enc:α->List Value} {k:Nat} (hk:∀x,(enc x).length=k):∀(l:List α) (i j:Nat) (hi:i<l.length),j<k->(l.flatMap enc)[i*k+j]? =(enc l[i])[j]?
 | [],i,j,hi,_=>absurd hi (by simp)
 | a::l,0,j,_,hj=>by
  rw[List.flatMap_cons,List.getElem?_append_left (by rw[hk];omega)];simp
 | a::l,i+1,j,hi,hj=>by
  rw[List.flatMap_cons,List.getElem?_append_right (by rw[hk,Nat.add_mul];omega),hk];have:(i+1)*k+j-k=i*k+j:=by rw[Nat.add_mul];omega
  rw[this,flatMap_get hk l i j (by simpa using hi) hj]
  rfl
theorem flatMap_len {α:Type} {enc:α->List Value} {k:Nat} (hk:∀x,(enc x).length=k) (l:List α):(l.flatMap enc).length=l.length*k:=by
 induction l with
 | nil=>simp
 | cons a l ih=>rw[List.flatMap_cons,List.length_append,hk,ih,List.length_cons,Nat.add_mul];omega
section
variable {r f:Int}
end
end W7
namespace W7
open Go Go.RowKit Go.Shelf Go.Sort Go.Proofs
theorem flatK_flatMap {α:Type} [Inhabited α] {enc:α->List Value} {k:Nat} (hk:∀x,(enc x).length=k) (h0:0<k) (l:List α):flatK enc k l.toArray=(l.flatMap enc).toArray:=by
 apply ext_get!
 ·simp[flatMap_len hk]
 ·intro t ht;simp only[size_flatK,List.size_toArray] at ht;rw[get_flatK _ _ _ _ (by simpa using ht)];have hi:t/k<l.length:=Nat.div_lt_of_lt_mul (by rw[Nat.mul_comm];exact ht);have hj:t%k<k:=Nat.mod_lt _ h0;have e:=flatMap_get hk l (t/k) (t%k) hi hj;rw[Nat.mul_comm,Nat.div_add_mod] at e;have hlt:t<(l.flatMap enc).length:=by rw[flatMap_len hk];exact ht
  have h2:t%k<(enc l[t/k]).length:=by rw[hk];exact hj
  rw[List.getElem?_eq_getElem hlt,List.getElem?_eq_getElem h2] at e;have e':=Option.some.inj e;rw[getElem!_pos l.toArray (t/k) (by simpa using hi),getElem!_pos (l.flatMap enc).toArray t (by simpa using hlt)];simp only[List.getElem_toArray];rw[getElem!_pos (enc l[t/k]) (t%k) h2];exact e'.symm
theorem holdsK_of_own {α:Type} [Inhabited α] {enc:α->List Value} {k:Nat} (hk:∀x,(enc x).length=k) (h0:0<k) {w:World} {base g cap n e:Nat} {l:List α}
  (h:w.ownsRow base e k (.slice (some ⟨g,0,none⟩) n cap) n (l.flatMap enc)):HoldsK enc k w g 0 l.toArray:=by
 intro j hj;rw[flatK_flatMap hk h0] at hj ⊢;have hj':j<(l.flatMap enc).length:=by simpa using hj
 have hn:n*k=(l.flatMap enc).length:=h.1.symm;rw[Nat.zero_add];refine⟨?_,h.frozenAt j⟩;rw[h.cellAt j (by omega),List.getElem?_eq_getElem hj'];simp[List.getElem?_eq_getElem hj']
theorem own_of_sorted {α:Type} [Inhabited α] {enc:α->List Value} {k:Nat} (hk:∀x,(enc x).length=k) (h0:0<k) {w:World} {base g cap n e m:Nat} {os:Array Obj} {l l':List α}
  (h:w.ownsRow base e k (.slice (some ⟨g,0,none⟩) n cap) n (l.flatMap enc)) (hl:l'.length=l.length) :
  (sortWorldK enc k w g 0 m l'.toArray os).ownsRow base e k (.slice (some ⟨g,0,none⟩) n cap) n (l'.flatMap enc):=by
 have hn:n*k=l.length*k:=by have:=h.1;rw[flatMap_len hk] at this;omega
 rcases h.2 with⟨e0,_⟩ | ⟨g',cap',cur,e0,hb,hg,hnc,hm,hs,ht⟩
 ·cases e0
 ·injection e0 with e1 _ e3
  injection e1 with e1
  injection e1 with e1
  subst e1;subst e3;have hglt:g<w.heap.size:=(Array.getElem?_eq_some_iff.1 hg).1;refine⟨by rw[flatMap_len hk,hl,hn],.inr ⟨g,cap,putCells id 0 (l'.flatMap enc).toArray cur,rfl,hb,?_,hnc,hm,by simpa [putCells] using hs,?_⟩⟩
  ·unfold sortWorldK putRowK;rw[flatK_flatMap hk h0,heap_grow_old _ _ (by simpa using hglt)];simp[putRow,mapBlock,Sort.ahead,Array.getElem?_modify,hg,onCells]
  ·have hcs:n*k<=cur.size:=by rw[hs];exact Nat.mul_le_mul_right _ hnc
   have hll:(l'.flatMap enc).length=n*k:=by rw[flatMap_len hk,hl,hn]
   apply List.ext_getElem?;intro j
   by_cases hj:j<n*k
   ·rw[List.getElem?_take_of_lt hj,Array.getElem?_toList];simp only[putCells,Array.getElem?_mapIdx,Array.getElem?_eq_getElem (show j<cur.size by omega),Option.map_some];have hjl:j<(l'.flatMap enc).length:=by omega
    rw[if_pos ⟨Nat.zero_le _,by rw[List.size_toArray];omega⟩,List.getElem?_eq_getElem hjl];simp[List.getElem?_eq_getElem hjl]
   ·rw[List.getElem?_take_eq_none (by omega),List.getElem?_eq_none (by omega)]
theorem grown_of_sorted {α:Type} [Inhabited α] {enc:α->List Value} {k:Nat} {w:World} {g m:Nat} {os:Array Obj} {d:Array α}:w.grownBy (sortWorldK enc k w g 0 m d os) (some g):=by
 refine⟨rfl,rfl,rfl,by simp[sortWorldK,putRowK,putRow,mapBlock,Sort.ahead,grow],fun i hi hne=> ?_⟩;unfold sortWorldK putRowK;rw[heap_grow_old _ _ (by simpa [putRow,mapBlock,Sort.ahead] using hi)];have:g≠i:=fun e=>hne (by rw[e])
 simp[putRow,mapBlock,Sort.ahead,Array.getElem?_modify,this]
end W7
namespace Go.Proofs.YtjpgnfekbojcaaaGreat
open Go.RowKit W7 W8
attribute [local go_sem] Oper.semAt_some
theorem lenI:∀x:Int,(encInt1 x).length=1:=fun _=>rfl
theorem flat_lenI (l:List Int):(l.flatMap encInt1).length=l.length*1:=by
 induction l with
 | nil=>rfl
 | cons a r ih=>rw[List.flatMap_cons,List.length_append,ih,lenI,List.length_cons];omega
theorem src_I {w:World} {B n:Nat} {l:List Int} {ad:Addr} (h:Sl w B 1 encInt1 (some ad) l) (hn:n=l.length):Src w 1 (some ad) n (l.flatMap encInt1):=by
 refine .inr ⟨ad,rfl,by rw[flat_lenI,hn],fun j u hu=> ?_⟩
 have hj:j<l.length*1:=by
  have:=(List.getElem?_eq_some_iff.1 hu).1
  rwa [flat_lenI] at this
 obtain⟨b,off,e1,_,hc⟩:=h (by omega);cases e1;have hi:j/1<l.length:=by omega
 have hu2:(encInt1 l[j/1])[j%1]? =some u:=by
  rw[<- flatMap_get (enc:=encInt1) (k:=1) lenI l (j/1) (j%1) hi (by omega),show j/1*1+j%1=j by omega];exact hu
 have h1:=hc (j/1) hi (j%1) u hu2
 have h2:(⟨b,off,none⟩:Addr).add j=⟨b,off+j/1*1+j%1,none⟩:=by
  rw[show off+j/1*1+j%1=off+j by omega];unfold Addr.add
  split<;>simp_all
 rw[h2];exact h1
theorem cloneI_any (l:List Int) (A:Option Addr) (n c:Nat) (w:World) (hn:n=l.length) (hA:Sl w w.heap.size 1 encInt1 A l) (hz:A=none->n=0/\c=0) (hl:n<=10000000) :
  Calls Tryz.prog 140 #[.slice A n c] w fun e w'=>∃v,e= .returned v/\w'.ownsRow w.heap.size 3 1 v n (l.flatMap encInt1)/\Bl w w':=by
 have heq:=fun(w:World) (a:Option Addr) (n c:Nat)=>Lib.run_eql_slice_nil (P:=Tryz.prog) w 26 3 a n c 0 0 Tryz.underlying26
 cases A with
 | none=>
  obtain⟨rfl,rfl⟩:=hz rfl;have hln:l=[]:=List.length_eq_zero_iff.1 hn.symm;subst hln;clear hA hn hl hz;go_enter Tryz.func140,Tryz.ntmps140;go_wp2;go_ret;exact⟨_,rfl,World.ownsRow_nil _ _ _ _,Below.refl _ _⟩
 | some ad=>
  have HS:=hI (src_I (w:=w.alloc (.cells #[] 3)) (ad:=ad) (hA.below ((Below.refl _ _).alloc (Nat.le_refl _) _)) hn)
  have Hone:Hid (∀u∈l.flatMap encInt1,u.oneCell'=true):=by
   intro u hu;obtain⟨x,_,hx⟩:=List.mem_flatMap.1 hu;simp only[encInt1,List.mem_cons,List.not_mem_nil,or_false] at hx;rcases hx with rfl;rfl
  have HO:=hI (World.ownsRow_lit (base:=w.heap.size) (e:=3) (size:=1) w #[] 0 (Nat.le_refl _) (by unfold maxLen;omega) rfl);clear hA hz hn;go_enter Tryz.func140,Tryz.ntmps140;go_wp2_with (at_builtin;refine wpList_appendL rfl _ _ 26 rfl w.heap.size 3 _ 1 8 elemI _ _ _ rfl HO.o _ _ _ _ rfl HS.o Hone.o (by omega) (by simp) ?_;intro v1 w1 hown1 hb1 hsz1 hg1 hblk1;have Hown1:=hI hown1;have Hb1:=hI hb1;have Hsz1:=hI hsz1;clear hown1 hb1 hsz1 hg1 hblk1);go_ret;exact⟨_,rfl,by have:=Hown1.o;simpa using this,((Below.refl _ _).alloc (Nat.le_refl _) _).trans Hb1.o⟩
theorem lenU:∀x:JUse,(encUse x).length=2:=fun _=>rfl
theorem flat_lenU (l:List JUse):(l.flatMap encUse).length=l.length*2:=by
 induction l with
 | nil=>rfl
 | cons a r ih=>rw[List.flatMap_cons,List.length_append,ih,lenU,List.length_cons];omega
theorem src_U {w:World} {B n:Nat} {l:List JUse} {ad:Addr} (h:Sl w B 2 encUse (some ad) l) (hn:n=l.length):Src w 2 (some ad) n (l.flatMap encUse):=by
 refine .inr ⟨ad,rfl,by rw[flat_lenU,hn],fun j u hu=> ?_⟩
 have hj:j<l.length*2:=by
  have:=(List.getElem?_eq_some_iff.1 hu).1
  rwa [flat_lenU] at this
 obtain⟨b,off,e1,_,hc⟩:=h (by omega);cases e1;have hi:j/2<l.length:=by omega
 have hu2:(encUse l[j/2])[j%2]? =some u:=by
  rw[<- flatMap_get (enc:=encUse) (k:=2) lenU l (j/2) (j%2) hi (by omega),show j/2*2+j%2=j by omega];exact hu
 have h1:=hc (j/2) hi (j%2) u hu2
 have h2:(⟨b,off,none⟩:Addr).add j=⟨b,off+j/2*2+j%2,none⟩:=by
  rw[show off+j/2*2+j%2=off+j by omega];unfold Addr.add
  split<;>simp_all
 rw[h2];exact h1
theorem elemU:Elem Tryz.prog 44 48 (.agg #[.int .i64 0,.int .i64 0]) 2 16:=Elem.mk' Tryz.underlying44 (by kernel_rfl) rfl (by decide) (by decide)
theorem cloneU_any (l:List JUse) (A:Option Addr) (n c:Nat) (w:World) (hn:n=l.length) (hA:Sl w w.heap.size 2 encUse A l) (hz:A=none->n=0/\c=0) (hl:n<=10000000) :
  Calls Tryz.prog 141 #[.slice A n c] w fun e w'=>∃v,e= .returned v/\w'.ownsRow w.heap.size 48 2 v n (l.flatMap encUse)/\Bl w w':=by
 have heq:=fun(w:World) (a:Option Addr) (n c:Nat)=>Lib.run_eql_slice_nil (P:=Tryz.prog) w 44 48 a n c 0 0 Tryz.underlying44
 cases A with
 | none=>
  obtain⟨rfl,rfl⟩:=hz rfl;have hln:l=[]:=List.length_eq_zero_iff.1 hn.symm;subst hln;clear hA hn hl hz;go_enter Tryz.func141,Tryz.ntmps141;go_wp2;go_ret;exact⟨_,rfl,World.ownsRow_nil _ _ _ _,Below.refl _ _⟩
 | some ad=>
  have HS:=hI (src_U (w:=w.alloc (.cells #[] 48)) (ad:=ad) (hA.below ((Below.refl _ _).alloc (Nat.le_refl _) _)) hn)
  have Hone:Hid (∀u∈l.flatMap encUse,u.oneCell'=true):=by
   intro u hu;obtain⟨x,_,hx⟩:=List.mem_flatMap.1 hu;simp only[encUse,List.mem_cons,List.not_mem_nil,or_false] at hx;rcases hx with rfl | rfl<;>rfl
  have HO:=hI (World.ownsRow_lit (base:=w.heap.size) (e:=48) (size:=2) w #[] 0 (Nat.le_refl _) (by unfold maxLen;omega) rfl);clear hA hz hn;go_enter Tryz.func141,Tryz.ntmps141;go_wp2_with (at_builtin;refine wpList_appendL rfl _ _ 44 rfl w.heap.size 48 _ 2 16 elemU _ _ _ rfl HO.o _ _ _ _ rfl HS.o Hone.o (by omega) (by simp) ?_;intro v1 w1 hown1 hb1 hsz1 hg1 hblk1;have Hown1:=hI hown1;have Hb1:=hI hb1;have Hsz1:=hI hsz1;clear hown1 hb1 hsz1 hg1 hblk1);go_ret;exact⟨_,rfl,by have:=Hown1.o;simpa using this,((Below.refl _ _).alloc (Nat.le_refl _) _).trans Hb1.o⟩
theorem lenP:∀x:JSpan,(encJSpan x).length=2:=fun _=>rfl
theorem flat_lenP (l:List JSpan):(l.flatMap encJSpan).length=l.length*2:=by
 induction l with
 | nil=>rfl
 | cons a r ih=>rw[List.flatMap_cons,List.length_append,ih,lenP,List.length_cons];omega
theorem src_P {w:World} {B n:Nat} {l:List JSpan} {ad:Addr} (h:Sl w B 2 encJSpan (some ad) l) (hn:n=l.length):Src w 2 (some ad) n (l.flatMap encJSpan):=by
 refine .inr ⟨ad,rfl,by rw[flat_lenP,hn],fun j u hu=> ?_⟩
 have hj:j<l.length*2:=by
  have:=(List.getElem?_eq_some_iff.1 hu).1
  rwa [flat_lenP] at this
 obtain⟨b,off,e1,_,hc⟩:=h (by omega);cases e1;have hi:j/2<l.length:=by omega
 have hu2:(encJSpan l[j/2])[j%2]? =some u:=by
  rw[<- flatMap_get (enc:=encJSpan) (k:=2) lenP l (j/2) (j%2) hi (by omega),show j/2*2+j%2=j by omega];exact hu
 have h1:=hc (j/2) hi (j%2) u hu2
 have h2:(⟨b,off,none⟩:Addr).add j=⟨b,off+j/2*2+j%2,none⟩:=by
  rw[show off+j/2*2+j%2=off+j by omega];unfold Addr.add
  split<;>simp_all
 rw[h2];exact h1
theorem elemP:Elem Tryz.prog 41 50 (.agg #[.int .i64 0,.int .i64 0]) 2 16:=Elem.mk' Tryz.underlying41 (by kernel_rfl) rfl (by decide) (by decide)
theorem cloneP_any (l:List JSpan) (A:Option Addr) (n c:Nat) (w:World) (hn:n=l.length) (hA:Sl w w.heap.size 2 encJSpan A l) (hz:A=none->n=0/\c=0) (hl:n<=10000000) :
  Calls Tryz.prog 142 #[.slice A n c] w fun e w'=>∃v,e= .returned v/\w'.ownsRow w.heap.size 50 2 v n (l.flatMap encJSpan)/\Bl w w':=by
 have heq:=fun(w:World) (a:Option Addr) (n c:Nat)=>Lib.run_eql_slice_nil (P:=Tryz.prog) w 41 50 a n c 0 0 Tryz.underlying41
 cases A with
 | none=>
  obtain⟨rfl,rfl⟩:=hz rfl;have hln:l=[]:=List.length_eq_zero_iff.1 hn.symm;subst hln;clear hA hn hl hz;go_enter Tryz.func142,Tryz.ntmps142;go_wp2;go_ret;exact⟨_,rfl,World.ownsRow_nil _ _ _ _,Below.refl _ _⟩
 | some ad=>
  have HS:=hI (src_P (w:=w.alloc (.cells #[] 50)) (ad:=ad) (hA.below ((Below.refl _ _).alloc (Nat.le_refl _) _)) hn)
  have Hone:Hid (∀u∈l.flatMap encJSpan,u.oneCell'=true):=by
   intro u hu;obtain⟨x,_,hx⟩:=List.mem_flatMap.1 hu;simp only[encJSpan,List.mem_cons,List.not_mem_nil,or_false] at hx;rcases hx with rfl | rfl<;>rfl
  have HO:=hI (World.ownsRow_lit (base:=w.heap.size) (e:=50) (size:=2) w #[] 0 (Nat.le_refl _) (by unfold maxLen;omega) rfl);clear hA hz hn;go_enter Tryz.func142,Tryz.ntmps142;go_wp2_with (at_builtin;refine wpList_appendL rfl _ _ 41 rfl w.heap.size 50 _ 2 16 elemP _ _ _ rfl HO.o _ _ _ _ rfl HS.o Hone.o (by omega) (by simp) ?_;intro v1 w1 hown1 hb1 hsz1 hg1 hblk1;have Hown1:=hI hown1;have Hb1:=hI hb1;have Hsz1:=hI hsz1;clear hown1 hb1 hsz1 hg1 hblk1);go_ret;exact⟨_,rfl,by have:=Hown1.o;simpa using this,((Below.refl _ _).alloc (Nat.le_refl _) _).trans Hb1.o⟩
theorem cmpOr_any (x y:Int) (b c:Nat) (w:World) (h0:w.cell? ⟨b,0,none⟩=some (.int .i64 x)) (h1:w.cell? ⟨b,1,none⟩=some (.int .i64 y)) :
  Calls Tryz.prog 125 #[.slice (some ⟨b,0,none⟩) 2 c] w fun e w'=>e= .returned (.int .i64 (if x=0 then y else x))/\w'=w:=by
 cases hx:(x==0)
 ·have hx':(x != 0)=true:=by simp[bne,hx]
  have he:(if x=0 then y else x)=x:=if_neg (fun h=>by rw[h] at hx;cases hx);rw[he];go_enter Tryz.func125,Tryz.ntmps125;go_wp2;refine wp_loop_rounds 1 ?_;rw[rounds_succ];go_wp2;go_ret;exact⟨rfl,rfl⟩
 ·obtain rfl:=eq_of_beq hx;rw[if_pos rfl];cases hy:(y==0)
  ·have hy':(y != 0)=true:=by simp[bne,hy]
   go_enter Tryz.func125,Tryz.ntmps125;go_wp2;refine wp_loop_rounds 2 ?_;rw[rounds_succ];go_wp2;rw[rounds_succ];go_wp2;go_ret;exact⟨rfl,rfl⟩
  ·obtain rfl:=eq_of_beq hy;go_enter Tryz.func125,Tryz.ntmps125;go_wp2;refine wp_loop_rounds 3 ?_;rw[rounds_succ];go_wp2;rw[rounds_succ];go_wp2;rw[rounds_succ];go_wp2;go_ret;exact⟨rfl,rfl⟩
end Go.Proofs.YtjpgnfekbojcaaaGreat
namespace W8
open W7
def lonGo (j:JobP):Nat->Nat->Int
 | 0,_=>0
 | f+1,n=>(j.tasks.getD n default).takes+(List.range j.tasks.length).foldl (fun m k=>if (j.tasks.getD k default).needs.contains (n:Int) then max m (lonGo j f k) else m) 0
def lonV (j:JobP) (n:Nat):Int:=lonGo j (j.tasks.length+1) n
def nextB (j:JobP) (last left:Int) (n:Nat):Bool:=(decide (last<0)||(j.tasks.getD n default).needs.contains last)&&decide (left<=lonV j n)
def chainGo (j:JobP):Nat->Int->Int->List Int
 | 0,_,_=>[]
 | f+1,last,left=>match (List.range j.tasks.length).find? (nextB j last left) with
  | none=>[]
  | some n=>(n:Int)::if left-(j.tasks.getD n default).takes<=0 then[] else chainGo j f n (left-(j.tasks.getD n default).takes)
def chainV (j:JobP) (left:Int):List Int:=chainGo j (j.tasks.length+1) (-1) left
def workTo (j:JobP) (r:Int):Nat->Int
 | 0=>0
 | i+1=>workTo j r i+(j.tasks.getD i default).takes*pieces r (j.tasks.getD i default).uses
def workV (j:JobP) (r:Int):Int:=workTo j r j.tasks.length
def offTo (m:Int):List JSpan->Int
 | []=>0
 | s::l=>max 0 (min (s.hi+1) m-s.lo)+offTo m l
def roomV (r:ResP) (m:Int):Int:=max (min m 1099511627776-offTo m r.off) 0*r.many
def bisGo (r:ResP) (w:Int):Nat->Int->Int->Int
 | 0,lo,_=>lo
 | f+1,lo,hi=>if lo<hi then(if roomV r ((lo+hi+1)/2)<w then bisGo r w f ((lo+hi+1)/2) hi else bisGo r w f lo ((lo+hi+1)/2-1)) else lo
def bisV (r:ResP) (w:Int):Int:=bisGo r w 100001 (-1) 100000
structure FloorP where
 minutes:Int
 chain:List Int
 res:Int
deriving Inhabited
def longTo (j:JobP):Nat->Int
 | 0=>0
 | i+1=>max (longTo j i) (lonV j i)
def longV (j:JobP):Int:=min (longTo j j.tasks.length) 100001
def flStep (j:JobP) (i:Nat) (f:FloorP):FloorP:=
 if f.minutes<bisV (j.res.getD i default) (workV j i)+1 then⟨bisV (j.res.getD i default) (workV j i)+1,[],i⟩ else f
def flTo (j:JobP):Nat->FloorP
 | 0=>⟨longV j,chainV j (longV j),0⟩
 | i+1=>flStep j i (flTo j i)
def floorV (j:JobP):FloorP:=if jobErr j≠0 then⟨0,[],0⟩ else if j.tasks.length=0 then⟨0,[],0⟩ else flTo j j.res.length
def spLe (a b:JSpan):Bool:=decide (a.lo<b.lo)||(decide (a.lo=b.lo)&&decide (a.hi<=b.hi))
def insS (x:JSpan):List JSpan->List JSpan
 | []=>[x]
 | y::l=>if spLe x y then x::y::l else y::insS x l
def sortS:List JSpan->List JSpan
 | []=>[]
 | x::l=>insS x (sortS l)
def joinGo:List JSpan->List JSpan->List JSpan
 | out,[]=>out
 | out,x::l=>if 0<out.length/\x.lo<=(out.getD (out.length-1) default).hi+1 then joinGo (out.dropLast++[⟨(out.getD (out.length-1) default).lo,max (out.getD (out.length-1) default).hi x.hi⟩]) l else joinGo (out++[x]) l
def joinedV (l:List JSpan) (s:JSpan):List JSpan:=joinGo [] (sortS (l++[s]))
def failOff (j:JobP) (r:Nat) (now until':Int):List JSpan:=joinedV (j.res.getD r default).off ⟨now,until'⟩
def failJob (j:JobP) (r:Nat) (now until':Int):JobP:=⟨j.tasks,j.res.set r { j.res.getD r default with off:=failOff j r now until' }⟩
def usesB (r:Int) (t:TaskP):Bool:=t.uses.any (fun u=>u.res==r)
def keptB (j:JobP) (st:List Int) (now r:Int) (i:Nat):Bool:=
 decide (st.getD i 0<now)&& !(usesB r (j.tasks.getD i default)&&decide (now<st.getD i 0+(j.tasks.getD i default).takes))
def insO (st:List Int) (x:Int):List Int->List Int
 | []=>[x]
 | y::l=>if st.getD x.toNat 0<st.getD y.toNat 0 then x::y::l else y::insO st x l
def sortO (st:List Int) (l:List Int):List Int:=l.foldl (fun acc x=>insO st x acc) []
def failOrd (j:JobP) (st:List Int) (now r:Int):List Int:=sortO st (((List.range j.tasks.length).filter (fun i=> !keptB j st now r i)).map (fun(i:Nat)=>(i:Int)))
def failBd (j:JobP) (st:List Int) (now r:Int):Bd:=
 ⟨(List.range j.tasks.length).map (fun i=>if keptB j st now r i then st.getD i 0 else 0),(List.range j.tasks.length).map (keptB j st now r)⟩
def failRun (j:JobP) (st:List Int) (now r until':Int):Bool×Bd:=
 serialGo (failJob j r.toNat now until') now (failOrd j st now r) (failOrd j st now r).length (failBd j st now r)
def failErr (j:JobP) (st:List Int) (now r until':Int):Int:=
 if lnErr j st≠0 then lnErr j st else if withinB r 0 ((j.res.length:Int)-1) then
  (if isTm now&&isTm until'&&decide (now<=until') then
   (if 16<(failOff j r.toNat now until').length then 3 else if (failRun j st now r until').1 then 0 else 9) else 1) else 7
end W8
namespace W8
open Go.Sort
variable {α:Type} [Inhabited α] {lt lu:α->α->Bool}
theorem outer_go (a b i:Nat) (d:Array α) (h:i<b):insOuter lt a b i d=insOuter lt a b (i+1) (insInner lt a i d):=by rw[insOuter,if_pos h]
theorem outer_stop (a b i:Nat) (d:Array α) (h: ¬i<b):insOuter lt a b i d=d:=by rw[insOuter,if_neg h]
theorem inner_congr:∀(j:Nat) (d:Array α),j<d.size->(∀p,p<j->lt d[j]! d[p]! =lu d[j]! d[p]!)->insInner lt 0 j d=insInner lu 0 j d
 | 0,d,_,_=>rfl
 | j+1,d,hj,h=>by
  simp only[insInner];rw[h j (by omega)]
  split
  ·have g:=swp_get d hj (show j<d.size by omega);refine inner_congr j _ (by rw[swp_size];omega) (fun p hp=> ?_);rw[g,g];simp only[if_true,show p≠j by omega,show p≠j+1 by omega,if_false];have:=h p (by omega)
   by_cases hjj:j=j+1
   ·omega
   ·simpa [hjj] using this
  ·rfl
theorem inner_above:∀(j:Nat) (d:Array α) (q:Nat),j<d.size->j<q->(insInner lt 0 j d)[q]! =d[q]!
 | 0,d,q,_,_=>rfl
 | j+1,d,q,hj,hq=>by
  simp only[insInner]
  split
  ·rw[inner_above j _ q (by rw[swp_size];omega) (by omega),swp_other d (j+1) j q (by omega) (by omega)]
  ·rfl
theorem inner_size:∀(j:Nat) (d:Array α),(insInner lt 0 j d).size=d.size
 | 0,d=>rfl
 | j+1,d=>by
  simp only[insInner]
  split
  ·rw[inner_size j _,swp_size]
  ·rfl
theorem inner_from:∀(j:Nat) (d:Array α) (p:Nat),j<d.size->p<=j->∃p',p'<=j/\(insInner lt 0 j d)[p]! =d[p']!
 | 0,d,p,_,hp=>⟨p,hp,rfl⟩
 | j+1,d,p,hj,hp=>by
  simp only[insInner]
  split
  ·have g:=swp_get d hj (show j<d.size by omega)
   by_cases he:p<=j
   ·obtain⟨p',h1,h2⟩:=inner_from j (swp d (j+1) j) p (by rw[swp_size];omega) he;rw[h2,g]
    by_cases hj1:p'=j
    ·exact⟨j+1,Nat.le_refl _,by first | rw[if_pos hj1] | rw[if_neg (by omega),if_pos hj1]⟩
    ·exact⟨p',by omega,by rw[if_neg (by omega),if_neg (by omega)]⟩
   ·have hpe:p=j+1:=by omega
    subst hpe;rw[inner_above j _ (j+1) (by rw[swp_size];omega) (by omega),g];exact⟨j,by omega,by simp⟩
  ·exact⟨p,hp,rfl⟩
structure From (o d:Array α) (i:Nat):Prop where
 size:d.size=o.size
 lo:∀p,p<i->∃p',p'<i/\d[p]! =o[p']!
 hi:∀q,i<=q->d[q]! =o[q]!
theorem From.step {o d:Array α} {i:Nat} (h:From o d i) (hi:i<o.size):From o (insInner lt 0 i d) (i+1):=by
 have hid:i<d.size:=by rw[h.size];exact hi
 refine⟨by rw[inner_size,h.size],fun p hp=> ?_,fun q hq=>by rw[inner_above i d q hid (by omega),h.hi q (by omega)]⟩;obtain⟨p',h1,h2⟩:=inner_from (lt:=lt) i d p hid (by omega);rw[h2]
 by_cases he:p'=i
 ·exact⟨i,by omega,by rw[he,h.hi i (Nat.le_refl _)]⟩
 ·obtain⟨p'',h3,h4⟩:=h.lo p' (by omega);exact⟨p'',by omega,h4⟩
theorem outer_congr {o:Array α} (ho:∀p q,p<q->q<o.size->lt o[q]! o[p]! =lu o[q]! o[p]!):∀(k i:Nat) (d:Array α),o.size-i=k->From o d i->insOuter lt 0 o.size i d=insOuter lu 0 o.size i d
 | 0,i,d,hk,h=>by rw[outer_stop _ _ _ _ (by omega),outer_stop _ _ _ _ (by omega)]
 | k+1,i,d,hk,h=>by
  have hi:i<o.size:=by omega
  rw[outer_go _ _ _ _ hi,outer_go _ _ _ _ hi]
  have he:insInner lt 0 i d=insInner lu 0 i d:=inner_congr i d (by rw[h.size];exact hi) (fun p hp=>by
   obtain⟨p',h1,h2⟩:=h.lo p hp;rw[h2,h.hi i (Nat.le_refl _)];exact ho p' i (by omega) hi)
  rw[<- he];exact outer_congr ho k (i+1) _ (by omega) (h.step hi)
theorem ins_congr {o:Array α} (ho:∀p q,p<q->q<o.size->lt o[q]! o[p]! =lu o[q]! o[p]!):insertionSort lt o 0 o.size=insertionSort lu o 0 o.size:=by
 unfold insertionSort
 by_cases h0:o.size<=1
 ·rw[outer_stop _ _ _ _ (by omega),outer_stop _ _ _ _ (by omega)]
 ·exact outer_congr ho _ 1 o rfl ⟨rfl,fun p hp=>⟨p,hp,rfl⟩,fun _ _=>rfl⟩
theorem perm_pair_eq {α:Type} {R:α->α->Prop} (ha:∀a b,R a b->R b a->a=b):∀ {l l':List α},l.Perm l'->l.Pairwise R->l'.Pairwise R->l=l'
 | [],l',hp,_,_=>by rw[List.nil_perm.1 hp]
 | x::l,[],hp,_,_=>absurd hp.length_eq (by simp)
 | x::l,y::l',hp,h,h'=>by
  have h1:=List.pairwise_cons.1 h;have h2:=List.pairwise_cons.1 h'
  have hxy:x=y:=by
   rcases List.mem_cons.1 (hp.mem_iff.2 (List.mem_cons_self ..)) with e | e
   ·exact e.symm
   ·rcases List.mem_cons.1 (hp.mem_iff.1 (List.mem_cons_self ..)) with e' | e'
    ·exact e'
    ·exact ha x y (h1.1 y e) (h2.1 x e')
  subst hxy;rw[perm_pair_eq ha ((List.perm_cons x).1 hp) h1.2 h2.2]
def ltS (st:List Int) (x y:Int):Bool:=decide (st.getD x.toNat 0<st.getD y.toNat 0)
def luS (st:List Int) (x y:Int):Bool:=ltS st x y||(decide (st.getD x.toNat 0=st.getD y.toNat 0)&&decide (x<y))
theorem swo_luS (st:List Int):SWO (luS st) where
 irrefl x:=by simp[luS,ltS]
 trans x y z h1 h2:=by simp[luS,ltS] at *;omega
 ntrans x y z h1 h2:=by simp[luS,ltS] at *;omega
def LeS (st:List Int) (a b:Int):Prop:=luS st b a=false
theorem leS_anti {st:List Int} (a b:Int) (h1:LeS st a b) (h2:LeS st b a):a=b:=by
 simp[LeS,luS,ltS] at *;omega
theorem insO_perm (st:List Int) (x:Int):∀l:List Int,(insO st x l).Perm (x::l)
 | []=>List.Perm.refl _
 | y::l=>by
  unfold insO
  split
  ·exact List.Perm.refl _
  ·exact((insO_perm st x l).cons y).trans (List.Perm.swap x y l)
theorem insO_sorted (st:List Int) (x:Int):∀l:List Int,l.Pairwise (LeS st)->(∀y∈l,y<x)->(insO st x l).Pairwise (LeS st)
 | [],_,_=>by simp[insO]
 | y::l,h,hx=>by
  have h1:=List.pairwise_cons.1 h;have hyx:=hx y (List.mem_cons_self ..);unfold insO
  split
  ·rename_i hlt
   refine List.pairwise_cons.2 ⟨fun a ha=> ?_,h⟩;rcases List.mem_cons.1 ha with rfl | ha
   ·simp[LeS,luS,ltS] at hlt ⊢;omega
   ·have h3:=h1.1 a ha;have h4:=hx a (List.mem_cons_of_mem _ ha);simp[LeS,luS,ltS] at hlt h3 ⊢;omega
  ·rename_i hlt
   refine List.pairwise_cons.2 ⟨fun a ha=> ?_,insO_sorted st x l h1.2 (fun a ha=>hx a (List.mem_cons_of_mem _ ha))⟩;rcases List.mem_cons.1 ((insO_perm st x l).mem_iff.1 ha) with rfl | ha
   ·simp[LeS,luS,ltS] at hlt ⊢;omega
   ·exact h1.1 a ha
theorem sortO_go (st:List Int):∀(l acc:List Int),l.Pairwise (· < ·)->acc.Pairwise (LeS st)->(∀y∈acc,∀x∈l,y<x)->(l.foldl (fun acc x=>insO st x acc) acc).Perm (acc++l)/\(l.foldl (fun acc x=>insO st x acc) acc).Pairwise (LeS st)
 | [],acc,_,ha,_=>by simpa using ha
 | x::l,acc,h,ha,hx=>by
  have h1:=List.pairwise_cons.1 h;rw[List.foldl_cons]
  have ih:=sortO_go st l (insO st x acc) h1.2 (insO_sorted st x acc ha (fun y hy=>hx y hy x (List.mem_cons_self ..))) (fun y hy z hz=>by
   rcases List.mem_cons.1 ((insO_perm st x acc).mem_iff.1 hy) with rfl | hy
   ·exact h1.1 z hz
   ·exact hx y hy z (List.mem_cons_of_mem _ hz))
  refine⟨ih.1.trans ?_,ih.2⟩;exact((insO_perm st x acc).append_right l).trans (List.perm_middle.symm)
theorem sortO_ok (st:List Int) {l:List Int} (h:l.Pairwise (· < ·)):(sortO st l).Perm l/\(sortO st l).Pairwise (LeS st):=by
 have:=sortO_go st l [] h List.Pairwise.nil (fun y hy=>absurd hy (by simp))
 simpa [sortO] using this
theorem stable_eq (st:List Int) {l:List Int} (h:l.Pairwise (· < ·)):(insertionSort (ltS st) l.toArray 0 l.toArray.size).toList=sortO st l:=by
 rw[ins_congr (lu:=luS st) (fun p q hpq hq=>by
  have hq':q<l.length:=by simpa using hq
  have:=List.pairwise_iff_getElem.1 h p q (by omega) hq' hpq;rw[getElem!_pos _ q (by simpa using hq'),getElem!_pos _ p (by simp;omega)];simp only[List.getElem_toArray];unfold luS;rw[decide_eq_false (show ¬l[q]<l[p] by omega)];simp)]
 have h1:=insertionSort_holds (lt:=luS st) (swo_luS st) l.toArray 0 l.toArray.size (Nat.zero_le _) (Nat.le_refl _);generalize insertionSort (luS st) l.toArray 0 l.toArray.size=D at h1 ⊢;obtain⟨⟨hz,_,hp⟩,hs⟩:=h1;have e1:D.extract 0 l.toArray.size=D:=by rw[<- hz];exact Array.extract_size
 have e2:l.toArray.extract 0 l.toArray.size=l.toArray:=Array.extract_size;rw[e1,e2] at hp;have h2:=sortO_ok st h;refine perm_pair_eq leS_anti (hp.trans h2.1.symm) ?_ h2.2;rw[List.pairwise_iff_getElem];intro i j hi hj hij;have hj2:j<l.toArray.size:=by rw[<- hz];simpa using hj
 have h:=hs i j (Nat.zero_le _) hij hj2;simp only[Array.length_toList] at hi hj;rw[getElem!_pos _ j hj,getElem!_pos _ i hi] at h
 simpa [LeS] using h
end W8
