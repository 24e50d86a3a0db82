/- A board is opened: a job whose tasks are placed one by one. -/
import Derived.Test.YtjpgnfekbojcaaaGreatWJob6
import Derived.Shelf.SlSortCmp.WholeK
set_option maxHeartbeats 4000000
set_option maxRecDepth 100000
namespace Go.Proofs.YtjpgnfekbojcaaaGreat
open Go.RowKit W7 W8
attribute [local go_sem] Oper.semAt_some
theorem own_full {w:World} {base e g n:Nat} {xs:List Value} (h:w.ownsRow base e 1 (.slice (some ⟨g,0,none⟩) n n) n xs):w.heap[g]? =some (.cells xs.toArray e (0,0))/\base<=g:=by
 rcases h.2 with⟨e0,_⟩ | ⟨g',cap',cur,e0,hb,hg,h1,h2,h3,h4⟩
 ·cases e0
 ·injection e0 with e1 _ e3
  injection e1 with e1
  injection e1 with e1
  subst e1;subst e3;refine⟨?_,hb⟩;rw[hg]
  have:cur=xs.toArray:=by
   rw[<- h4,List.take_of_length_le (by rw[Array.length_toList,h3];exact Nat.le_refl _)]
  rw[this]
theorem made_blk {W w w1:World} {e n:Nat} {z:Value} (hse:W.heap.size<=w.heap.size) (h:w1.ownsRow w.heap.size e 1 (.slice (some ⟨w.heap.size,0,none⟩) n n) n (madeCells #[z] (n*1)).toList):NewBlk W w1 w.heap.size (List.replicate n z).toArray e:=by
 rw[toList_madeCells_one,Nat.mul_one] at h;exact⟨hse,(own_full h).1⟩
structure OpenR (j:Job) (w:World) (e:Ending) (w':World):Prop where
 ex:∃g sb pb,e= .returned (.pointer (some ⟨g,0,none⟩))/\BdIn w' g sb pb j (bd0 j.p) 0/\w.heap.size<=g/\w.heap.size<=sb/\w.heap.size<=pb
 bel:Bl w w'
theorem opened_any (j:Job) (w:World) (h64:j.tasks.length<=64):Calls Tryz.prog 64 #[jobV j] w (OpenR j w):=by
 obtain⟨n,hn⟩:∃n,j.tasks.length=n:=⟨_,rfl⟩
 obtain⟨W0,HW0,hs0,HB0,HX00,HU0⟩:=boxes1 w (.cells #[.slice j.TA j.tasks.length j.tc,.slice j.RA j.res.length j.rc] 25);have HJ:=hI (show jobV j= .agg #[.slice j.TA n j.tc,.slice j.RA j.res.length j.rc] by unfold jobV;rw[hn]);rw[HJ.o];rw[hn] at h64 HX00 HW0;have Hn:=hI hn;clear hn;obtain⟨i1,hi1,hi1a,hi1b,hi1c⟩:=info_parts (show(Tryz.prog.info? 3).map (fun i=>(i.zero,i.size,i.bytes))=some (some (.int .i64 0),1,8) by kernel_rfl);obtain⟨i2,hi2,hi2a,hi2b,hi2c⟩:=info_parts (show(Tryz.prog.info? 4).map (fun i=>(i.zero,i.size,i.bytes))=some (some (.bool false),1,1) by kernel_rfl);go_enter Tryz.func64,Tryz.ntmps64;go_upto_region 1 with fail;rw[<- HW0.o];have y0:=later_cell (bc (j:=0) (HX00.o W0 (Below.refl _ _)) rfl) (by omega);have y1:=later_cell (bc (j:=1) (HX00.o W0 (Below.refl _ _)) rfl) (by omega)
 obtain⟨C,hC⟩:∃C:(Nat->Bool)->(Nat->Value)->World->Prop,C=fun L V w'=>∃(e:Later W0) (gs gp gb:Nat),w'=e.w/\(L 0=true->V 0= .agg #[.slice j.TA n j.tc,.slice j.RA j.res.length j.rc])/\(L 1=true->V 1= .pointer (some ⟨w.heap.size,0,none⟩))/\(L 2=true->V 2= .slice j.TA n j.tc)/\(L 3=true->V 3= .int .i64 (n:Int))/\(L 4=true->V 4= .slice (some ⟨gs,0,none⟩) n n/\Hid (NewBlk W0 e.w gs (List.replicate n (.int .i64 0)).toArray 3)) ∧
  (L 5=true->V 5= .pointer (some ⟨w.heap.size,0,none⟩))/\(L 6=true->V 6= .slice j.TA n j.tc)/\(L 7=true->V 7= .int .i64 (n:Int))/\(L 8=true->V 8= .slice (some ⟨gp,0,none⟩) n n/\Hid (NewBlk W0 e.w gp (List.replicate n (.bool false)).toArray 4))/\(L 9=true->L 4=true/\L 8=true/\V 9= .agg #[.slice j.TA n j.tc,.slice j.RA j.res.length j.rc,.slice (some ⟨gs,0,none⟩) n n,.slice (some ⟨gp,0,none⟩) n n,.int .i64 0]) ∧
  (L 10=true->L 4=true/\L 8=true/\V 10= .pointer (some ⟨gb,0,none⟩)/\Hid (NewBlk W0 e.w gb #[.slice j.TA n j.tc,.slice j.RA j.res.length j.rc,.slice (some ⟨gs,0,none⟩) n n,.slice (some ⟨gp,0,none⟩) n n,.int .i64 0] 115))/\(L 11=true->L 10=true/\V 11= .pointer (some ⟨gb,0,none⟩)):=⟨_,rfl⟩
 have HC:=hI hC;clear hC;refine wp_region_opsA [3,4,5,6,7,8,9,10,11,12,13,2] C (by kernel_rfl) (by kernel_rfl) (by decide) (by kernel_rfl) (by kernel_rfl) ?_ ?_ ?_
 ·rw[HC.o];exact⟨⟨W0.drew,(Below.refl _ _).drew⟩,0,0,0,rfl,nff,nff,nff,nff,nff,nff,nff,nff,nff,nff,nff,nff⟩
 ·rintro L V w' i o A hi ho hLi haf hInv hA hF;rw[HC.o] at hInv;obtain⟨e,gs,gp,gb,rfl,h0,h1,h2,h3,h4,h5,h6,h7,h8,h9,h10,h11⟩:=hInv;have hse:W0.heap.size<=e.w.heap.size:=e.b.size;rcases i with _ | _ | _ | _ | _ | _ | _ | _ | _ | _ | _ | _ | i;case succ.succ.succ.succ.succ.succ.succ.succ.succ.succ.succ.succ=>(simp at hi;try omega)
  all_goals (simp only[List.getElem?_cons_zero,List.getElem?_cons_succ,Option.some.injEq] at ho;subst ho)
  ·have f1:A.tmps[1]?.getD undef= .pointer (some ⟨w.heap.size,0,none⟩):=hF.out 1 (by decide);go_wp2;rw[HC.o];exact⟨_,rfl,e,gs,gp,gb,rfl,fun _=>rfl,h1,h2,h3,h4,h5,h6,h7,h8,h9,h10,h11⟩
  ·have f1:A.tmps[1]?.getD undef= .pointer (some ⟨w.heap.size,0,none⟩):=hF.out 1 (by decide);go_wp2;rw[HC.o];exact⟨_,rfl,e,gs,gp,gb,rfl,h0,fun _=>rfl,h2,h3,h4,h5,h6,h7,h8,h9,h10,h11⟩
  ·have a1:=(hA.out 1 4 rfl).trans (h1 (haf ⟨1,.data⟩ (by simp) rfl));go_wp2;rw[HC.o];exact⟨_,rfl,e,gs,gp,gb,rfl,h0,h1,fun _=>rfl,h3,h4,h5,h6,h7,h8,h9,h10,h11⟩
  ·have a2:=(hA.out 2 5 rfl).trans (h2 (haf ⟨2,.data⟩ (by simp) rfl));go_wp2;rw[HC.o];exact⟨_,rfl,e,gs,gp,gb,rfl,h0,h1,h2,fun _=>rfl,h4,h5,h6,h7,h8,h9,h10,h11⟩
  ·have a3:=(hA.out 3 6 rfl).trans (h3 (haf ⟨3,.data⟩ (by simp) rfl));go_wp2_with (at_make;refine wpList_make_full _ rfl _ _ 26 rfl e.w.heap.size 3 _ (.int .i64 0) 1 Tryz.underlying26 hi1 hi1a hi1b .i64 .i64 _ _ n (ev_of a3) (ev_of a3) rfl rfl (by rw[hi1c];omega) (by unfold maxLen;omega) (Nat.le_refl _) ?_;intro w1 hown1 hg1;have Hb1:=hI ((Below.refl e.w.heap.size e.w).grown hg1 (Nat.le_refl _) (fun k hk=>by cases hk));have Hn1:=hI (made_blk hse hown1);clear hown1 hg1);rw[HC.o];exact⟨_,rfl,⟨_,e.b.trans (Hb1.o.mono hse)⟩,e.w.heap.size,gp,gb,rfl,h0,h1,h2,h3,fun _=>⟨rfl,Hn1⟩,h5,h6,h7,fun y=>⟨(h8 y).1,hI ((h8 y).2.out.below Hb1.o)⟩,fun y=>absurd (hLi.symm.trans (h9 y).1) (by decide),fun y=>absurd (hLi.symm.trans (h10 y).1) (by decide),h11⟩
  ·have f1:A.tmps[1]?.getD undef= .pointer (some ⟨w.heap.size,0,none⟩):=hF.out 1 (by decide);go_wp2;rw[HC.o];exact⟨_,rfl,e,gs,gp,gb,rfl,h0,h1,h2,h3,h4,fun _=>rfl,h6,h7,h8,h9,h10,h11⟩
  ·have a5:=(hA.out 5 8 rfl).trans (h5 (haf ⟨5,.data⟩ (by simp) rfl));go_wp2;rw[HC.o];exact⟨_,rfl,e,gs,gp,gb,rfl,h0,h1,h2,h3,h4,h5,fun _=>rfl,h7,h8,h9,h10,h11⟩
  ·have a6:=(hA.out 6 9 rfl).trans (h6 (haf ⟨6,.data⟩ (by simp) rfl));go_wp2;rw[HC.o];exact⟨_,rfl,e,gs,gp,gb,rfl,h0,h1,h2,h3,h4,h5,h6,fun _=>rfl,h8,h9,h10,h11⟩
  ·have a7:=(hA.out 7 10 rfl).trans (h7 (haf ⟨7,.data⟩ (by simp) rfl));go_wp2_with (at_make;refine wpList_make_full _ rfl _ _ 113 rfl e.w.heap.size 4 _ (.bool false) 1 Tryz.underlying113 hi2 hi2a hi2b .i64 .i64 _ _ n (ev_of a7) (ev_of a7) rfl rfl (by rw[hi2c];omega) (by unfold maxLen;omega) (Nat.le_refl _) ?_;intro w1 hown1 hg1;have Hb1:=hI ((Below.refl e.w.heap.size e.w).grown hg1 (Nat.le_refl _) (fun k hk=>by cases hk));have Hn1:=hI (made_blk hse hown1);clear hown1 hg1);rw[HC.o];exact⟨_,rfl,⟨_,e.b.trans (Hb1.o.mono hse)⟩,gs,e.w.heap.size,gb,rfl,h0,h1,h2,h3,fun y=>⟨(h4 y).1,hI ((h4 y).2.out.below Hb1.o)⟩,h5,h6,h7,fun _=>⟨rfl,Hn1⟩,fun y=>absurd (hLi.symm.trans (h9 y).2.1) (by decide),fun y=>absurd (hLi.symm.trans (h10 y).2.1) (by decide),h11⟩
  ·have a0:=(hA.out 0 3 rfl).trans (h0 (haf ⟨0,.data⟩ (by simp) rfl));have a4:=(hA.out 4 7 rfl).trans (h4 (haf ⟨4,.data⟩ (by simp) rfl)).1;have a8:=(hA.out 8 11 rfl).trans (h8 (haf ⟨8,.data⟩ (by simp) rfl)).1;have l4:=haf ⟨4,.data⟩ (by simp) rfl;have l8:=haf ⟨8,.data⟩ (by simp) rfl;go_wp2;rw[HC.o];exact⟨_,rfl,e,gs,gp,gb,rfl,h0,h1,h2,h3,h4,h5,h6,h7,h8,fun _=>⟨l4,l8,rfl⟩,h10,h11⟩
  ·have l9:=h9 (haf ⟨9,.data⟩ (by simp) rfl);have a9:=(hA.out 9 12 rfl).trans l9.2.2;go_wp2;have hNew:Below e.w.heap.size e.w (e.w.alloc (.cells #[.slice j.TA n j.tc,.slice j.RA j.res.length j.rc,.slice (some ⟨gs,0,none⟩) n n,.slice (some ⟨gp,0,none⟩) n n,.int .i64 0] 115)):=(Below.refl _ _).alloc (Nat.le_refl _) _;rw[HC.o];exact⟨_,rfl,⟨_,e.b.trans (hNew.mono hse)⟩,gs,gp,e.w.heap.size,rfl,h0,h1,h2,h3,fun y=>⟨(h4 y).1,hI ((h4 y).2.out.below hNew)⟩,h5,h6,h7,fun y=>⟨(h8 y).1,hI ((h8 y).2.out.below hNew)⟩,h9,fun _=>⟨l9.1,l9.2.1,rfl,hI (NewBlk.new hse)⟩,fun y=>absurd (hLi.symm.trans (h11 y).1) (by decide)⟩
  ·have l10:=h10 (haf ⟨10,.data⟩ (by simp) rfl);have l10':=haf ⟨10,.data⟩ (by simp) rfl;have a10:=(hA.out 10 13 rfl).trans l10.2.2.1;go_wp2;rw[HC.o];exact⟨_,rfl,e,gs,gp,gb,rfl,h0,h1,h2,h3,h4,h5,h6,h7,h8,h9,h10,fun _=>⟨l10',rfl⟩⟩
 ·rintro L V w' hL hInv;rw[HC.o] at hInv;obtain⟨e,gs,gp,gb,rfl,_,_,_,_,h4,_,_,_,h8,_,h10,h11⟩:=hInv;have b4:=(h4 (hL 4 (by simp))).2.out;have b8:=(h8 (hL 8 (by simp))).2.out;have b10:=(h10 (hL 10 (by simp))).2.2.2.out;have v11:=(h11 (hL 11 (by simp))).2;have HR:=hI (show OpenR j w (.returned (.pointer (some ⟨gb,0,none⟩))) e.w from⟨⟨gb,gs,gp,rfl,⟨by rw[Hn.o];exact b10.2,by rw[show(bd0 j.p).st.map (Value.int .i64)=List.replicate n (.int .i64 0) by unfold bd0;rw[j.nt,Hn.o,List.map_replicate]];exact b4.2,by rw[show(bd0 j.p).pl.map Value.bool=List.replicate n (.bool false) by unfold bd0;rw[j.nt,Hn.o,List.map_replicate]];exact b8.2,by simp[bd0,j.nt],by simp[bd0,j.nt]⟩,Nat.le_trans (by omega) b10.1,Nat.le_trans (by omega) b4.1,Nat.le_trans (by omega) b8.1⟩,HU0.o _ e.b⟩);clear h4 h8 h10 h11 hL HC b4 b8 b10;simp only[putAll];rw[v11];go_frame;go_wp2;go_ret;exact HR.o
end Go.Proofs.YtjpgnfekbojcaaaGreat
namespace W8
open W7
theorem any_not_all {α:Type} (f:α->Bool):∀l:List α,(!l.any (fun x=> !f x))=l.all f
 | []=>rfl
 | x::l=>by
  rw[List.any_cons,List.all_cons,<-any_not_all f l];cases f x<;>simp
theorem serialGo_none {j:JobP} {fr:Int} {order:List Int} {f:Nat} {b:Bd} (h:order.find? (fun n=>mayB j b.pl n.toNat)=none):serialGo j fr order (f+1) b=(true,b):=by
 simp only[serialGo,h]
theorem serialGo_no {j:JobP} {fr:Int} {order:List Int} {f:Nat} {b:Bd} {n:Int} (h:order.find? (fun n=>mayB j b.pl n.toNat)=some n) (h2:placeV j b fr n.toNat=none):serialGo j fr order (f+1) b=(false,b):=by
 simp only[serialGo,h,h2]
theorem serialGo_put {j:JobP} {fr:Int} {order:List Int} {f:Nat} {b:Bd} {n s:Int} (h:order.find? (fun n=>mayB j b.pl n.toNat)=some n) (h2:placeV j b fr n.toNat=some s):serialGo j fr order (f+1) b=serialGo j fr order f (b.put n.toNat s):=by
 simp only[serialGo,h,h2]
end W8
namespace Go.Proofs.YtjpgnfekbojcaaaGreat
open Go.RowKit W7 W8
attribute [local go_sem] Oper.semAt_some
theorem may1_any (j:Job) (b:Bd) (fr:Int) (q bb g sb pb:Nat) (w:World) (hb:BdIn w g sb pb j b fr) (hq:q<j.tasks.length) (h0:w.cell? ⟨bb,0,none⟩=some (.pointer (some ⟨g,0,none⟩))) :
  Calls Tryz.prog 181 #[.int .i64 (q:Int),.pointer (some ⟨bb,0,none⟩)] w fun e w'=>e= .returned (.bool (!b.pl.getD q false))/\Bl w w':=by
 have p1:=bc (j:=3) hb.hg rfl;have cp:=hb.pl hq;generalize b.pl.getD q false=pl at cp;obtain⟨n,hn⟩:∃n,j.tasks.length=n:=⟨_,rfl⟩
 rw[hn] at p1 hq;clear hb hn;go_enter Tryz.func181,Tryz.ntmps181;go_wp2;go_ret;exact⟨rfl,Below.refl _ _⟩
set_option maxHeartbeats 1000000 in
theorem idxMay1_any (P:Int->Bool) (a0:Value) (xs:List Int) (n:Nat) (hn:n=xs.length) (A:Option Addr) (c B:Nat) (w:World) (hA:Sl w B 1 encInt1 A xs) (hB:B<=w.heap.size) (hl:xs.length<=9223372036854775807)
    (hF:∀(x:Int),x∈xs->∀(W:World),Bl w W->Calls Tryz.prog 181 #[.int .i64 x,a0] W fun e w'=>e= .returned (.bool (P x))/\Bl W w') :
    Calls Tryz.prog 132 #[.slice A n c,.func (.func 181) #[] #[a0]] w fun e w'=>e= .returned (.int .i64 (idxB P xs))/\Bl w w':=by
  subst hn;have HA:=hI hA;have HF:=hI hF;clear hA hF;go_enter Tryz.func132,Tryz.ntmps132;go_wp2;go_loopw [8] (fun i wr=>∃k:Nat,k<=xs.length/\i= .int .i64 k/\Hid ((xs.take k).any P=false)/\Hid (Bl w wr)) (fun i _=>xs.length-(intOf i).toNat);case atStart=>exact⟨0,by omega,rfl,hI (by simp),hI (Below.refl _ _)⟩
  case round=>
    obtain⟨k,hk,rfl,Hno,Hb⟩:=hrel;have hsz:=Hb.o.size
    by_cases hlt:k<xs.length
    · obtain⟨b,off,rfl,hbB,hcells⟩:=(HA.o.below (Hb.o.mono hB)) (by omega)
      have h0:=hcells k hlt;clear hcells;have c0:wr.cell? ⟨b,off+k,none⟩=some (.int .i64 xs[k]):=(by have h:=h0 0 _ rfl;rwa [Nat.mul_one,Nat.add_zero] at h)
      have Hs:=hI (any_take_succ (p:=P) hlt Hno.o);have Hh:=hI (idxB_hit (p:=P) hlt Hno.o);have HK:=hI (fun(W:World) (hW:Bl w W)=>HF.o xs[k] (List.getElem_mem hlt) W hW);generalize xs[k]=x at c0 Hs Hh HK;clear h0;cases hp:P x
      · have HK2:=hI (fun(W:World) (hW:Bl w W)=>hp▸HK.o W hW)
        go_wp2_with (go_at_call 181;refine(HK2.o _ (by first | exact Hb.o | exact Hb.o.alloc (by omega) _)).mono ?_;rintro e w1 ⟨rfl,hb1⟩;have Hb1:=hI hb1;clear hb1);go_roundw;case rel=>exact⟨k+1,by omega,by go_num,hI (Hs.o hp),hI (by first | exact Hb.o.trans (Hb1.o.mono hsz) | exact(Hb.o.alloc (by omega) _).trans (Hb1.o.mono (by simp;omega)))⟩
        case measure=>simp[intOf];omega
      · have HK2:=hI (fun(W:World) (hW:Bl w W)=>hp▸HK.o W hW)
        go_wp2_with (go_at_call 181;refine(HK2.o _ (by first | exact Hb.o | exact Hb.o.alloc (by omega) _)).mono ?_;rintro e w1 ⟨rfl,hb1⟩;have Hb1:=hI hb1;clear hb1);go_ret;exact⟨ret_int (Hh.o hp).symm,(by first | exact Hb.o.trans (Hb1.o.mono hsz) | exact(Hb.o.alloc (by omega) _).trans (Hb1.o.mono (by simp;omega)))⟩
    · have HN:=hI (idxB_none (p:=P) (xs:=xs) (by rw[<- Hno.o,List.take_of_length_le (by omega)]))
      go_wp2;go_ret;exact⟨ret_int HN.o.symm,Hb.o⟩
theorem conMay1_any (P:Int->Bool) (a0:Value) (xs:List Int) (n:Nat) (hn:n=xs.length) (A:Option Addr) (c B:Nat) (w:World) (hA:Sl w B 1 encInt1 A xs) (hB:B<=w.heap.size) (hl:xs.length<=9223372036854775807)
    (hF:∀(x:Int),x∈xs->∀(W:World),Bl w W->Calls Tryz.prog 181 #[.int .i64 x,a0] W fun e w'=>e= .returned (.bool (P x))/\Bl W w') :
    Calls Tryz.prog 60 #[.slice A n c,.func (.func 181) #[] #[a0]] w fun e w'=>e= .returned (.bool (xs.any P))/\Bl w w':=by
  have H:=hI (idxMay1_any P a0 xs n hn A c B w hA hB hl hF);have HI:=hI (idxB_any (p:=P) (xs:=xs));clear hA hn hF;go_enter Tryz.func60,Tryz.ntmps60;go_wp2_with (go_at_call 132;refine H.o.mono ?_;rintro e w1 ⟨rfl,hb1⟩;have Hb1:=hI hb1;clear hb1);go_ret;exact⟨ret_bool HI.o,Hb1.o⟩

theorem may_any (j:Job) (b:Bd) (fr:Int) (i g sb pb B:Nat) (w:World) (hb:BdIn w g sb pb j b fr) (hj:JIn w B j) (hB:B<=w.heap.size) (hG:JGood j.p) (hi:i<j.tasks.length) :
  Calls Tryz.prog 133 #[.pointer (some ⟨g,0,none⟩),.int .i64 (i:Int)] w fun e w'=>e= .returned (.bool (mayB j.p b.pl i))/\Bl w w':=by
 obtain⟨n,hn⟩:∃n,j.tasks.length=n:=⟨_,rfl⟩
 obtain⟨W0,HW0,hs0,HB0,HX00,HU0⟩:=boxes1 w (.cells #[.pointer (some ⟨g,0,none⟩)] 110);have h64:n<=64:=by have:=hG.nt;rw[j.nt] at this;omega
 have hlc:=hj.tl;have hc2:=hj.tc;rw[hn] at hlc;have hb0:=hb.below HB0.o;have hj0:=hj.below (HB0.o.mono hB);have HB:=hI (show ∀X:World,Bl W0 X->BdIn X g sb pb j b fr/\JIn X B j from fun X hX=>⟨hb.below (HU0.o X hX),hj.below ((HU0.o X hX).mono hB)⟩);obtain⟨tb,off,hTA,htb⟩:=hj.ta (by omega);obtain⟨_,_,c2,_⟩:=hj0.tcells hTA hi;have p0:=bc (j:=0) hb0.hg rfl;have p1:=bc (j:=3) hb0.hg rfl;have cp:=hb0.pl hi;rw[hn] at p0 p1;rw[hTA] at p0;have hTk:=hj0.tks _ (j.T_mem hi);have hnl:=hTk.nl;have hnc:=hTk.nc;have Hns:=hI hTk.ns;have HNd:=hI (hG.needs _ (j.Tp_mem hi));have hnn:=needs_len hG (j.Tp_mem hi);have HM:=hI (show mayB j.p b.pl i=(!b.pl.getD i false&& !(j.T i).p.needs.any (fun k=> !b.pl.getD k.toNat false)) by unfold mayB standB;rw[j.pT,any_not_all]);generalize j.T i=t at c2 Hns HNd hnn HM hnl hnc;generalize b.pl.getD i false=pl at cp HM;have v0:=bc (j:=0) (HX00.o W0 (Below.refl _ _)) rfl
 obtain⟨NA,hNA⟩:∃x,t.NA=x:=⟨_,rfl⟩
 obtain⟨nn,hnn'⟩:∃x,t.p.needs.length=x:=⟨_,rfl⟩
 rw[hNA,hnn'] at c2;rw[hNA] at Hns;rw[hnn'] at hnl hnn
 have HC:=hI (conMay1_any (fun k=> !b.pl.getD k.toNat false) (.pointer (some ⟨w.heap.size,0,none⟩)) t.p.needs nn hnn'.symm NA t.nc B W0 Hns.o (by omega) (by omega) (fun x hx W hW=>by
  have h1:=HNd.o x hx;obtain⟨q,hq⟩:∃q:Nat,x=q:=⟨x.toNat,by omega⟩
  subst hq;exact may1_any j b fr q w.heap.size g sb pb W (HB.o W hW).1 (by have:=h1.2;rw[j.nt] at this;omega) (bc (j:=0) (HX00.o W hW) rfl)))
 generalize t.p.needs.any (fun k=> !b.pl.getD k.toNat false)=an at HC HM;rw[hn] at hi;clear hb hj hG hn hb0 hj0 hTA hTk hNA hnn';go_enter Tryz.func133,Tryz.ntmps133;go_upto_region 1 with fail;rw[<- HW0.o];cases pl
 ·go_wp2_with (go_at_call 60;refine HC.o.mono ?_;rintro e w2 ⟨rfl,hb2⟩;have Hb2:=hI hb2;clear hb2);go_ret;exact⟨ret_bool (by rw[HM.o];simp),HU0.o _ Hb2.o⟩
 ·go_wp2;go_ret;exact⟨ret_bool (by rw[HM.o];simp),HB0.o⟩
set_option maxHeartbeats 1000000 in
theorem idxMay_any (P:Int->Bool) (b0:Value) (xs:List Int) (n:Nat) (hn:n=xs.length) (A:Option Addr) (c B:Nat) (w:World) (hA:Sl w B 1 encInt1 A xs) (hB:B<=w.heap.size) (hl:xs.length<=9223372036854775807)
    (hF:∀(x:Int),x∈xs->∀(W:World),Bl w W->Calls Tryz.prog 133 #[b0,.int .i64 x] W fun e w'=>e= .returned (.bool (P x))/\Bl W w') :
    Calls Tryz.prog 132 #[.slice A n c,.func (.func 133) #[b0] #[]] w fun e w'=>e= .returned (.int .i64 (idxB P xs))/\Bl w w':=by
  subst hn;have HA:=hI hA;have HF:=hI hF;clear hA hF;go_enter Tryz.func132,Tryz.ntmps132;go_wp2;go_loopw [8] (fun i wr=>∃k:Nat,k<=xs.length/\i= .int .i64 k/\Hid ((xs.take k).any P=false)/\Hid (Bl w wr)) (fun i _=>xs.length-(intOf i).toNat);case atStart=>exact⟨0,by omega,rfl,hI (by simp),hI (Below.refl _ _)⟩
  case round=>
    obtain⟨k,hk,rfl,Hno,Hb⟩:=hrel;have hsz:=Hb.o.size
    by_cases hlt:k<xs.length
    · obtain⟨b,off,rfl,hbB,hcells⟩:=(HA.o.below (Hb.o.mono hB)) (by omega)
      have h0:=hcells k hlt;clear hcells;have c0:wr.cell? ⟨b,off+k,none⟩=some (.int .i64 xs[k]):=(by have h:=h0 0 _ rfl;rwa [Nat.mul_one,Nat.add_zero] at h)
      have Hs:=hI (any_take_succ (p:=P) hlt Hno.o);have Hh:=hI (idxB_hit (p:=P) hlt Hno.o);have HK:=hI (fun(W:World) (hW:Bl w W)=>HF.o xs[k] (List.getElem_mem hlt) W hW);generalize xs[k]=x at c0 Hs Hh HK;clear h0;cases hp:P x
      · have HK2:=hI (fun(W:World) (hW:Bl w W)=>hp▸HK.o W hW)
        go_wp2_with (go_at_call 133;refine(HK2.o _ (by first | exact Hb.o | exact Hb.o.alloc (by omega) _)).mono ?_;rintro e w1 ⟨rfl,hb1⟩;have Hb1:=hI hb1;clear hb1);go_roundw;case rel=>exact⟨k+1,by omega,by go_num,hI (Hs.o hp),hI (by first | exact Hb.o.trans (Hb1.o.mono hsz) | exact(Hb.o.alloc (by omega) _).trans (Hb1.o.mono (by simp;omega)))⟩
        case measure=>simp[intOf];omega
      · have HK2:=hI (fun(W:World) (hW:Bl w W)=>hp▸HK.o W hW)
        go_wp2_with (go_at_call 133;refine(HK2.o _ (by first | exact Hb.o | exact Hb.o.alloc (by omega) _)).mono ?_;rintro e w1 ⟨rfl,hb1⟩;have Hb1:=hI hb1;clear hb1);go_ret;exact⟨ret_int (Hh.o hp).symm,(by first | exact Hb.o.trans (Hb1.o.mono hsz) | exact(Hb.o.alloc (by omega) _).trans (Hb1.o.mono (by simp;omega)))⟩
    · have HN:=hI (idxB_none (p:=P) (xs:=xs) (by rw[<- Hno.o,List.take_of_length_le (by omega)]))
      go_wp2;go_ret;exact⟨ret_int HN.o.symm,Hb.o⟩

theorem Kept2.blk {w X:World} {a b:Nat} (h:Kept2 w X a b) {B:Nat} (ha:B<=a) (hb:B<=b) (hB:B<=w.heap.size):Below B w X:=h.below ha hb hB
theorem serial_any (j:Job) (fr:Int) (order:List Int) (g sb pb B m oc:Nat) (OA:Option Addr) (b:Bd) (w:World) (hm:m=order.length) (hm2:m<=64) (hmo:m<=oc) (hoc:oc<=9223372036854775807)
  (hb:BdIn w g sb pb j b fr) (hj:JIn w B j) (hBs:B<=sb) (hBp:B<=pb) (hne:g≠sb/\g≠pb/\sb≠pb) (hG:JGood j.p) (hs:BOk b) (hfr:0<=fr/\fr<=200000) (hord:∀x∈order,0<=x/\x<j.tasks.length) (hO:∀X,Kept2 w X sb pb->Sl X X.heap.size 1 encInt1 OA order) :
  Calls Tryz.prog 65 #[.pointer (some ⟨g,0,none⟩),.slice OA m oc] w fun e w'=>e= .returned (.bool (serialGo j.p fr order m b).1)/\Kept2 w w' sb pb/\BdIn w' g sb pb j (serialGo j.p fr order m b).2 fr:=by
 have HJ:=hI (show ∀X,Kept2 w X sb pb->JIn X B j from fun X hX=>hj.below (hX.below hBs hBp (by have:=blk_lt hb.hs;omega)));have hBw:B<=w.heap.size:=by have:=blk_lt hb.hs;omega
 have HG:=hI hG;have Hne:=hI hne;have Hm:=hI hm;have HOr:=hI hord;have HO:=hI hO;have Hb0:=hI hb;have Hs0:=hI hs;obtain⟨SG,hSG⟩:∃x,serialGo j.p fr order m b=x:=⟨_,rfl⟩
 have HSG:=hI hSG;rw[hSG];clear hb hj hG hne hm hord hO hs hSG;go_enter Tryz.func65,Tryz.ntmps65;go_wp2;go_loopw [8] (fun v8 wr=>∃(i:Nat) (bd:Bd),i<=m/\v8= .int .i64 i/\Hid (Kept2 w wr sb pb)/\Hid (BdIn wr g sb pb j bd fr)/\Hid (BOk bd)/\Hid (serialGo j.p fr order (m-i) bd=SG)) (fun v8 _=>m-(intOf v8).toNat);case atStart=>exact⟨0,b,by omega,rfl,hI (Kept2.refl _ _ _),Hb0,Hs0,HSG⟩
 case round=>
  obtain⟨i,bd,hi,rfl,HK,Hb,Hs,HSg⟩:=hrel;have hsk:=HK.o.size
  by_cases hlt:i<m
  ·obtain⟨ob,ooff,hoe,hob,_⟩:=(HO.o _ HK.o) (by have:=Hm.o;omega)
   subst hoe
   have HI:=hI (idxMay_any (fun x=>mayB j.p bd.pl x.toNat) (.pointer (some ⟨g,0,none⟩)) order m Hm.o (some ⟨ob,ooff,none⟩) oc wr.heap.size wr (HO.o _ HK.o) (Nat.le_refl _) (by have:=Hm.o;omega) (fun x hx W hW=>by
    have h1:=HOr.o x hx;obtain⟨q,hq⟩:∃q:Nat,x=q:=⟨x.toNat,by omega⟩
    subst hq;exact may_any j bd fr q g sb pb B W (Hb.o.below hW) ((HJ.o _ HK.o).below (hW.mono (by omega))) (by have:=hW.size;omega) HG.o (by omega)))
   obtain⟨f,hf⟩:∃f,m-i=f+1:=⟨m-i-1,by omega⟩
   have Hf:=hI hf;rw[hf] at HSg;clear hf
   by_cases hv:0<=idxB (fun x=>mayB j.p bd.pl x.toNat) order
   ·obtain⟨kk,hkk,hvk⟩:=idx_lt hv;have hfi:=find_hit hkk hvk;have ho1:=HOr.o _ (List.getElem_mem hkk)
    have HCk:=hI (show ∀X:World,Bl wr X->X.cell? ⟨ob,ooff+kk,none⟩=some (.int .i64 order[kk]) from fun X hX=>by
     obtain⟨b9,o9,e9,_,hc9⟩:=(HO.o X (HK.o.trans (Kept2.of_below hX))) (by omega)
     cases e9;have h:=hc9 kk hkk 0 _ rfl
     rwa [Nat.mul_one,Nat.add_zero] at h)
    rw[hvk] at HI;have hkm:kk<m:=by have:=Hm.o;omega
    generalize order[kk]=x at hfi ho1 HCk;obtain⟨q,hq⟩:∃q:Nat,x=q:=⟨x.toNat,by omega⟩
    subst hq;have hql:q<j.tasks.length:=by omega
    have hqp:q<j.p.tasks.length:=by rw[j.nt];exact hql
    cases hpv:placeV j.p bd fr q with
    | none=>
     have HR:=hI (show placeR j.p bd fr q=(false,bd) by unfold placeR;rw[hpv]);have HE:=hI (show SG=(false,bd) by rw[<- HSg.o];exact serialGo_no hfi (by rw[Int.toNat_natCast];exact hpv));clear hv hvk hfi hpv ho1;go_upto_region 6 with(go_at_call 132;refine HI.o.mono ?_;rintro e w2 ⟨rfl,hb2⟩;have hs2:=hb2.size;have Hb2:=hI hb2;clear hb2)
     have c0:=HCk.o w2 Hb2.o;have HPl:=hI (place_any j bd fr q g sb pb B w2 (Hb.o.below Hb2.o) ((HJ.o _ HK.o).below (Hb2.o.mono (by omega))) (by omega) Hne.o HG.o Hs.o hql hfr);rw[HR.o] at HPl;go_wp2_with (go_at_call 134;refine HPl.o.mono ?_;rintro e w3 ⟨rfl,hk3,hb3⟩;have Hk3:=hI hk3;have Hb3:=hI hb3;clear hk3 hb3);go_ret;rw[HE.o];exact⟨rfl,(HK.o.trans (Kept2.of_below Hb2.o)).trans Hk3.o,Hb3.o⟩
    | some st=>
     have HR:=hI (show placeR j.p bd fr q=(true,bd.put q st) by unfold placeR;rw[hpv]);have HE:=hI (show serialGo j.p fr order f (bd.put q st)=SG by rw[<- HSg.o];exact(serialGo_put hfi (by rw[Int.toNat_natCast];exact hpv)).symm);have HSn:=hI (show BOk (bd.put q st) from Hs.o.put ⟨(place_bd HG.o Hs.o hfr hqp hpv).1,(place_bd HG.o Hs.o hfr hqp hpv).2.1⟩);clear hv hvk hfi hpv ho1;go_upto_region 6 with(go_at_call 132;refine HI.o.mono ?_;rintro e w2 ⟨rfl,hb2⟩;have hs2:=hb2.size;have Hb2:=hI hb2;clear hb2)
     have c0:=HCk.o w2 Hb2.o;have HPl:=hI (place_any j bd fr q g sb pb B w2 (Hb.o.below Hb2.o) ((HJ.o _ HK.o).below (Hb2.o.mono (by omega))) (by omega) Hne.o HG.o Hs.o hql hfr);rw[HR.o] at HPl;go_wp2_with (go_at_call 134;refine HPl.o.mono ?_;rintro e w3 ⟨rfl,hk3,hb3⟩;have Hk3:=hI hk3;have Hb3:=hI hb3;clear hk3 hb3);go_roundw;case rel=>exact⟨i+1,bd.put q st,by omega,by go_num,hI ((HK.o.trans (Kept2.of_below Hb2.o)).trans Hk3.o),Hb3,HSn,hI (by rw[show m-(i+1)=f by have:=Hf.o;omega];exact HE.o)⟩
     case measure=>simp[intOf];omega
   ·have HE:=hI (show SG=(true,bd) by rw[<- HSg.o];exact serialGo_none (find_no hv));generalize idxB (fun x=>mayB j.p bd.pl x.toNat) order=iv at hv HI;go_wp2_with (go_at_call 132;refine HI.o.mono ?_;rintro e w2 ⟨rfl,hb2⟩;have Hb2:=hI hb2;clear hb2);go_ret;rw[HE.o];exact⟨rfl,HK.o.trans (Kept2.of_below Hb2.o),Hb.o.below Hb2.o⟩
  ·have HE:=hI (show SG=(true,bd) by rw[<- HSg.o,show m-i=0 by omega];rfl);go_wp2;go_ret;rw[HE.o];exact⟨rfl,HK.o,Hb.o⟩
end Go.Proofs.YtjpgnfekbojcaaaGreat
namespace W7
structure K where
 t:Int
 lo:Int
 hi:Int
deriving Inhabited
def dn (rise fall s t:Int):Int:=if s<=t then fall*(t-s) else rise*(s-t)
theorem dn_le (r f s t:Int) (h:s<=t):dn r f s t=f*(t-s):=by simp[dn,h]
theorem mul_split (a x y z:Int):a*(z-x)=a*(y-x)+a*(z-y):=by
 rw[<- Int.mul_add];congr 1;omega
section
variable (r f:Int)
end
structure V where
 t:Int
 v:Int
section
variable (r f:Int)
def Top (l:List V) (t x:Int):Prop:=(∃a∈l,x=a.v-dn r f a.t t)/\∀a∈l,a.v-dn r f a.t t<=x
variable {r f}
theorem Top.append {l l':List V} {t x y:Int} (h:Top r f l t x) (h':Top r f l' t y):Top r f (l++l') t (max x y):=by
 obtain⟨⟨a,ha,hx⟩,h1⟩:=h;obtain⟨⟨b,hb,hy⟩,h2⟩:=h'
 constructor
 ·rcases Int.le_total x y with h | h
  ·exact⟨b,by simp[hb],by omega⟩
  ·exact⟨a,by simp[ha],by omega⟩
 ·intro c hc;rcases List.mem_append.1 hc with hc | hc
  ·have:=h1 c hc;omega
  ·have:=h2 c hc;omega
theorem Top.later {l:List V} {s t x:Int} (h:Top r f l s x) (hl:∀a∈l,a.t<=s) (hst:s<=t):Top r f l t (x-f*(t-s)):=by
 have key:∀a∈l,dn r f a.t t=dn r f a.t s+f*(t-s):=by
  intro a ha;have:=hl a ha;rw[dn_le _ _ _ _ (by omega),dn_le _ _ _ _ (by omega)];exact mul_split f a.t s t
 obtain⟨⟨a,ha,hx⟩,h1⟩:=h;refine⟨⟨a,ha,by rw[key a ha];omega⟩,fun b hb=> ?_⟩;rw[key b hb];have:=h1 b hb;omega
def Sorted (l:List V):Prop:=l.Pairwise fun a b=>a.t<=b.t
end
def loV (l:List K):List V:=l.map fun k=>⟨k.t,k.lo⟩
def hiV (l:List K):List V:=l.map fun k=>⟨k.t, -k.hi⟩
section
variable {r f:Int}
def SortedK (l:List K):Prop:=l.Pairwise fun a b=>a.t<=b.t
theorem SortedK.lo {l:List K} (h:SortedK l):Sorted (loV l):=by
 unfold Sorted loV;rw[List.pairwise_map];exact h
theorem SortedK.hi {l:List K} (h:SortedK l):Sorted (hiV l):=by
 unfold Sorted hiV;rw[List.pairwise_map];exact h
def Covers (m l:List K):Prop:=
 (∀a∈l,∃b∈m,b.t=a.t/\a.lo<=b.lo/\b.hi<=a.hi)/\∀b∈m,(∃a∈l,a.t=b.t/\a.lo=b.lo)/\∃a∈l,a.t=b.t/\a.hi=b.hi
end
end W7
namespace W7
open Go
theorem flatMap_get {α:Type} {enc:α->List Value} {k:Nat} (hk:∀x,(enc x).length=k):∀(l:List α) (i j:Nat) (hi:i<l.length),j<k->(l.flatMap enc)[i*k+j]? =(enc l[i])[j]?
 | [],i,j,hi,_=>absurd hi (by simp)
 | a::l,0,j,_,hj=>by
  rw[List.flatMap_cons,List.getElem?_append_left (by rw[hk];omega)];simp
 | a::l,i+1,j,hi,hj=>by
  rw[List.flatMap_cons,List.getElem?_append_right (by rw[hk,Nat.add_mul];omega),hk];have:(i+1)*k+j-k=i*k+j:=by rw[Nat.add_mul];omega
  rw[this,flatMap_get hk l i j (by simpa using hi) hj]
  rfl
theorem flatMap_len {α:Type} {enc:α->List Value} {k:Nat} (hk:∀x,(enc x).length=k) (l:List α):(l.flatMap enc).length=l.length*k:=by
 induction l with
 | nil=>simp
 | cons a l ih=>rw[List.flatMap_cons,List.length_append,hk,ih,List.length_cons,Nat.add_mul];omega
section
variable {r f:Int}
def BndK (M:Int) (x:K):Prop:= -M<=x.lo/\x.lo<=M/\ -M<=x.hi/\x.hi<=M/\0<=x.t/\x.t<=100000
def BndW (M:Int) (x:K):Prop:= -M<=x.lo/\x.hi<=M/\0<=x.t/\x.t<=100000
theorem BndK.w {M:Int} {x:K} (h:BndK M x):BndW M x:=by unfold BndK at h;unfold BndW;omega
theorem BndW.k {M:Int} {x:K} (h:BndW M x) (hv:x.lo<=x.hi):BndK M x:=by unfold BndW at h;unfold BndK;omega
end
def mlast (a n:K):K:=⟨a.t,max a.lo n.lo,min a.hi n.hi⟩
def mstep (out:List K) (n:K):List K:=
 if h:0<out.length then
  (if (out[out.length-1]'(by omega)).t=n.t then out.set (out.length-1) (mlast (out[out.length-1]'(by omega)) n) else out++[n])
 else out++[n]
theorem mstep_same {out:List K} {n:K} (h:0<out.length) (ht:(out[out.length-1]'(by omega)).t=n.t):mstep out n=out.set (out.length-1) (mlast (out[out.length-1]'(by omega)) n):=by
 simp[mstep,h,ht]
theorem mstep_new {out:List K} {n:K} (h:∀h:0<out.length,(out[out.length-1]'(by omega)).t≠n.t):mstep out n=out++[n]:=by
 unfold mstep
 split
 ·rename_i h0;rw[if_neg (h h0)]
 ·rfl
structure MInv (l out:List K):Prop where
 cov:Covers out l
 pos:0<l.length->0<out.length
 last:∀(h:0<out.length) (h':0<l.length),(out[out.length-1]'(by omega)).t=(l[l.length-1]'(by omega)).t
 sorted:out.Pairwise fun a b=>a.t<b.t
theorem Covers.snoc {m l:List K} (h:Covers m l) (n:K):Covers (m++[n]) (l++[n]):=by
 refine⟨fun a ha=> ?_,fun b hb=> ?_⟩
 ·rcases List.mem_append.1 ha with ha | ha
  ·obtain⟨b,hb,h1,h2,h3⟩:=h.1 a ha;exact⟨b,by simp[hb],h1,h2,h3⟩
  ·simp at ha;subst ha;exact⟨a,by simp,rfl,Int.le_refl _,Int.le_refl _⟩
 ·rcases List.mem_append.1 hb with hb | hb
  ·obtain⟨⟨a,ha,h1,h2⟩,⟨c,hc,h3,h4⟩⟩:=h.2 b hb;exact⟨⟨a,by simp[ha],h1,h2⟩,⟨c,by simp[hc],h3,h4⟩⟩
  ·simp at hb;subst hb;exact⟨⟨b,by simp,rfl,rfl⟩,⟨b,by simp,rfl,rfl⟩⟩
theorem Covers.meetLast {m l:List K} {a n:K} (h:Covers (m++[a]) l) (ht:a.t=n.t):Covers (m++[mlast a n]) (l++[n]):=by
 refine⟨fun x hx=> ?_,fun b hb=> ?_⟩
 ·rcases List.mem_append.1 hx with hx | hx
  ·obtain⟨b,hb,h1,h2,h3⟩:=h.1 x hx;rcases List.mem_append.1 hb with hb | hb
   ·exact⟨b,by simp[hb],h1,h2,h3⟩
   ·simp at hb;subst hb;exact⟨mlast b n,by simp,h1,by simp[mlast];omega,by simp[mlast];omega⟩
  ·simp at hx;subst hx;exact⟨mlast a x,by simp,ht,by simp[mlast];omega,by simp[mlast];omega⟩
 ·rcases List.mem_append.1 hb with hb | hb
  ·obtain⟨⟨x,hx,h1,h2⟩,⟨c,hc,h3,h4⟩⟩:=h.2 b (by simp[hb]);exact⟨⟨x,by simp[hx],h1,h2⟩,⟨c,by simp[hc],h3,h4⟩⟩
  ·simp at hb;subst hb;obtain⟨⟨x,hx,h1,h2⟩,⟨c,hc,h3,h4⟩⟩:=h.2 a (by simp);refine⟨?_,?_⟩
   ·rcases Int.le_total a.lo n.lo with hle | hle
    ·exact⟨n,by simp,by simp[mlast,ht],by simp[mlast];omega⟩
    ·exact⟨x,by simp[hx],by simp[mlast,h1],by simp[mlast];omega⟩
   ·rcases Int.le_total a.hi n.hi with hle | hle
    ·exact⟨c,by simp[hc],by simp[mlast,h3],by simp[mlast];omega⟩
    ·exact⟨n,by simp,by simp[mlast,ht],by simp[mlast];omega⟩
theorem MInv.nil:MInv [] []:=⟨⟨fun a ha=>by simp at ha,fun b hb=>by simp at hb⟩,fun h=>by simp at h,fun h=>by simp at h,List.Pairwise.nil⟩
theorem split_last {out:List K} (h:0<out.length):out=out.take (out.length-1)++[out[out.length-1]'(by omega)]:=by
 have:=List.take_succ_eq_append_getElem (l:=out) (i:=out.length-1) (by omega);rw[<- this,List.take_of_length_le (by omega)]
theorem MInv.step {l out:List K} {n:K} (h:MInv l out) (hs:(l++[n]).Pairwise fun a b=>a.t<=b.t):MInv (l++[n]) (mstep out n):=by
 by_cases h0:0<out.length
 ·have hl:0<l.length:=by
   obtain⟨⟨x,hx,_⟩,_⟩:=h.cov.2 (out[out.length-1]'(by omega)) (List.getElem_mem _);exact List.length_pos_of_mem hx
  have hlast:=h.last h0 hl
  have hle:(out[out.length-1]'(by omega)).t<=n.t:=by
   rw[hlast];rw[List.pairwise_append] at hs;exact hs.2.2 _ (List.getElem_mem _) n (by simp)
  obtain⟨a,ha⟩:∃a,a=out[out.length-1]'(by omega):=⟨_,rfl⟩
  have hsp:=split_last h0;rw[<- ha] at hle hlast hsp
  by_cases ht:a.t=n.t
  ·have e:mstep out n=out.take (out.length-1)++[mlast a n]:=by
    rw[mstep_same h0 (by rw[<- ha];exact ht),<-ha];apply List.ext_getElem (by simp;omega);intro i h1 h2;rw[List.getElem_set];simp at h1
    split
    ·rename_i hi;subst hi;rw[List.getElem_append_right (by simp)];simp
    ·rw[List.getElem_append_left (by simp;omega),List.getElem_take]
   rw[e];have hc:=h.cov;have hp:=h.sorted;rw[hsp] at hc hp;refine⟨hc.meetLast ht,fun _=>by simp,fun h1 h2=> ?_,?_⟩
   ·simp[mlast,ht]
   ·rw[List.pairwise_append] at hp ⊢;exact⟨hp.1,List.pairwise_singleton _ _,fun x hx y hy=>by simp at hy;subst hy;exact hp.2.2 x hx a (by simp)⟩
  ·rw[mstep_new (fun _=>by rw[<- ha];exact ht)];refine⟨h.cov.snoc n,fun _=>by simp,fun h1 h2=>by simp,?_⟩;rw[List.pairwise_append];refine⟨h.sorted,List.pairwise_singleton _ _,fun x hx y hy=> ?_⟩;simp at hy;subst hy;obtain⟨i,hi,rfl⟩:=List.mem_iff_getElem.1 hx
   by_cases hil:i=out.length-1
   ·subst hil;rw[<- ha];omega
   ·have:=(List.pairwise_iff_getElem.1 h.sorted) i (out.length-1) hi (by omega) (by omega);rw[<- ha] at this;omega
 ·have ho:out=[]:=List.eq_nil_of_length_eq_zero (by omega);subst ho
  have hl:l=[]:=by
   rcases Nat.eq_zero_or_pos l.length with h1 | h1
   ·exact List.eq_nil_of_length_eq_zero h1
   ·exact absurd (h.pos h1) (by simp)
  subst hl;have e:mstep [] n=[n]:=by simp[mstep]
  rw[e];exact⟨h.cov.snoc n,fun _=>by simp,fun _ _=>by simp,List.pairwise_singleton _ _⟩
end W7
namespace W7
open Go Go.RowKit Go.Shelf Go.Sort Go.Proofs
theorem flatK_flatMap {α:Type} [Inhabited α] {enc:α->List Value} {k:Nat} (hk:∀x,(enc x).length=k) (h0:0<k) (l:List α):flatK enc k l.toArray=(l.flatMap enc).toArray:=by
 apply ext_get!
 ·simp[flatMap_len hk]
 ·intro t ht;simp only[size_flatK,List.size_toArray] at ht;rw[get_flatK _ _ _ _ (by simpa using ht)];have hi:t/k<l.length:=Nat.div_lt_of_lt_mul (by rw[Nat.mul_comm];exact ht);have hj:t%k<k:=Nat.mod_lt _ h0;have e:=flatMap_get hk l (t/k) (t%k) hi hj;rw[Nat.mul_comm,Nat.div_add_mod] at e;have hlt:t<(l.flatMap enc).length:=by rw[flatMap_len hk];exact ht
  have h2:t%k<(enc l[t/k]).length:=by rw[hk];exact hj
  rw[List.getElem?_eq_getElem hlt,List.getElem?_eq_getElem h2] at e;have e':=Option.some.inj e;rw[getElem!_pos l.toArray (t/k) (by simpa using hi),getElem!_pos (l.flatMap enc).toArray t (by simpa using hlt)];simp only[List.getElem_toArray];rw[getElem!_pos (enc l[t/k]) (t%k) h2];exact e'.symm
theorem holdsK_of_own {α:Type} [Inhabited α] {enc:α->List Value} {k:Nat} (hk:∀x,(enc x).length=k) (h0:0<k) {w:World} {base g cap n e:Nat} {l:List α}
  (h:w.ownsRow base e k (.slice (some ⟨g,0,none⟩) n cap) n (l.flatMap enc)):HoldsK enc k w g 0 l.toArray:=by
 intro j hj;rw[flatK_flatMap hk h0] at hj ⊢;have hj':j<(l.flatMap enc).length:=by simpa using hj
 have hn:n*k=(l.flatMap enc).length:=h.1.symm;rw[Nat.zero_add];refine⟨?_,h.frozenAt j⟩;rw[h.cellAt j (by omega),List.getElem?_eq_getElem hj'];simp[List.getElem?_eq_getElem hj']
theorem own_of_sorted {α:Type} [Inhabited α] {enc:α->List Value} {k:Nat} (hk:∀x,(enc x).length=k) (h0:0<k) {w:World} {base g cap n e m:Nat} {os:Array Obj} {l l':List α}
  (h:w.ownsRow base e k (.slice (some ⟨g,0,none⟩) n cap) n (l.flatMap enc)) (hl:l'.length=l.length) :
  (sortWorldK enc k w g 0 m l'.toArray os).ownsRow base e k (.slice (some ⟨g,0,none⟩) n cap) n (l'.flatMap enc):=by
 have hn:n*k=l.length*k:=by have:=h.1;rw[flatMap_len hk] at this;omega
 rcases h.2 with⟨e0,_⟩ | ⟨g',cap',cur,e0,hb,hg,hnc,hm,hs,ht⟩
 ·cases e0
 ·injection e0 with e1 _ e3
  injection e1 with e1
  injection e1 with e1
  subst e1;subst e3;have hglt:g<w.heap.size:=(Array.getElem?_eq_some_iff.1 hg).1;refine⟨by rw[flatMap_len hk,hl,hn],.inr ⟨g,cap,putCells id 0 (l'.flatMap enc).toArray cur,rfl,hb,?_,hnc,hm,by simpa [putCells] using hs,?_⟩⟩
  ·unfold sortWorldK putRowK;rw[flatK_flatMap hk h0,heap_grow_old _ _ (by simpa using hglt)];simp[putRow,mapBlock,Sort.ahead,Array.getElem?_modify,hg,onCells]
  ·have hcs:n*k<=cur.size:=by rw[hs];exact Nat.mul_le_mul_right _ hnc
   have hll:(l'.flatMap enc).length=n*k:=by rw[flatMap_len hk,hl,hn]
   apply List.ext_getElem?;intro j
   by_cases hj:j<n*k
   ·rw[List.getElem?_take_of_lt hj,Array.getElem?_toList];simp only[putCells,Array.getElem?_mapIdx,Array.getElem?_eq_getElem (show j<cur.size by omega),Option.map_some];have hjl:j<(l'.flatMap enc).length:=by omega
    rw[if_pos ⟨Nat.zero_le _,by rw[List.size_toArray];omega⟩,List.getElem?_eq_getElem hjl];simp[List.getElem?_eq_getElem hjl]
   ·rw[List.getElem?_take_eq_none (by omega),List.getElem?_eq_none (by omega)]
theorem grown_of_sorted {α:Type} [Inhabited α] {enc:α->List Value} {k:Nat} {w:World} {g m:Nat} {os:Array Obj} {d:Array α}:w.grownBy (sortWorldK enc k w g 0 m d os) (some g):=by
 refine⟨rfl,rfl,rfl,by simp[sortWorldK,putRowK,putRow,mapBlock,Sort.ahead,grow],fun i hi hne=> ?_⟩;unfold sortWorldK putRowK;rw[heap_grow_old _ _ (by simpa [putRow,mapBlock,Sort.ahead] using hi)];have:g≠i:=fun e=>hne (by rw[e])
 simp[putRow,mapBlock,Sort.ahead,Array.getElem?_modify,this]
end W7
