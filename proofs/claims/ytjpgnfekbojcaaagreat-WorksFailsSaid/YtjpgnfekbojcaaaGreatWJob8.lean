/- A board is opened: a job whose tasks are placed one by one. -/
import Derived.Test.YtjpgnfekbojcaaaGreatWJob7
set_option maxHeartbeats 8000000
set_option maxRecDepth 100000
namespace Go.Proofs.YtjpgnfekbojcaaaGreat
open Go.RowKit W7 W8
attribute [local go_sem] Oper.semAt_some
theorem own_full {w:World} {base e g n:Nat} {xs:List Value} (h:w.ownsRow base e 1 (.slice (some ⟨g,0,none⟩) n n) n xs):w.heap[g]? =some (.cells xs.toArray e (0,0))/\base<=g:=by
 rcases h.2 with⟨e0,_⟩ | ⟨g',cap',cur,e0,hb,hg,h1,h2,h3,h4⟩
 ·cases e0
 ·injection e0 with e1 _ e3
  injection e1 with e1
  injection e1 with e1
  subst e1;subst e3;refine⟨?_,hb⟩;rw[hg]
  have:cur=xs.toArray:=by
   rw[<- h4,zG (by rw[Array.length_toList,h3];exact zm _)]
  rw[this]
theorem made_blk {W w w1:World} {e n:Nat} {z:Value} (hse:W.heap.size<=w.heap.size) (h:w1.ownsRow w.heap.size e 1 (.slice (some ⟨w.heap.size,0,none⟩) n n) n (madeCells #[z] (n*1)).toList):NewBlk W w1 w.heap.size (List.replicate n z).toArray e:=by
 rw[toList_madeCells_one,Nat.mul_one] at h;exact⟨hse,(own_full h).1⟩
structure OpenR (j:Job) (w:World) (e:Ending) (w':World):Prop where
 ex:∃g sb pb,e= .returned (.pointer (some ⟨g,0,none⟩))/\BdIn w' g sb pb j (bd0 j.p) 0/\w.heap.size<=g/\w.heap.size<=sb/\w.heap.size<=pb
 bel:Bl w w'
theorem opened_any (j:Job) (w:World) (h64:j.tasks.length<=64):Calls Tryz.prog 64 #[jobV j] w (OpenR j w):=by
 obtain⟨n,hn⟩:=eX j.tasks.length;obtain⟨W0,HW0,hs0,HB0,HX00,HU0⟩:=boxes1 w (.cells #[.slice j.TA j.tasks.length j.tc,.slice j.RA j.res.length j.rc] 25);have HJ:=hI (show jobV j= .agg #[.slice j.TA n j.tc,.slice j.RA j.res.length j.rc] by unfold jobV;rw[hn]);rw[HJ.o];rw[hn] at h64 HX00 HW0;have Hn:=hI hn;clear hn;obtain⟨i1,hi1,hi1a,hi1b,hi1c⟩:=info_parts (show(Tryz.prog.info? 3).map (fun i=>(i.zero,i.size,i.bytes))=some (some (.int .i64 0),1,8) by kernel_rfl);obtain⟨i2,hi2,hi2a,hi2b,hi2c⟩:=info_parts (show(Tryz.prog.info? 4).map (fun i=>(i.zero,i.size,i.bytes))=some (some (.bool false),1,1) by kernel_rfl);go_enter Tryz.func64,Tryz.ntmps64;go_upto_region 1 with fail;rw[<- HW0.o];have y0:=zV (kC 0 (HX00.o W0 (zX _ _)) rfl) (by omega);have y1:=zV (kC 1 (HX00.o W0 (zX _ _)) rfl) (by omega)
 obtain⟨C,hC⟩:∃C:(Nat->Bool)->(Nat->Value)->World->Prop,C=fun L V w'=>∃(e:Later W0) (gs gp gb:Nat),w'=e.w/\(L 0=true->V 0= .agg #[.slice j.TA n j.tc,.slice j.RA j.res.length j.rc])/\(L 1=true->V 1= .pointer (some ⟨w.heap.size,0,none⟩))/\(L 2=true->V 2= .slice j.TA n j.tc)/\(L 3=true->V 3= .int .i64 (n:Int))/\(L 4=true->V 4= .slice (some ⟨gs,0,none⟩) n n/\Hid (NewBlk W0 e.w gs (List.replicate n (.int .i64 0)).toArray 3)) ∧
  (L 5=true->V 5= .pointer (some ⟨w.heap.size,0,none⟩))/\(L 6=true->V 6= .slice j.TA n j.tc)/\(L 7=true->V 7= .int .i64 (n:Int))/\(L 8=true->V 8= .slice (some ⟨gp,0,none⟩) n n/\Hid (NewBlk W0 e.w gp (List.replicate n (.bool false)).toArray 4))/\(L 9=true->L 4=true/\L 8=true/\V 9= .agg #[.slice j.TA n j.tc,.slice j.RA j.res.length j.rc,.slice (some ⟨gs,0,none⟩) n n,.slice (some ⟨gp,0,none⟩) n n,.int .i64 0]) ∧
  (L 10=true->L 4=true/\L 8=true/\V 10= .pointer (some ⟨gb,0,none⟩)/\Hid (NewBlk W0 e.w gb #[.slice j.TA n j.tc,.slice j.RA j.res.length j.rc,.slice (some ⟨gs,0,none⟩) n n,.slice (some ⟨gp,0,none⟩) n n,.int .i64 0] 115))/\(L 11=true->L 10=true/\V 11= .pointer (some ⟨gb,0,none⟩)):=⟨_,rfl⟩
 have HC:=hI hC;clear hC;refine wp_region_opsA [3,4,5,6,7,8,9,10,11,12,13,2] C (by kernel_rfl) (by kernel_rfl) (by decide) (by kernel_rfl) (by kernel_rfl) ?_ ?_ ?_
 ·rw[HC.o];exact⟨⟨W0.drew,(zX _ _).drew⟩,0,0,0,rfl,nff,nff,nff,nff,nff,nff,nff,nff,nff,nff,nff,nff⟩
 ·rintro L V w' i o A hi ho hLi haf hInv hA hF;rw[HC.o] at hInv;obtain⟨e,gs,gp,gb,rfl,h0,h1,h2,h3,h4,h5,h6,h7,h8,h9,h10,h11⟩:=hInv;have hse:W0.heap.size<=e.w.heap.size:=e.b.size;rcases i with _ | _ | _ | _ | _ | _ | _ | _ | _ | _ | _ | _ | i;case succ.succ.succ.succ.succ.succ.succ.succ.succ.succ.succ.succ=>(simp at hi;try omega)
  all_goals (simp only[zR,zS,Option.some.injEq] at ho;subst ho)
  ·have f1:A.tmps[1]?.getD undef= .pointer (some ⟨w.heap.size,0,none⟩):=hF.out 1 (by decide);go_wp2;rw[HC.o];exact⟨_,rfl,e,gs,gp,gb,rfl,fun _=>rfl,h1,h2,h3,h4,h5,h6,h7,h8,h9,h10,h11⟩
  ·have f1:A.tmps[1]?.getD undef= .pointer (some ⟨w.heap.size,0,none⟩):=hF.out 1 (by decide);go_wp2;rw[HC.o];exact⟨_,rfl,e,gs,gp,gb,rfl,h0,fun _=>rfl,h2,h3,h4,h5,h6,h7,h8,h9,h10,h11⟩
  ·have a1:=(hA.out 1 4 rfl).trans (h1 (haf ⟨1,.data⟩ (by simp) rfl));go_wp2;rw[HC.o];exact⟨_,rfl,e,gs,gp,gb,rfl,h0,h1,fun _=>rfl,h3,h4,h5,h6,h7,h8,h9,h10,h11⟩
  ·have a2:=(hA.out 2 5 rfl).trans (h2 (haf ⟨2,.data⟩ (by simp) rfl));go_wp2;rw[HC.o];exact⟨_,rfl,e,gs,gp,gb,rfl,h0,h1,h2,fun _=>rfl,h4,h5,h6,h7,h8,h9,h10,h11⟩
  ·have a3:=(hA.out 3 6 rfl).trans (h3 (haf ⟨3,.data⟩ (by simp) rfl));go_wp2_with (at_make;refine wpList_make_full _ rfl _ _ 26 rfl e.w.heap.size 3 _ (.int .i64 0) 1 Tryz.underlying26 hi1 hi1a hi1b .i64 .i64 _ _ n (ev_of a3) (ev_of a3) rfl rfl (by rw[hi1c];omega) (by unfold maxLen;omega) (zm _) ?_;intro w1 hown1 hg1;have Hb1:=hI ((zX e.w.heap.size e.w).grown hg1 (zm _) (fun k hk=>by cases hk));have Hn1:=hI (made_blk hse hown1);clear hown1 hg1);rw[HC.o];exact⟨_,rfl,⟨_,e.b.trans (Hb1.o.mono hse)⟩,e.w.heap.size,gp,gb,rfl,h0,h1,h2,h3,fun _=>⟨rfl,Hn1⟩,h5,h6,h7,fun y=>⟨(h8 y).1,hI ((h8 y).2.out.below Hb1.o)⟩,fun y=>absurd (hLi.symm.trans (h9 y).1) (by decide),fun y=>absurd (hLi.symm.trans (h10 y).1) (by decide),h11⟩
  ·have f1:A.tmps[1]?.getD undef= .pointer (some ⟨w.heap.size,0,none⟩):=hF.out 1 (by decide);go_wp2;rw[HC.o];exact⟨_,rfl,e,gs,gp,gb,rfl,h0,h1,h2,h3,h4,fun _=>rfl,h6,h7,h8,h9,h10,h11⟩
  ·have a5:=(hA.out 5 8 rfl).trans (h5 (haf ⟨5,.data⟩ (by simp) rfl));go_wp2;rw[HC.o];exact⟨_,rfl,e,gs,gp,gb,rfl,h0,h1,h2,h3,h4,h5,fun _=>rfl,h7,h8,h9,h10,h11⟩
  ·have a6:=(hA.out 6 9 rfl).trans (h6 (haf ⟨6,.data⟩ (by simp) rfl));go_wp2;rw[HC.o];exact⟨_,rfl,e,gs,gp,gb,rfl,h0,h1,h2,h3,h4,h5,h6,fun _=>rfl,h8,h9,h10,h11⟩
  ·have a7:=(hA.out 7 10 rfl).trans (h7 (haf ⟨7,.data⟩ (by simp) rfl));go_wp2_with (at_make;refine wpList_make_full _ rfl _ _ 113 rfl e.w.heap.size 4 _ (.bool false) 1 Tryz.underlying113 hi2 hi2a hi2b .i64 .i64 _ _ n (ev_of a7) (ev_of a7) rfl rfl (by rw[hi2c];omega) (by unfold maxLen;omega) (zm _) ?_;intro w1 hown1 hg1;have Hb1:=hI ((zX e.w.heap.size e.w).grown hg1 (zm _) (fun k hk=>by cases hk));have Hn1:=hI (made_blk hse hown1);clear hown1 hg1);rw[HC.o];exact⟨_,rfl,⟨_,e.b.trans (Hb1.o.mono hse)⟩,gs,e.w.heap.size,gb,rfl,h0,h1,h2,h3,fun y=>⟨(h4 y).1,hI ((h4 y).2.out.below Hb1.o)⟩,h5,h6,h7,fun _=>⟨rfl,Hn1⟩,fun y=>absurd (hLi.symm.trans (h9 y).2.1) (by decide),fun y=>absurd (hLi.symm.trans (h10 y).2.1) (by decide),h11⟩
  ·have a0:=(hA.out 0 3 rfl).trans (h0 (haf ⟨0,.data⟩ (by simp) rfl));have a4:=(hA.out 4 7 rfl).trans (h4 (haf ⟨4,.data⟩ (by simp) rfl)).1;have a8:=(hA.out 8 11 rfl).trans (h8 (haf ⟨8,.data⟩ (by simp) rfl)).1;have l4:=haf ⟨4,.data⟩ (by simp) rfl;have l8:=haf ⟨8,.data⟩ (by simp) rfl;go_wp2;rw[HC.o];exact⟨_,rfl,e,gs,gp,gb,rfl,h0,h1,h2,h3,h4,h5,h6,h7,h8,fun _=>⟨l4,l8,rfl⟩,h10,h11⟩
  ·have l9:=h9 (haf ⟨9,.data⟩ (by simp) rfl);have a9:=(hA.out 9 12 rfl).trans l9.2.2;go_wp2;have hNew:Below e.w.heap.size e.w (e.w.alloc (.cells #[.slice j.TA n j.tc,.slice j.RA j.res.length j.rc,.slice (some ⟨gs,0,none⟩) n n,.slice (some ⟨gp,0,none⟩) n n,.int .i64 0] 115)):=(zX _ _).alloc (zm _) _;rw[HC.o];exact⟨_,rfl,⟨_,e.b.trans (hNew.mono hse)⟩,gs,gp,e.w.heap.size,rfl,h0,h1,h2,h3,fun y=>⟨(h4 y).1,hI ((h4 y).2.out.below hNew)⟩,h5,h6,h7,fun y=>⟨(h8 y).1,hI ((h8 y).2.out.below hNew)⟩,h9,fun _=>⟨l9.1,l9.2.1,rfl,hI (NewBlk.new hse)⟩,fun y=>absurd (hLi.symm.trans (h11 y).1) (by decide)⟩
  ·have l10:=h10 (haf ⟨10,.data⟩ (by simp) rfl);have l10':=haf ⟨10,.data⟩ (by simp) rfl;have a10:=(hA.out 10 13 rfl).trans l10.2.2.1;go_wp2;rw[HC.o];exact⟨_,rfl,e,gs,gp,gb,rfl,h0,h1,h2,h3,h4,h5,h6,h7,h8,h9,h10,fun _=>⟨l10',rfl⟩⟩
 ·rintro L V w' hL hInv;rw[HC.o] at hInv;obtain⟨e,gs,gp,gb,rfl,_,_,_,_,h4,_,_,_,h8,_,h10,h11⟩:=hInv;have b4:=(h4 (hL 4 (by simp))).2.out;have b8:=(h8 (hL 8 (by simp))).2.out;have b10:=(h10 (hL 10 (by simp))).2.2.2.out;have v11:=(h11 (hL 11 (by simp))).2;have HR:=hI (show OpenR j w (.returned (.pointer (some ⟨gb,0,none⟩))) e.w from⟨⟨gb,gs,gp,rfl,⟨by rw[Hn.o];exact b10.2,by rw[show(bd0 j.p).st.map (Value.int .i64)=List.replicate n (.int .i64 0) by unfold bd0;rw[j.nt,Hn.o,List.map_replicate]];exact b4.2,by rw[show(bd0 j.p).pl.map Value.bool=List.replicate n (.bool false) by unfold bd0;rw[j.nt,Hn.o,List.map_replicate]];exact b8.2,by simp[bd0,j.nt],by simp[bd0,j.nt]⟩,Nat.le_trans (by omega) b10.1,Nat.le_trans (by omega) b4.1,Nat.le_trans (by omega) b8.1⟩,HU0.o _ e.b⟩);clear h4 h8 h10 h11 hL HC b4 b8 b10;simp only[putAll];rw[v11];go_frame;go_wp2;go_ret;exact HR.o
end Go.Proofs.YtjpgnfekbojcaaaGreat
namespace W8
open W7
theorem any_not_all {α:Type} (f:α->Bool):∀l:List α,(!l.any (fun x=> !f x))=l.all f
 | []=>rfl
 | x::l=>by
  rw[List.any_cons,List.all_cons,<-any_not_all f l];cases f x<;>simp
theorem serialGo_none {j:JobP} {fr:Int} {order:List Int} {f:Nat} {b:Bd} (h:order.find? (fun n=>mayB j b.pl n.toNat)=none):serialGo j fr order (f+1) b=(true,b):=by
 simp only[serialGo,h]
theorem serialGo_no {j:JobP} {fr:Int} {order:List Int} {f:Nat} {b:Bd} {n:Int} (h:order.find? (fun n=>mayB j b.pl n.toNat)=some n) (h2:placeV j b fr n.toNat=none):serialGo j fr order (f+1) b=(false,b):=by
 simp only[serialGo,h,h2]
theorem serialGo_put {j:JobP} {fr:Int} {order:List Int} {f:Nat} {b:Bd} {n s:Int} (h:order.find? (fun n=>mayB j b.pl n.toNat)=some n) (h2:placeV j b fr n.toNat=some s):serialGo j fr order (f+1) b=serialGo j fr order f (b.put n.toNat s):=by
 simp only[serialGo,h,h2]
end W8
namespace Go.Proofs.YtjpgnfekbojcaaaGreat
open Go.RowKit W7 W8
attribute [local go_sem] Oper.semAt_some
theorem may1_any (j:Job) (b:Bd) (fr:Int) (q bb g sb pb:Nat) (w:World) (hb:BdIn w g sb pb j b fr) (hq:q<j.tasks.length) (h0:w.cell? ⟨bb,0,none⟩=some (.pointer (some ⟨g,0,none⟩))) :
  Calls Tryz.prog 181 #[.int .i64 (q:Int),.pointer (some ⟨bb,0,none⟩)] w fun e w'=>e= .returned (.bool (!b.pl.getD q false))/\Bl w w':=by
 have p1:=kC 3 hb.hg rfl;have cp:=hb.pl hq;generalize b.pl.getD q false=pl at cp;obtain⟨n,hn⟩:=eX j.tasks.length;rw[hn] at p1 hq;clear hb hn;go_enter Tryz.func181,Tryz.ntmps181;go_wp2;go_ret;exact⟨rfl,zX _ _⟩
set_option maxHeartbeats 1000000 in
theorem idxMay1_any (P:Int->Bool) (a0:Value) (xs:List Int) (n:Nat) (hn:n=xs.length) (A:Option Addr) (c B:Nat) (w:World) (hA:Sl w B 1 encInt1 A xs) (hB:B<=w.heap.size) (hl:xs.length<=9223372036854775807)
    (hF:∀(x:Int),x∈xs->∀(W:World),Bl w W->Calls Tryz.prog 181 #[.int .i64 x,a0] W fun e w'=>e= .returned (.bool (P x))/\Bl W w') :
    Calls Tryz.prog 132 #[.slice A n c,.func (.func 181) #[] #[a0]] w fun e w'=>e= .returned (.int .i64 (idxB P xs))/\Bl w w':=by
  subst hn;have HA:=hI hA;have HF:=hI hF;clear hA hF;go_enter Tryz.func132,Tryz.ntmps132;go_wp2;go_loopw [8] (fun i wr=>∃k:Nat,k<=xs.length/\i= .int .i64 k/\Hid ((xs.take k).any P=false)/\Hid (Bl w wr)) (fun i _=>xs.length-(intOf i).toNat);case atStart=>exact⟨0,by omega,rfl,hI (by simp),hI (zX _ _)⟩
  case round=>
    obtain⟨k,hk,rfl,Hno,Hb⟩:=hrel;have hsz:=Hb.o.size
    by_cases hlt:k<xs.length
    · obtain⟨b,off,rfl,hbB,hcells⟩:=(HA.o.below (Hb.o.mono hB)) (by omega)
      have h0:=hcells k hlt;clear hcells;have c0:wr.cell? ⟨b,off+k,none⟩=some (.int .i64 xs[k]):=(by have h:=h0 0 _ rfl;rwa [Nat.mul_one,Nat.add_zero] at h)
      have Hs:=hI (any_take_succ (p:=P) hlt Hno.o);have Hh:=hI (idxB_hit (p:=P) hlt Hno.o);have HK:=hI (fun(W:World) (hW:Bl w W)=>HF.o xs[k] (zC hlt) W hW);generalize xs[k]=x at c0 Hs Hh HK;clear h0;cases hp:P x
      · have HK2:=hI (fun(W:World) (hW:Bl w W)=>hp▸HK.o W hW)
        go_wp2_with (go_at_call 181;refine(HK2.o _ (by first | exact Hb.o | exact Hb.o.alloc (by omega) _)).mono ?_;rintro e w1 ⟨rfl,hb1⟩;have Hb1:=hI hb1;clear hb1);go_roundw;case rel=>exact⟨k+1,by omega,by go_num,hI (Hs.o hp),hI (by first | exact Hb.o.trans (Hb1.o.mono hsz) | exact(Hb.o.alloc (by omega) _).trans (Hb1.o.mono (by simp;omega)))⟩
        case measure=>simp[intOf];omega
      · have HK2:=hI (fun(W:World) (hW:Bl w W)=>hp▸HK.o W hW)
        go_wp2_with (go_at_call 181;refine(HK2.o _ (by first | exact Hb.o | exact Hb.o.alloc (by omega) _)).mono ?_;rintro e w1 ⟨rfl,hb1⟩;have Hb1:=hI hb1;clear hb1);go_ret;exact⟨ret_int (Hh.o hp).symm,(by first | exact Hb.o.trans (Hb1.o.mono hsz) | exact(Hb.o.alloc (by omega) _).trans (Hb1.o.mono (by simp;omega)))⟩
    · have HN:=hI (idxB_none (p:=P) (xs:=xs) (by rw[<- Hno.o,zG (by omega)]))
      go_wp2;go_ret;exact⟨ret_int HN.o.symm,Hb.o⟩
theorem conMay1_any (P:Int->Bool) (a0:Value) (xs:List Int) (n:Nat) (hn:n=xs.length) (A:Option Addr) (c B:Nat) (w:World) (hA:Sl w B 1 encInt1 A xs) (hB:B<=w.heap.size) (hl:xs.length<=9223372036854775807)
    (hF:∀(x:Int),x∈xs->∀(W:World),Bl w W->Calls Tryz.prog 181 #[.int .i64 x,a0] W fun e w'=>e= .returned (.bool (P x))/\Bl W w') :
    Calls Tryz.prog 60 #[.slice A n c,.func (.func 181) #[] #[a0]] w fun e w'=>e= .returned (.bool (xs.any P))/\Bl w w':=by
  have H:=hI (idxMay1_any P a0 xs n hn A c B w hA hB hl hF);have HI:=hI (idxB_any (p:=P) (xs:=xs));clear hA hn hF;go_enter Tryz.func60,Tryz.ntmps60;go_wp2_with (go_at_call 132;refine H.o.mono ?_;rintro e w1 ⟨rfl,hb1⟩;have Hb1:=hI hb1;clear hb1);go_ret;exact⟨ret_bool HI.o,Hb1.o⟩

theorem may_any (j:Job) (b:Bd) (fr:Int) (i g sb pb B:Nat) (w:World) (hb:BdIn w g sb pb j b fr) (hj:JIn w B j) (hB:B<=w.heap.size) (hG:JGood j.p) (hi:i<j.tasks.length) :
  Calls Tryz.prog 133 #[.pointer (some ⟨g,0,none⟩),.int .i64 (i:Int)] w fun e w'=>e= .returned (.bool (mayB j.p b.pl i))/\Bl w w':=by
 obtain⟨n,hn⟩:=eX j.tasks.length;obtain⟨W0,HW0,hs0,HB0,HX00,HU0⟩:=boxes1 w (.cells #[.pointer (some ⟨g,0,none⟩)] 110);have h64:n<=64:=by have:=hG.nt;rw[j.nt] at this;omega
 have hlc:=hj.tl;have hc2:=hj.tc;rw[hn] at hlc;have hb0:=hb.below HB0.o;have hj0:=hj.below (HB0.o.mono hB);have HB:=hI (show ∀X:World,Bl W0 X->BdIn X g sb pb j b fr/\JIn X B j from fun X hX=>⟨hb.below (HU0.o X hX),hj.below ((HU0.o X hX).mono hB)⟩);obtain⟨tb,off,hTA,htb⟩:=hj.ta (by omega);obtain⟨_,_,c2,_⟩:=hj0.tcells hTA hi;have p0:=kC 0 hb0.hg rfl;have p1:=kC 3 hb0.hg rfl;have cp:=hb0.pl hi;rw[hn] at p0 p1;rw[hTA] at p0;have hTk:=hj0.tks _ (j.T_mem hi);have hnl:=hTk.nl;have hnc:=hTk.nc;have Hns:=hI hTk.ns;have HNd:=hI (hG.needs _ (j.Tp_mem hi));have hnn:=needs_len hG (j.Tp_mem hi);have HM:=hI (show mayB j.p b.pl i=(!b.pl.getD i false&& !(j.T i).p.needs.any (fun k=> !b.pl.getD k.toNat false)) by unfold mayB standB;rw[j.pT,any_not_all]);generalize j.T i=t at c2 Hns HNd hnn HM hnl hnc;generalize b.pl.getD i false=pl at cp HM;have v0:=kC 0 (HX00.o W0 (zX _ _)) rfl;obtain⟨NA,hNA⟩:=eX t.NA
 obtain⟨nn,hnn'⟩:=eX t.p.needs.length;rw[hNA,hnn'] at c2;rw[hNA] at Hns;rw[hnn'] at hnl hnn
 have HC:=hI (conMay1_any (fun k=> !b.pl.getD k.toNat false) (.pointer (some ⟨w.heap.size,0,none⟩)) t.p.needs nn hnn'.symm NA t.nc B W0 Hns.o (by omega) (by omega) (fun x hx W hW=>by
  have h1:=HNd.o x hx;obtain⟨q,hq⟩:∃q:Nat,x=q:=⟨x.toNat,by omega⟩
  subst hq;exact may1_any j b fr q w.heap.size g sb pb W (HB.o W hW).1 (by have:=h1.2;rw[j.nt] at this;omega) (kC 0 (HX00.o W hW) rfl)))
 generalize t.p.needs.any (fun k=> !b.pl.getD k.toNat false)=an at HC HM;rw[hn] at hi;clear hb hj hG hn hb0 hj0 hTA hTk hNA hnn';go_enter Tryz.func133,Tryz.ntmps133;go_upto_region 1 with fail;rw[<- HW0.o];cases pl
 ·go_wp2_with (go_at_call 60;refine HC.o.mono ?_;rintro e w2 ⟨rfl,hb2⟩;have Hb2:=hI hb2;clear hb2);go_ret;exact⟨ret_bool (by rw[HM.o];simp),HU0.o _ Hb2.o⟩
 ·go_wp2;go_ret;exact⟨ret_bool (by rw[HM.o];simp),HB0.o⟩
set_option maxHeartbeats 1000000 in
theorem idxMay_any (P:Int->Bool) (b0:Value) (xs:List Int) (n:Nat) (hn:n=xs.length) (A:Option Addr) (c B:Nat) (w:World) (hA:Sl w B 1 encInt1 A xs) (hB:B<=w.heap.size) (hl:xs.length<=9223372036854775807)
    (hF:∀(x:Int),x∈xs->∀(W:World),Bl w W->Calls Tryz.prog 133 #[b0,.int .i64 x] W fun e w'=>e= .returned (.bool (P x))/\Bl W w') :
    Calls Tryz.prog 132 #[.slice A n c,.func (.func 133) #[b0] #[]] w fun e w'=>e= .returned (.int .i64 (idxB P xs))/\Bl w w':=by
  subst hn;have HA:=hI hA;have HF:=hI hF;clear hA hF;go_enter Tryz.func132,Tryz.ntmps132;go_wp2;go_loopw [8] (fun i wr=>∃k:Nat,k<=xs.length/\i= .int .i64 k/\Hid ((xs.take k).any P=false)/\Hid (Bl w wr)) (fun i _=>xs.length-(intOf i).toNat);case atStart=>exact⟨0,by omega,rfl,hI (by simp),hI (zX _ _)⟩
  case round=>
    obtain⟨k,hk,rfl,Hno,Hb⟩:=hrel;have hsz:=Hb.o.size
    by_cases hlt:k<xs.length
    · obtain⟨b,off,rfl,hbB,hcells⟩:=(HA.o.below (Hb.o.mono hB)) (by omega)
      have h0:=hcells k hlt;clear hcells;have c0:wr.cell? ⟨b,off+k,none⟩=some (.int .i64 xs[k]):=(by have h:=h0 0 _ rfl;rwa [Nat.mul_one,Nat.add_zero] at h)
      have Hs:=hI (any_take_succ (p:=P) hlt Hno.o);have Hh:=hI (idxB_hit (p:=P) hlt Hno.o);have HK:=hI (fun(W:World) (hW:Bl w W)=>HF.o xs[k] (zC hlt) W hW);generalize xs[k]=x at c0 Hs Hh HK;clear h0;cases hp:P x
      · have HK2:=hI (fun(W:World) (hW:Bl w W)=>hp▸HK.o W hW)
        go_wp2_with (go_at_call 133;refine(HK2.o _ (by first | exact Hb.o | exact Hb.o.alloc (by omega) _)).mono ?_;rintro e w1 ⟨rfl,hb1⟩;have Hb1:=hI hb1;clear hb1);go_roundw;case rel=>exact⟨k+1,by omega,by go_num,hI (Hs.o hp),hI (by first | exact Hb.o.trans (Hb1.o.mono hsz) | exact(Hb.o.alloc (by omega) _).trans (Hb1.o.mono (by simp;omega)))⟩
        case measure=>simp[intOf];omega
      · have HK2:=hI (fun(W:World) (hW:Bl w W)=>hp▸HK.o W hW)
        go_wp2_with (go_at_call 133;refine(HK2.o _ (by first | exact Hb.o | exact Hb.o.alloc (by omega) _)).mono ?_;rintro e w1 ⟨rfl,hb1⟩;have Hb1:=hI hb1;clear hb1);go_ret;exact⟨ret_int (Hh.o hp).symm,(by first | exact Hb.o.trans (Hb1.o.mono hsz) | exact(Hb.o.alloc (by omega) _).trans (Hb1.o.mono (by simp;omega)))⟩
    · have HN:=hI (idxB_none (p:=P) (xs:=xs) (by rw[<- Hno.o,zG (by omega)]))
      go_wp2;go_ret;exact⟨ret_int HN.o.symm,Hb.o⟩

theorem serial_any (j:Job) (fr:Int) (order:List Int) (g sb pb B m oc:Nat) (OA:Option Addr) (b:Bd) (w:World) (hm:m=order.length) (hm2:m<=64) (hmo:m<=oc) (hoc:oc<=9223372036854775807)
  (hb:BdIn w g sb pb j b fr) (hj:JIn w B j) (hBs:B<=sb) (hBp:B<=pb) (hne:g≠sb/\g≠pb/\sb≠pb) (hG:JGood j.p) (hs:BOk b) (hfr:0<=fr/\fr<=200000) (hord:∀x∈order,0<=x/\x<j.tasks.length) (hO:∀X,Kept2 w X sb pb->Sl X X.heap.size 1 encInt1 OA order) :
  Calls Tryz.prog 65 #[.pointer (some ⟨g,0,none⟩),.slice OA m oc] w fun e w'=>e= .returned (.bool (serialGo j.p fr order m b).1)/\Kept2 w w' sb pb/\BdIn w' g sb pb j (serialGo j.p fr order m b).2 fr:=by
 have HJ:=hI (show ∀X,Kept2 w X sb pb->JIn X B j from fun X hX=>hj.below (hX.below hBs hBp (by have:=blk_lt hb.hs;omega)));have hBw:B<=w.heap.size:=by have:=blk_lt hb.hs;omega
 have HG:=hI hG;have Hne:=hI hne;have Hm:=hI hm;have HOr:=hI hord;have HO:=hI hO;have Hb0:=hI hb;have Hs0:=hI hs;obtain⟨SG,hSG⟩:=eX (serialGo j.p fr order m b);have HSG:=hI hSG;rw[hSG];clear hb hj hG hne hm hord hO hs hSG;go_enter Tryz.func65,Tryz.ntmps65;go_wp2;go_loopw [8] (fun v8 wr=>∃(i:Nat) (bd:Bd),i<=m/\v8= .int .i64 i/\Hid (Kept2 w wr sb pb)/\Hid (BdIn wr g sb pb j bd fr)/\Hid (BOk bd)/\Hid (serialGo j.p fr order (m-i) bd=SG)) (fun v8 _=>m-(intOf v8).toNat);case atStart=>exact⟨0,b,by omega,rfl,hI (Kept2.refl _ _ _),Hb0,Hs0,HSG⟩
 case round=>
  obtain⟨i,bd,hi,rfl,HK,Hb,Hs,HSg⟩:=hrel;have hsk:=HK.o.size
  by_cases hlt:i<m
  ·obtain⟨ob,ooff,hoe,hob,_⟩:=(HO.o _ HK.o) (by have:=Hm.o;omega)
   subst hoe
   have HI:=hI (idxMay_any (fun x=>mayB j.p bd.pl x.toNat) (.pointer (some ⟨g,0,none⟩)) order m Hm.o (some ⟨ob,ooff,none⟩) oc wr.heap.size wr (HO.o _ HK.o) (zm _) (by have:=Hm.o;omega) (fun x hx W hW=>by
    have h1:=HOr.o x hx;obtain⟨q,hq⟩:∃q:Nat,x=q:=⟨x.toNat,by omega⟩
    subst hq;exact may_any j bd fr q g sb pb B W (Hb.o.below hW) ((HJ.o _ HK.o).below (hW.mono (by omega))) (by have:=hW.size;omega) HG.o (by omega)))
   obtain⟨f,hf⟩:∃f,m-i=f+1:=⟨m-i-1,by omega⟩
   have Hf:=hI hf;rw[hf] at HSg;clear hf
   by_cases hv:0<=idxB (fun x=>mayB j.p bd.pl x.toNat) order
   ·obtain⟨kk,hkk,hvk⟩:=idx_lt hv;have hfi:=find_hit hkk hvk;have ho1:=HOr.o _ (zC hkk)
    have HCk:=hI (show ∀X:World,Bl wr X->X.cell? ⟨ob,ooff+kk,none⟩=some (.int .i64 order[kk]) from fun X hX=>by
     obtain⟨b9,o9,e9,_,hc9⟩:=(HO.o X (HK.o.trans (Kept2.of_below hX))) (by omega)
     cases e9;have h:=hc9 kk hkk 0 _ rfl
     rwa [Nat.mul_one,Nat.add_zero] at h)
    rw[hvk] at HI;have hkm:kk<m:=by have:=Hm.o;omega
    generalize order[kk]=x at hfi ho1 HCk;obtain⟨q,hq⟩:∃q:Nat,x=q:=⟨x.toNat,by omega⟩
    subst hq;have hql:q<j.tasks.length:=by omega
    have hqp:q<j.p.tasks.length:=by rw[j.nt];exact hql
    cases hpv:placeV j.p bd fr q with
    | none=>
     have HR:=hI (show placeR j.p bd fr q=(false,bd) by unfold placeR;rw[hpv]);have HE:=hI (show SG=(false,bd) by rw[<- HSg.o];exact serialGo_no hfi (by rw[zZ];exact hpv));clear hv hvk hfi hpv ho1;go_upto_region 6 with(go_at_call 132;refine HI.o.mono ?_;rintro e w2 ⟨rfl,hb2⟩;have hs2:=hb2.size;have Hb2:=hI hb2;clear hb2)
     have c0:=HCk.o w2 Hb2.o;have HPl:=hI (place_any j bd fr q g sb pb B w2 (Hb.o.below Hb2.o) ((HJ.o _ HK.o).below (Hb2.o.mono (by omega))) (by omega) Hne.o HG.o Hs.o hql hfr);rw[HR.o] at HPl;go_wp2_with (go_at_call 134;refine HPl.o.mono ?_;rintro e w3 ⟨rfl,hk3,hb3⟩;have Hk3:=hI hk3;have Hb3:=hI hb3;clear hk3 hb3);go_ret;rw[HE.o];exact⟨rfl,(HK.o.trans (Kept2.of_below Hb2.o)).trans Hk3.o,Hb3.o⟩
    | some st=>
     have HR:=hI (show placeR j.p bd fr q=(true,bd.put q st) by unfold placeR;rw[hpv]);have HE:=hI (show serialGo j.p fr order f (bd.put q st)=SG by rw[<- HSg.o];exact(serialGo_put hfi (by rw[zZ];exact hpv)).symm);have HSn:=hI (show BOk (bd.put q st) from Hs.o.put ⟨(place_bd HG.o Hs.o hfr hqp hpv).1,(place_bd HG.o Hs.o hfr hqp hpv).2.1⟩);clear hv hvk hfi hpv ho1;go_upto_region 6 with(go_at_call 132;refine HI.o.mono ?_;rintro e w2 ⟨rfl,hb2⟩;have hs2:=hb2.size;have Hb2:=hI hb2;clear hb2)
     have c0:=HCk.o w2 Hb2.o;have HPl:=hI (place_any j bd fr q g sb pb B w2 (Hb.o.below Hb2.o) ((HJ.o _ HK.o).below (Hb2.o.mono (by omega))) (by omega) Hne.o HG.o Hs.o hql hfr);rw[HR.o] at HPl;go_wp2_with (go_at_call 134;refine HPl.o.mono ?_;rintro e w3 ⟨rfl,hk3,hb3⟩;have Hk3:=hI hk3;have Hb3:=hI hb3;clear hk3 hb3);go_roundw;case rel=>exact⟨i+1,bd.put q st,by omega,by go_num,hI ((HK.o.trans (Kept2.of_below Hb2.o)).trans Hk3.o),Hb3,HSn,hI (by rw[show m-(i+1)=f by have:=Hf.o;omega];exact HE.o)⟩
     case measure=>simp[intOf];omega
   ·have HE:=hI (show SG=(true,bd) by rw[<- HSg.o];exact serialGo_none (find_no hv));generalize idxB (fun x=>mayB j.p bd.pl x.toNat) order=iv at hv HI;go_wp2_with (go_at_call 132;refine HI.o.mono ?_;rintro e w2 ⟨rfl,hb2⟩;have Hb2:=hI hb2;clear hb2);go_ret;rw[HE.o];exact⟨rfl,HK.o.trans (Kept2.of_below Hb2.o),Hb.o.below Hb2.o⟩
  ·have HE:=hI (show SG=(true,bd) by rw[<- HSg.o,show m-i=0 by omega];rfl);go_wp2;go_ret;rw[HE.o];exact⟨rfl,HK.o,Hb.o⟩
end Go.Proofs.YtjpgnfekbojcaaaGreat
namespace W8
open W7
theorem firstMay_none {j:JobP} {pl:List Bool} {f:Nat} {out:List Int} (h:firstMay j pl=none):ordGo j (f+1) pl out=out:=by
 simp only[ordGo,h]
theorem firstMay_some {j:JobP} {pl:List Bool} {f k:Nat} {out:List Int} (h:firstMay j pl=some k):ordGo j (f+1) pl out=ordGo j f (pl.set k true) (out++[(k:Int)]):=by
 simp only[ordGo,h]
def lenV:Go.Value->Nat
 | .slice _ n _=>n
 | _=>0
def notPl (pl:List Bool):Nat:=pl.count false
theorem notPl_set {pl:List Bool} {k:Nat} (hk:k<pl.length) (h:pl.getD k false=false):notPl (pl.set k true)+1=notPl pl:=by
 unfold notPl;have h1:pl[k]=false:=by rw[zA,zB hk] at h;exact h
 rw[List.count_set hk,h1];have:0<pl.count false:=List.count_pos_iff.2 (h1▸zC hk);simp;omega
theorem firstMay_lt {j:JobP} {pl:List Bool} {k:Nat} (h:firstMay j pl=some k):k<j.tasks.length/\pl.getD k false=false:=by
 unfold firstMay at h;have h1:=List.mem_range.1 (List.mem_of_find?_eq_some h);have h2:=List.find?_some h;unfold mayB at h2;simp only[zY,Bool.not_eq_true'] at h2;exact⟨h1,h2.1⟩
theorem no_may_none {j:JobP} {pl:List Bool} (h:(List.range j.tasks.length).any (mayB j pl)=false):firstMay j pl=none:=by
 unfold firstMay;rw[List.find?_eq_none];intro x hx hm;rw[List.any_eq_false] at h;exact h x hx hm
theorem may_first {j:JobP} {pl:List Bool} {i:Nat} (hi:i<j.tasks.length) (h:(List.range i).any (mayB j pl)=false) (h2:mayB j pl i=true):firstMay j pl=some i:=by
 unfold firstMay;rw[List.find?_eq_some_iff_getElem];refine⟨h2,i,by simpa using hi,by simp,fun k hk=> ?_⟩;rw[List.any_eq_false] at h;have:=h k (List.mem_range.2 hk)
 simpa using this
theorem ordGo_full {j:JobP} {pl:List Bool} {out:List Int} (f:Nat) (h:firstMay j pl=none):ordGo j f pl out=out:=by
 cases f with
 | zero=>rfl
 | succ f=>exact firstMay_none h
theorem range_any_succ {p:Nat->Bool} {i:Nat} (h:(List.range i).any p=false) (h2:p i=false):(List.range (i+1)).any p=false:=by
 rw[List.range_succ,List.any_append,h];simp[h2]
end W8
namespace Go.Proofs.YtjpgnfekbojcaaaGreat
open Go.RowKit W7 W8
attribute [local go_sem] Oper.semAt_some
theorem ord1_any (pl:List Bool) (q bb pb n:Nat) (w:World) (h0:w.cell? ⟨bb,0,none⟩=some (.slice (some ⟨pb,0,none⟩) n n)) (hp:w.heap[pb]? =some (.cells (pl.map Value.bool).toArray 4 (0,0))) (hn:pl.length=n) (hq:q<n) :
  Calls Tryz.prog 163 #[.int .i64 (q:Int),.pointer (some ⟨bb,0,none⟩)] w fun e w'=>e= .returned (.bool (!pl.getD q false))/\Bl w w':=by
 have cp:w.cell? ⟨pb,q,none⟩=some (.bool (pl.getD q false)):=bc hp (map_getD (by omega));generalize pl.getD q false=b at cp;clear hp hn;go_enter Tryz.func163,Tryz.ntmps163;go_wp2;go_ret;exact⟨rfl,zX _ _⟩
set_option maxHeartbeats 1000000 in
theorem idxOrd_any (P:Int->Bool) (a0:Value) (xs:List Int) (n:Nat) (hn:n=xs.length) (A:Option Addr) (c B:Nat) (w:World) (hA:Sl w B 1 encInt1 A xs) (hB:B<=w.heap.size) (hl:xs.length<=9223372036854775807)
    (hF:∀(x:Int),x∈xs->∀(W:World),Bl w W->Calls Tryz.prog 163 #[.int .i64 x,a0] W fun e w'=>e= .returned (.bool (P x))/\Bl W w') :
    Calls Tryz.prog 132 #[.slice A n c,.func (.func 163) #[] #[a0]] w fun e w'=>e= .returned (.int .i64 (idxB P xs))/\Bl w w':=by
  subst hn;have HA:=hI hA;have HF:=hI hF;clear hA hF;go_enter Tryz.func132,Tryz.ntmps132;go_wp2;go_loopw [8] (fun i wr=>∃k:Nat,k<=xs.length/\i= .int .i64 k/\Hid ((xs.take k).any P=false)/\Hid (Bl w wr)) (fun i _=>xs.length-(intOf i).toNat);case atStart=>exact⟨0,by omega,rfl,hI (by simp),hI (zX _ _)⟩
  case round=>
    obtain⟨k,hk,rfl,Hno,Hb⟩:=hrel;have hsz:=Hb.o.size
    by_cases hlt:k<xs.length
    · obtain⟨b,off,rfl,hbB,hcells⟩:=(HA.o.below (Hb.o.mono hB)) (by omega)
      have h0:=hcells k hlt;clear hcells;have c0:wr.cell? ⟨b,off+k,none⟩=some (.int .i64 xs[k]):=(by have h:=h0 0 _ rfl;rwa [Nat.mul_one,Nat.add_zero] at h)
      have Hs:=hI (any_take_succ (p:=P) hlt Hno.o);have Hh:=hI (idxB_hit (p:=P) hlt Hno.o);have HK:=hI (fun(W:World) (hW:Bl w W)=>HF.o xs[k] (zC hlt) W hW);generalize xs[k]=x at c0 Hs Hh HK;clear h0;cases hp:P x
      · have HK2:=hI (fun(W:World) (hW:Bl w W)=>hp▸HK.o W hW)
        go_wp2_with (go_at_call 163;refine(HK2.o _ (by first | exact Hb.o | exact Hb.o.alloc (by omega) _)).mono ?_;rintro e w1 ⟨rfl,hb1⟩;have Hb1:=hI hb1;clear hb1);go_roundw;case rel=>exact⟨k+1,by omega,by go_num,hI (Hs.o hp),hI (by first | exact Hb.o.trans (Hb1.o.mono hsz) | exact(Hb.o.alloc (by omega) _).trans (Hb1.o.mono (by simp;omega)))⟩
        case measure=>simp[intOf];omega
      · have HK2:=hI (fun(W:World) (hW:Bl w W)=>hp▸HK.o W hW)
        go_wp2_with (go_at_call 163;refine(HK2.o _ (by first | exact Hb.o | exact Hb.o.alloc (by omega) _)).mono ?_;rintro e w1 ⟨rfl,hb1⟩;have Hb1:=hI hb1;clear hb1);go_ret;exact⟨ret_int (Hh.o hp).symm,(by first | exact Hb.o.trans (Hb1.o.mono hsz) | exact(Hb.o.alloc (by omega) _).trans (Hb1.o.mono (by simp;omega)))⟩
    · have HN:=hI (idxB_none (p:=P) (xs:=xs) (by rw[<- Hno.o,zG (by omega)]))
      go_wp2;go_ret;exact⟨ret_int HN.o.symm,Hb.o⟩
theorem conOrd_any (P:Int->Bool) (a0:Value) (xs:List Int) (n:Nat) (hn:n=xs.length) (A:Option Addr) (c B:Nat) (w:World) (hA:Sl w B 1 encInt1 A xs) (hB:B<=w.heap.size) (hl:xs.length<=9223372036854775807)
    (hF:∀(x:Int),x∈xs->∀(W:World),Bl w W->Calls Tryz.prog 163 #[.int .i64 x,a0] W fun e w'=>e= .returned (.bool (P x))/\Bl W w') :
    Calls Tryz.prog 60 #[.slice A n c,.func (.func 163) #[] #[a0]] w fun e w'=>e= .returned (.bool (xs.any P))/\Bl w w':=by
  have H:=hI (idxOrd_any P a0 xs n hn A c B w hA hB hl hF);have HI:=hI (idxB_any (p:=P) (xs:=xs));clear hA hn hF;go_enter Tryz.func60,Tryz.ntmps60;go_wp2_with (go_at_call 132;refine H.o.mono ?_;rintro e w1 ⟨rfl,hb1⟩;have Hb1:=hI hb1;clear hb1);go_ret;exact⟨ret_bool HI.o,Hb1.o⟩

theorem ordered_any (j:Job) (B:Nat) (w:World) (hj:JIn w B j) (hB:B<=w.heap.size) (hnt:j.tasks.length<=64) (hnu:∀t∈j.tasks,t.p.needs.length<=1000) (hnd:∀t∈j.tasks,∀k∈t.p.needs,0<=k/\k<j.tasks.length) :
  Calls Tryz.prog 95 #[jobV j] w fun e w'=>∃v,e= .returned v/\w'.ownsRow w.heap.size 3 1 v (ordV j.p).length ((ordV j.p).map (Value.int .i64))/\Bl w w':=by
 obtain⟨n,hn⟩:=eX j.tasks.length;obtain⟨TA,hTA⟩:=eX j.TA;have hjv:jobV j= .agg #[.slice TA n j.tc,.slice j.RA j.res.length j.rc]:=by unfold jobV;rw[hn,hTA]
 rw[hjv];obtain⟨W0,HW0,hs0,HB0,HX00,HU0⟩:=boxes1 w (.cells #[.slice TA n j.tc,.slice j.RA j.res.length j.rc] 25);have hlc:=hj.tl;have hc2:=hj.tc;rw[hn] at hlc hnt;have HJ:=hI (show ∀X:World,Bl W0 X->JIn X B j from fun X hX=>hj.below ((HU0.o X hX).mono hB));have Hn:=hI hn;have HTA:=hI hTA;have Hnu:=hI hnu;have Hnd:=hI hnd;obtain⟨i2,hi2,hi2a,hi2b,hi2c⟩:=info_parts (show(Tryz.prog.info? 4).map (fun i=>(i.zero,i.size,i.bytes))=some (some (.bool false),1,1) by kernel_rfl);have q0:=kC 0 (HX00.o W0 (zX _ _)) rfl;clear hj hn hTA hnu hnd hjv;go_enter Tryz.func95,Tryz.ntmps95;go_upto_region 2 with fail;rw[<- HW0.o]
 go_upto_region 3 with(at_make;refine wpList_make_full _ rfl _ _ 113 rfl W0.heap.size 4 _ (.bool false) 1 Tryz.underlying113 hi2 hi2a hi2b .i64 .i64 _ _ n rfl rfl rfl rfl (by rw[hi2c];omega) (by unfold maxLen;omega) (zm _) ?_;intro w1 hown1 hg1;have Hb1:=hI ((zX W0.heap.size W0).grown hg1 (zm _) (fun k hk=>by cases hk));have Hn1:=hI (made_blk (zm _) hown1);clear hown1 hg1)
 have hs1:=Hb1.o.size;obtain⟨W2,hW2⟩:=eY (w1.alloc (.cells #[.slice (some ⟨w.heap.size+1,0,none⟩) n n] 113));have hs2:W2.heap.size=w1.heap.size+1:=by rw[hW2];simp
 have HB12:=hI (show Bl w1 W2 by rw[hW2];exact(zX _ _).alloc (zm _) _);have HB2:=hI (show Bl W0 W2 from Hb1.o.trans (HB12.o.mono hs1))
 have HP2:=hI (show W2.heap[w.heap.size+1]? =some (.cells ((List.replicate n false).map Value.bool).toArray 4 (0,0)) by
  have h:=(Hn1.o.below HB12.o).2;rw[hs0] at h;rw[List.map_replicate];exact h)
 have HX2:=hI (show W2.heap[w1.heap.size]? =some (.cells #[.slice (some ⟨w.heap.size+1,0,none⟩) n n] 113 (0,0)) by rw[hW2];exact zW _ _);have HOV:=hI (show ordGo j.p (notPl (List.replicate n false)) (List.replicate n false) []=ordV j.p by unfold ordV notPl;rw[j.nt,Hn.o,List.count_replicate];simp);have hpw:w.heap.size+1<w1.heap.size:=by have:=blk_lt HP2.o;have h:=(zT.1 Hn1.o.2).1;omega
 rw[<- hW2];clear hW2 q0;go_loopw [3] (fun v3 wr=>∃(pl:List Bool) (out:List Int),pl.length=n/\Hid (out.length+notPl pl=n)/\lenV v3=out.length/\Hid (wr.heap[w.heap.size+1]? =some (.cells (pl.map Value.bool).toArray 4 (0,0)))/\Hid (wr.heap[w1.heap.size]? =some (.cells #[.slice (some ⟨w.heap.size+1,0,none⟩) n n] 113 (0,0)))/\Hid (wr.ownsRow W2.heap.size 3 1 v3 out.length (out.map (Value.int .i64)))/\Hid (Bl W0 wr)/\Hid (W2.heap.size<=wr.heap.size)/\Hid (ordGo j.p (notPl pl) pl out=ordV j.p)) (fun v3 _=>n+1-lenV v3);case atStart=>exact⟨List.replicate n false,[],by simp,hI (by simp[notPl]),rfl,HP2,HX2,hI (zU _ _ _ _),HB2,hI (zm _),HOV⟩
 case round=>
  obtain⟨pl,out,hpl,Hon,hlv,HP,HX,Ho,Hb,Hs,HO⟩:=hrel;have hss:=Hs.o;have q0:=kC 0 (HX00.o wr Hb.o) rfl;have HBw:=hI (show ∀X:World,Bl wr X->X.heap[w.heap.size+1]? =some (.cells (pl.map Value.bool).toArray 4 (0,0))/\X.heap[w1.heap.size]? =some (.cells #[.slice (some ⟨w.heap.size+1,0,none⟩) n n] 113 (0,0)) from fun X hX=>⟨(hX.block _ (by omega)).trans HP.o,(hX.block _ (by omega)).trans HX.o⟩);have HUw:=hI (show ∀X:World,Bl wr X->Bl W0 X from fun X hX=>Hb.o.trans (hX.mono (by omega)));go_upto_region 4 with fail;go_wp2;clear q0;obtain⟨wa,rfl⟩:∃wa:World,wa=wr:=⟨_,rfl⟩
  go_loopw [5,15] (fun v5 v15 wr=>∃i:Nat,i<=n/\v15= .int .i64 i/\v5= .int .i64 (-1)/\Hid (Bl wa wr)/\Hid ((List.range i).any (mayB j.p pl)=false)) (fun _ v15 _=>n-(intOf v15).toNat);case atStart=>exact⟨0,by omega,rfl,rfl,hI (zX _ _),hI rfl⟩
  case round=>
   obtain⟨i,hi,rfl,rfl,Hb2,Hno⟩:=hrel;have hsr2:=Hb2.o.size
   by_cases hlt:i<n
   ·have hil:i<j.tasks.length:=by have:=Hn.o;omega
    have hjn:=HJ.o wr (HUw.o _ Hb2.o);obtain⟨tb,off,hTb,htb⟩:=hjn.ta (by omega);have hTe:TA=some ⟨tb,off,none⟩:=by rw[<- HTA.o];exact hTb
    subst hTe;obtain⟨c0,c1,c2,c3⟩:=hjn.tcells hTb hil;have hTk:=hjn.tks _ (j.T_mem hil);have hnl:=hTk.nl;have hnc:=hTk.nc;have Hns:=hI hTk.ns;have HNd:=hI (Hnd.o _ (j.T_mem hil));have hnn:=Hnu.o _ (j.T_mem hil);have HM:=hI (show mayB j.p pl i=(!pl.getD i false&& !(j.T i).p.needs.any (fun k=> !pl.getD k.toNat false)) by unfold mayB standB;rw[j.pT,any_not_all]);have HSu:=hI (fun h=>range_any_succ (p:=mayB j.p pl) Hno.o h);have HFi:=hI (fun h=>may_first (j:=j.p) (pl:=pl) (by rw[j.nt];exact hil) Hno.o h);generalize j.T i=t at c0 c1 c2 c3 Hns HNd hnn HM hnl hnc;obtain⟨NA,hNA⟩:=eX t.NA;obtain⟨nn,hnn'⟩:=eX t.p.needs.length;rw[hNA,hnn'] at c2;rw[hNA] at Hns;rw[hnn'] at hnl hnn;obtain⟨W4,hW4⟩:=eY (wr.alloc (.cells #[.string t.p.name,.int .i64 t.p.takes,.slice NA nn t.nc,.slice t.UA t.p.uses.length t.uc] 46));have hs4:wr.heap.size+1<=W4.heap.size:=by rw[hW4];simp
    have hB4:Bl wr W4:=by rw[hW4];exact(zX _ _).alloc (zm _) _
    have HB4:=hI (show Bl wa W4 from Hb2.o.trans (hB4.mono hsr2));have r2:W4.cell? ⟨wr.heap.size,2,none⟩=some (.slice NA nn t.nc):=by rw[hW4];exact alloc_cell rfl
    have HU4:=hI (show ∀X:World,Bl W4 X->Bl wa X from fun X hX=>HB4.o.trans (hX.mono (by omega)))
    have HC:=hI (conOrd_any (fun k=> !pl.getD k.toNat false) (.pointer (some ⟨w1.heap.size,0,none⟩)) t.p.needs nn hnn'.symm NA t.nc B W4 (Hns.o.below (hB4.mono (by omega))) (by omega) (by omega) (fun x hx W hW=>by
     have h1:=HNd.o x hx;obtain⟨q,hq⟩:∃q:Nat,x=q:=⟨x.toNat,by omega⟩
     subst hq;obtain⟨g1,g2⟩:=HBw.o W (HU4.o W hW);exact ord1_any pl q w1.heap.size (w.heap.size+1) n W (kC 0 g2 rfl) g1 hpl (by have:=h1.2;have:=Hn.o;omega)))
    generalize t.p.needs.any (fun k=> !pl.getD k.toNat false)=an at HC HM;obtain⟨g1,g2⟩:=HBw.o W4 HB4.o;have x0:=kC 0 g2 rfl;have x1:W4.cell? ⟨w.heap.size+1,i,none⟩=some (.bool (pl.getD i false)):=bc g1 (map_getD (by omega));generalize pl.getD i false=pi at x1 HM;clear hjn hTb hTk hNA hnn' hB4 g1 g2;go_upto_region 7 with fail;rw[<- hW4];clear hW4 c0 c1 c2 c3;cases pi
    ·cases an
     ·have hfm:=HFi.o (by rw[HM.o];rfl);have hpi:=(firstMay_lt hfm).2;have hns:=notPl_set (pl:=pl) (k:=i) (by omega) hpi;have HOn:=hI (show ordGo j.p (notPl (pl.set i true)) (pl.set i true) (out++[(i:Int)])=ordV j.p by rw[<- HO.o,<-hns];exact(firstMay_some hfm).symm);have Hns2:=hI hns;clear hfm hpi hns HFi HSu;go_upto_region 12 with(go_at_call 60;refine HC.o.mono ?_;rintro e w5 ⟨rfl,hb5⟩;have Hb5:=hI (HU4.o _ hb5);clear hb5)
      clear x0 x1 r2;have hs5:=Hb5.o.size;obtain⟨g1,g2⟩:=HBw.o w5 Hb5.o;have x0:=kC 0 g2 rfl;have f1:=W7.bf (j:=i) g1;have x1:w5.cell? ⟨w.heap.size+1,i,none⟩=some (.bool (pl.getD i false)):=bc g1 (map_getD (by omega));obtain⟨X1,hX1⟩:=eY (w5.setCell ⟨w.heap.size+1,i,none⟩ (.bool true));have hsX:w5.heap.size<=X1.heap.size:=by rw[hX1];simp[World.setCell]
      have HP1:=hI (show X1.heap[w.heap.size+1]? =some (.cells ((pl.set i true).map Value.bool).toArray 4 (0,0)) by rw[hX1,blk_set g1];simp[List.map_set]);have HX1:=hI (show X1.heap[w1.heap.size]? =some (.cells #[.slice (some ⟨w.heap.size+1,0,none⟩) n n] 113 (0,0)) by rw[hX1,blk_set_ne (by omega)];exact g2);have HO1:=hI (show X1.ownsRow W2.heap.size 3 1 u3 out.length (out.map (Value.int .i64)) by rw[hX1];exact own_setK (own_below Ho.o Hb5.o) g1 (by decide) _);have HB1:=hI (show Bl W0 X1 by rw[hX1];exact(HUw.o _ Hb5.o).setCell (p:=⟨w.heap.size+1,i,none⟩) (by simp;omega) _);go_upto_region 13 with fail;rw[<- hX1];clear hX1 g1 g2 x0 x1 f1
      go_wp2_with (at_builtin;refine wpList_append1 rfl _ _ 26 rfl W2.heap.size 3 _ 1 8 elemI _ _ _ rfl HO1.o #[.int .i64 (i:Int)] 1 _ rfl (by simp) rfl (by simp[Value.oneCell']) (by have:=Hon.o;omega) (by omega) ?_;intro v6 w6 hown6 hb6 hsz6 hg6 hblk6;have Ho6:=hI hown6;have Hb6:=hI hb6;have hs6:=hsz6;clear hown6 hb6 hsz6 hg6 hblk6);go_roundw
      case rel=>
       refine⟨pl.set i true,out++[(i:Int)],by simp[hpl],hI (by have:=Hon.o;have:=Hns2.o;simp;omega),?_,hI ((Hb6.o.block _ (by omega)).trans HP1.o),hI ((Hb6.o.block _ (by omega)).trans HX1.o),hI (by rw[zF,List.map_append];exact Ho6.o),hI (HB1.o.trans (Hb6.o.mono (by omega))),hI (by omega),HOn⟩;obtain⟨A9,c9,e9,_,_⟩:=own_cap' Ho6.o;rw[e9];simp[lenV]
      case measure=>
       obtain⟨A9,c9,e9,_,_⟩:=own_cap' Ho6.o;rw[e9,hlv];have:=Hon.o;simp[lenV];omega
     ·have HV:=hI (show mayB j.p pl i=false by rw[HM.o];rfl);go_wp2_with (go_at_call 60;refine HC.o.mono ?_;rintro e w5 ⟨rfl,hb5⟩;have Hb5:=hI hb5;clear hb5);go_roundw;case rel=>exact⟨i+1,by omega,by go_num,rfl,hI (HU4.o _ Hb5.o),hI (HSu.o HV.o)⟩
      case measure=>simp[intOf];omega
    ·have HV:=hI (show mayB j.p pl i=false by rw[HM.o];rfl);go_wp2;go_roundw;case rel=>exact⟨i+1,by omega,by go_num,rfl,HB4,hI (HSu.o HV.o)⟩
     case measure=>simp[intOf];omega
   ·have HE:=hI (show out=ordV j.p by rw[<- HO.o];exact(ordGo_full _ (no_may_none (by rw[j.nt,Hn.o,show n=i by omega];exact Hno.o))).symm);go_wp2;go_ret;refine⟨_,rfl,?_,HU0.o _ (HUw.o _ Hb2.o)⟩;rw[<- HE.o];exact own_mono (own_below Ho.o Hb2.o) (by omega)
end Go.Proofs.YtjpgnfekbojcaaaGreat
