/- A board: is a resource free,from a minute up to another one. -/
import Derived.Test.YtjpgnfekbojcaaaGreatRange
import Derived.Test.YtjpgnfekbojcaaaGreatWTr2
set_option maxHeartbeats 4000000
set_option maxRecDepth 100000
namespace Go.Proofs.YtjpgnfekbojcaaaGreat
open Go.RowKit W7 W8
attribute [local go_sem] Oper.semAt_some
theorem free1_any (s:JSpan) (fm tt:Int) (bt bf:Nat) (w:World) (hc0:w.cell? ⟨bt,0,none⟩=some (.int .i64 tt)) (hc1:w.cell? ⟨bf,0,none⟩=some (.int .i64 fm)) (h0:bt<w.heap.size) (h1:bf<w.heap.size) :
  Calls Tryz.prog 213 #[.agg #[.int .i64 s.lo,.int .i64 s.hi],.pointer (some ⟨bt,0,none⟩),.pointer (some ⟨bf,0,none⟩)] w fun e w'=>e= .returned (.bool (overB fm tt s))/\Bl w w':=by
 unfold overB;cases h1:decide (s.lo<tt)
 ·go_enter Tryz.func213,Tryz.ntmps213;go_wp2;go_ret;exact⟨rfl,(by(repeat (refine Below.alloc ?_ (by first | exact zm _ | omega | (simp;done) | (simp;omega)) _));exact zX _ _)⟩
 ·go_enter Tryz.func213,Tryz.ntmps213;go_wp2;go_ret;exact⟨rfl,(by(repeat (refine Below.alloc ?_ (by first | exact zm _ | omega | (simp;done) | (simp;omega)) _));exact zX _ _)⟩
set_option maxHeartbeats 1000000 in
theorem idxFree_any (P:JSpan->Bool) (a0 a1:Value) (xs:List JSpan) (n:Nat) (hn:n=xs.length) (A:Option Addr) (c B:Nat) (w:World) (hA:Sl w B 2 encJSpan A xs) (hB:B<=w.heap.size) (hl:xs.length<=9223372036854775807)
    (hF:∀(x:JSpan),x∈xs->∀(W:World),Bl w W->Calls Tryz.prog 213 #[.agg #[.int .i64 x.lo,.int .i64 x.hi],a0,a1] W fun e w'=>e= .returned (.bool (P x))/\Bl W w') :
    Calls Tryz.prog 229 #[.slice A n c,.func (.func 213) #[] #[a0,a1]] w fun e w'=>e= .returned (.int .i64 (idxB P xs))/\Bl w w':=by
  subst hn;have HA:=hI hA;have HF:=hI hF;clear hA hF;go_enter Tryz.func229,Tryz.ntmps229;go_wp2;go_loopw [8] (fun i wr=>∃k:Nat,k<=xs.length/\i= .int .i64 k/\Hid ((xs.take k).any P=false)/\Hid (Bl w wr)) (fun i _=>xs.length-(intOf i).toNat);case atStart=>exact⟨0,by omega,rfl,hI (by simp),hI (zX _ _)⟩
  case round=>
    obtain⟨k,hk,rfl,Hno,Hb⟩:=hrel;have hsz:=Hb.o.size
    by_cases hlt:k<xs.length
    · obtain⟨b,off,rfl,hbB,hcells⟩:=(HA.o.below (Hb.o.mono hB)) (by omega)
      have h0:=hcells k hlt;clear hcells;have c0:wr.cell? ⟨b,off+k*2,none⟩=some (.int .i64 xs[k].lo):=h0 0 _ rfl;have c1:wr.cell? ⟨b,off+k*2+1,none⟩=some (.int .i64 xs[k].hi):=h0 1 _ rfl;have Hs:=hI (any_take_succ (p:=P) hlt Hno.o);have Hh:=hI (idxB_hit (p:=P) hlt Hno.o);have HK:=hI (fun(W:World) (hW:Bl w W)=>HF.o xs[k] (zC hlt) W hW);generalize xs[k]=x at c0 c1 Hs Hh HK;clear h0;cases hp:P x
      · have HK2:=hI (fun(W:World) (hW:Bl w W)=>hp▸HK.o W hW)
        go_wp2_with (go_at_call 213;refine(HK2.o _ (by first | exact Hb.o | exact Hb.o.alloc (by omega) _)).mono ?_;rintro e w1 ⟨rfl,hb1⟩;have Hb1:=hI hb1;clear hb1);go_roundw;case rel=>exact⟨k+1,by omega,by go_num,hI (Hs.o hp),hI (by first | exact Hb.o.trans (Hb1.o.mono hsz) | exact(Hb.o.alloc (by omega) _).trans (Hb1.o.mono (by simp;omega)))⟩
        case measure=>simp[intOf];omega
      · have HK2:=hI (fun(W:World) (hW:Bl w W)=>hp▸HK.o W hW)
        go_wp2_with (go_at_call 213;refine(HK2.o _ (by first | exact Hb.o | exact Hb.o.alloc (by omega) _)).mono ?_;rintro e w1 ⟨rfl,hb1⟩;have Hb1:=hI hb1;clear hb1);go_ret;exact⟨ret_int (Hh.o hp).symm,(by first | exact Hb.o.trans (Hb1.o.mono hsz) | exact(Hb.o.alloc (by omega) _).trans (Hb1.o.mono (by simp;omega)))⟩
    · have HN:=hI (idxB_none (p:=P) (xs:=xs) (by rw[<- Hno.o,zG (by omega)]))
      go_wp2;go_ret;exact⟨ret_int HN.o.symm,Hb.o⟩
theorem conFree_any (P:JSpan->Bool) (a0 a1:Value) (xs:List JSpan) (n:Nat) (hn:n=xs.length) (A:Option Addr) (c B:Nat) (w:World) (hA:Sl w B 2 encJSpan A xs) (hB:B<=w.heap.size) (hl:xs.length<=9223372036854775807)
    (hF:∀(x:JSpan),x∈xs->∀(W:World),Bl w W->Calls Tryz.prog 213 #[.agg #[.int .i64 x.lo,.int .i64 x.hi],a0,a1] W fun e w'=>e= .returned (.bool (P x))/\Bl W w') :
    Calls Tryz.prog 212 #[.slice A n c,.func (.func 213) #[] #[a0,a1]] w fun e w'=>e= .returned (.bool (xs.any P))/\Bl w w':=by
  have H:=hI (idxFree_any P a0 a1 xs n hn A c B w hA hB hl hF);have HI:=hI (idxB_any (p:=P) (xs:=xs));clear hA hn hF;go_enter Tryz.func212,Tryz.ntmps212;go_wp2_with (go_at_call 229;refine H.o.mono ?_;rintro e w1 ⟨rfl,hb1⟩;have Hb1:=hI hb1;clear hb1);go_ret;exact⟨ret_bool HI.o,Hb1.o⟩

theorem free_any (j:Job) (b:Bd) (fr:Int) (u:JUse) (fm tt:Int) (g sb pb B:Nat) (w:World) (hb:BdIn w g sb pb j b fr) (hj:JIn w B j) (hB:B<=w.heap.size) (hG:JGood j.p) (hs:BOk b) (hu:0<=u.res/\u.res<j.res.length) (hum:1<=u.many/\u.many<=1000) :
  Calls Tryz.prog 186 #[.pointer (some ⟨g,0,none⟩),.agg #[.int .i64 u.res,.int .i64 u.many],.int .i64 fm,.int .i64 tt] w fun e w'=>e= .returned (.bool (freeV j.p b u fm tt))/\Bl w w':=by
 obtain⟨n,hn⟩:=eX j.tasks.length;obtain⟨TA,hTA⟩:=eX j.TA;obtain⟨ur,um⟩:=u;dsimp only at hu hum ⊢;obtain⟨rn,rfl⟩:∃rn:Nat,ur=rn:=⟨ur.toNat,by omega⟩
 have hrl:rn<j.res.length:=by omega
 obtain⟨W0,hW0⟩:=eY (((w.alloc (.cells #[.int .i64 (rn:Int),.int .i64 um] 48)).alloc (.cells #[.int .i64 fm] 3)).alloc (.cells #[.int .i64 tt] 3));have hs0:W0.heap.size=w.heap.size+3:=by rw[hW0];simp
 have HB0:=hI (show Bl w W0 by rw[hW0];exact(((zX w.heap.size w).alloc (zm _) _).alloc (by simp) _).alloc (by simp;omega) _);have HX00:=hI (show ∀X:World,Bl W0 X->X.heap[w.heap.size]? =some (.cells #[.int .i64 (rn:Int),.int .i64 um] 48 (0,0)) from fun X hX=>(hX.block _ (by omega)).trans (by rw[hW0,zP _ _ _ (by simp;try omega),zP _ _ _ (by simp)];exact zW _ _));have HX01:=hI (show ∀X:World,Bl W0 X->X.heap[w.heap.size+1]? =some (.cells #[.int .i64 fm] 3 (0,0)) from fun X hX=>(hX.block _ (by omega)).trans (by rw[hW0,zP _ _ _ (by simp;try omega)];exact(by have h9:=zW (w.alloc (.cells #[.int .i64 (rn:Int),.int .i64 um] 48)) (.cells #[.int .i64 fm] 3);rwa [show(w.alloc (.cells #[.int .i64 (rn:Int),.int .i64 um] 48)).heap.size=w.heap.size+1 by simp] at h9)))
 have HX02:=hI (show ∀X:World,Bl W0 X->X.heap[w.heap.size+2]? =some (.cells #[.int .i64 tt] 3 (0,0)) from fun X hX=>(hX.block _ (by omega)).trans (by rw[hW0];exact(by have h9:=zW ((w.alloc (.cells #[.int .i64 (rn:Int),.int .i64 um] 48)).alloc (.cells #[.int .i64 fm] 3)) (.cells #[.int .i64 tt] 3);rwa [show((w.alloc (.cells #[.int .i64 (rn:Int),.int .i64 um] 48)).alloc (.cells #[.int .i64 fm] 3)).heap.size=w.heap.size+2 by simp] at h9)));have HU0:=hI (fun(X:World) (hX:Bl W0 X)=>show Bl w X from HB0.o.trans (hX.mono (by omega)));have HW0:=hI hW0;clear hW0;have h64:n<=64:=by have:=hG.nt;rw[j.nt] at this;omega
 have hlc:=hj.tl;have hc2:=hj.tc;have hlr:=hj.rl;have hcr:=hj.rc;rw[hn] at hlc;have HB:=hI (show ∀X:World,Bl W0 X->BdIn X g sb pb j b fr/\JIn X B j from fun X hX=>⟨hb.below (HU0.o X hX),hj.below ((HU0.o X hX).mono hB)⟩);have hgl:=blk_lt hb.hg;have HG:=hI hG;have HS:=hI hs;have Hn:=hI hn;have HTA:=hI hTA;obtain⟨rb,roff,hRA,hrb⟩:=hj.ra (by omega);obtain⟨r0,r1,r2⟩:=(HB.o W0 (zX _ _)).2.rcells hRA hrl;have q1:=kC 1 (HB.o W0 (zX _ _)).1.hg rfl;rw[hRA] at q1;have hRR:=hG.many _ (j.Rp_mem hrl);have HRR:=hI (fun(X:World) (hX:Bl W0 X)=>((HB.o X hX).2.rss _ (j.R_mem hrl)).os);have hro:=hG.noff _ (j.Rp_mem hrl)
 have HFr:=hI (show freeV j.p b ⟨rn,um⟩ fm tt=(!(j.R rn).p.off.any (overB fm tt)&& !decide ((j.R rn).p.many<usedV j.p b rn fm+um)&& !(List.range n).any (fun i=>startsIn b fm tt i&&decide ((j.R rn).p.many<usedV j.p b rn (b.st.getD i 0)+um))) by
  unfold freeV crowdB;dsimp only;rw[zZ,j.pR,j.nt,hn])
 generalize j.R rn=r at r0 r1 r2 hRR HRR hro HFr;clear hb hj hG hs hn hTA hRA hu;go_enter Tryz.func186,Tryz.ntmps186;go_upto_region 1 with fail;rw[<- HW0.o];have u0:=kC 0 (HX00.o W0 (zX _ _)) rfl;have u1:=kC 1 (HX00.o W0 (zX _ _)) rfl;have y1:=zV q1 (by omega);have z0:=zV r0 (by omega);have z1:=zV r1 (by omega);have z2:=zV r2 (by omega);have v0:=zV u0 (by omega);clear q1 r0 r1 r2 u0 u1
 obtain⟨C,hC⟩:∃C:(Nat->Bool)->(Nat->Value)->World->Prop,C=fun L V w'=>∃e:Later W0,w'=e.w/\(L 0=true->V 0= .pointer (some ⟨g,0,none⟩))/\(L 1=true->V 1= .pointer (some ⟨g,0,none⟩))/\(L 2=true->V 2= .pointer (some ⟨g,0,none⟩))/\(L 3=true->V 3= .pointer (some ⟨g,1,none⟩))/\(L 4=true->V 4= .slice (some ⟨rb,roff,none⟩) j.res.length j.rc)/\(L 5=true->V 5= .pointer (some ⟨w.heap.size,0,none⟩))/\(L 6=true->V 6= .int .i64 (rn:Int))/\(L 7=true->V 7= .pointer (some ⟨rb,roff+rn*3,none⟩))/\(L 8=true->V 8= .agg #[.string r.p.name,.int .i64 r.p.many,.slice r.OA r.p.off.length r.oc])/\(L 9=true->Hid (∃gb,V 9= .pointer (some ⟨gb,0,none⟩)/\NewBlk W0 e.w gb (#[.string ⟨#[]⟩,.int .i64 0,.slice none 0 0]:Array Value) 43)):=⟨_,rfl⟩
 have HC:=hI hC;clear hC;refine wp_region_slots 10 [12,13,14,15,16,17,18,19,20,9] C (by kernel_rfl) (by kernel_rfl) (by kernel_rfl) (by kernel_rfl) (by decide) (by kernel_rfl) ?_ ?_ ?_
 · rw[HC.o]
   exact⟨⟨_,(zX W0.heap.size W0).drew⟩,rfl,nff,nff,nff,nff,nff,nff,nff,nff,nff,nff⟩
 · rintro L V w' i o hi ho hLi haf hInv
   rw[HC.o] at hInv;obtain⟨e,rfl,h0,h1,h2,h3,h4,h5,h6,h7,h8,h9⟩:=hInv;have hse:W0.heap.size<=e.w.heap.size:=e.b.size;rcases i with _ | _ | _ | _ | _ | _ | _ | _ | _ | _ | i;case succ.succ.succ.succ.succ.succ.succ.succ.succ.succ=>omega
   all_goals (simp only[zR,zS,Option.some.injEq] at ho;subst ho;simp only[putAll])
   · go_wp2
     rw[HC.o];exact⟨upd V 0 _,rfl,e,rfl,fun _=>rfl,h1,h2,h3,h4,h5,h6,h7,h8,h9⟩
   · rw[h0 (haf ⟨0,.data⟩ (by simp) rfl)]
     go_wp2;rw[HC.o];exact⟨upd (upd V 0 _) 1 _,rfl,e,rfl,fun _=>rfl,fun _=>rfl,h2,h3,h4,h5,h6,h7,h8,h9⟩
   · rw[h1 (haf ⟨1,.data⟩ (by simp) rfl)]
     go_wp2;rw[HC.o];exact⟨upd (upd V 1 _) 2 _,rfl,e,rfl,h0,fun _=>rfl,fun _=>rfl,h3,h4,h5,h6,h7,h8,h9⟩
   · rw[h2 (haf ⟨2,.data⟩ (by simp) rfl)]
     go_wp2;rw[HC.o];exact⟨upd (upd V 2 _) 3 _,rfl,e,rfl,h0,h1,fun _=>rfl,fun _=>rfl,h4,h5,h6,h7,h8,h9⟩
   · rw[h3 (haf ⟨3,.data⟩ (by simp) rfl)]
     go_wp2;rw[HC.o];exact⟨upd (upd V 3 _) 4 _,rfl,e,rfl,h0,h1,h2,fun _=>rfl,fun _=>rfl,h5,h6,h7,h8,h9⟩
   · go_wp2
     rw[HC.o];exact⟨upd V 5 _,rfl,e,rfl,h0,h1,h2,h3,h4,fun _=>rfl,h6,h7,h8,h9⟩
   · rw[h5 (haf ⟨5,.data⟩ (by simp) rfl)]
     go_wp2;rw[HC.o];exact⟨upd (upd V 5 _) 6 _,rfl,e,rfl,h0,h1,h2,h3,h4,fun _=>rfl,fun _=>rfl,h7,h8,h9⟩
   · rw[h4 (haf ⟨4,.data⟩ (by simp) rfl)]
     rw[h6 (haf ⟨6,.data⟩ (by simp) rfl)];go_wp2;rw[HC.o];exact⟨upd (upd (upd V 4 _) 6 _) 7 _,rfl,e,rfl,h0,h1,h2,h3,fun _=>rfl,h5,fun _=>rfl,fun _=>rfl,h8,h9⟩
   · rw[h7 (haf ⟨7,.data⟩ (by simp) rfl)]
     go_wp2;rw[HC.o];exact⟨upd (upd V 7 _) 8 _,rfl,e,rfl,h0,h1,h2,h3,h4,h5,h6,fun _=>rfl,fun _=>rfl,h9⟩
   · have hNew:Below e.w.heap.size e.w (e.w.alloc (.cells (#[.string ⟨#[]⟩,.int .i64 0,.slice none 0 0]:Array Value) 43)):=(zX _ _).alloc (zm _) _
     go_wp2;rw[HC.o];exact⟨upd V 9 _,rfl,⟨_,e.b.alloc hse (.cells (#[.string ⟨#[]⟩,.int .i64 0,.slice none 0 0]:Array Value) 43)⟩,rfl,h0,h1,h2,h3,h4,h5,h6,h7,h8,fun _=>hI ⟨_,rfl,NewBlk.new hse⟩⟩
 rintro L V w' hL hInv;rw[HC.o] at hInv;obtain⟨e,rfl,h0,h1,h2,h3,h4,h5,h6,h7,h8,h9⟩:=hInv;simp only[putAll];rw[h0 (hL 0 (by omega))];rw[h1 (hL 1 (by omega))];rw[h2 (hL 2 (by omega))];rw[h3 (hL 3 (by omega))];rw[h4 (hL 4 (by omega))];rw[h5 (hL 5 (by omega))];rw[h6 (hL 6 (by omega))];rw[h7 (hL 7 (by omega))];rw[h8 (hL 8 (by omega))];obtain⟨gb9,hv9,hnb9⟩:=(h9 (hL 9 (by omega))).out;rw[hv9];have hse:W0.heap.size<=e.w.heap.size:=e.b.size;clear h0 h1 h2 h3 h4 h5 h6 h7 h8 h9 hL HC;have hnb:=hnb9.2;have f0:=kF 0 hnb;have f1:=kF 1 hnb;have f2:=kF 2 hnb;have d0:=kC 0 hnb rfl;have d1:=kC 1 hnb rfl;have d2:=kC 2 hnb rfl;have hg9:=hnb9.lt;have hW9:=hnb9.1;obtain⟨hY,hBY⟩:=fill3 hnb9.1 hnb e.b (.string r.p.name) (.int .i64 r.p.many) (.slice r.OA r.p.off.length r.oc);have HY:=hI hY;have HBY:=hI hBY;clear hnb hY hBY y1 z0 z1 z2 v0 hnb9;go_upto_region 2 with fail
 revert HY HBY
 generalize (((e.w.setCell ⟨gb9,0,none⟩ (.string r.p.name)).setCell ⟨gb9,1,none⟩ (.int .i64 r.p.many)).setCell ⟨gb9,2,none⟩ (.slice r.OA r.p.off.length r.oc))=Y;intro HY HBY;clear f0 f1 f2 d0 d1 d2;have hsY:=HBY.o.size;have hgY:=blk_lt HY.o;have HBYw:=hI (HU0.o Y HBY.o);have HXY:=hI (show ∀X:World,Bl Y X->X.heap[gb9]? =some (.cells #[.string r.p.name,.int .i64 r.p.many,.slice r.OA r.p.off.length r.oc] 43 (0,0)) from fun X hX=>(hX.block _ hgY).trans HY.o);have HUY:=hI (show ∀X:World,Bl Y X->Bl W0 X from fun X hX=>HBY.o.trans (hX.mono hsY));have HCon:=hI (conFree_any (overB fm tt) (.pointer (some ⟨w.heap.size+2,0,none⟩)) (.pointer (some ⟨w.heap.size+1,0,none⟩)) r.p.off r.p.off.length rfl r.OA r.oc B Y (HRR.o Y HBY.o) (by omega) (by omega) (fun s _ W hW=>free1_any s fm tt _ _ W (kC 0 (HX02.o W (HUY.o W hW)) rfl) (kC 0 (HX01.o W (HUY.o W hW)) rfl) (by have:=hW.size;omega) (by have:=hW.size;omega)))
 have HUse:=hI (show ∀(X:World) (m:Int),Bl Y X->Calls Tryz.prog 214 #[.pointer (some ⟨g,0,none⟩),.int .i64 rn,.int .i64 m] X fun e w'=>e= .returned (.int .i64 (usedV j.p b rn m))/\Bl X w' from fun X m hX=>used_any j b fr rn m g sb pb B X (HB.o X (HUY.o X hX)).1 (HB.o X (HUY.o X hX)).2 (by have:=hX.size;omega) HG.o HS.o);have HUl:=hI (fun m=>usedV_le HG.o b rn m);have y2:=kC 2 (HXY.o Y (zX _ _)) rfl;generalize r.p.off.any (overB fm tt)=ao at HFr HCon;cases ao;rotate_left
 ·have HE:=hI (show freeV j.p b ⟨rn,um⟩ fm tt=false by rw[HFr.o];rfl);go_wp2_with (go_at_call 212;refine HCon.o.mono ?_;rintro e w2 ⟨rfl,hb2⟩;have Hb2:=hI hb2;clear hb2);go_ret;exact⟨ret_bool HE.o.symm,HU0.o _ (HUY.o _ Hb2.o)⟩
 go_upto_region 4 with(go_at_call 212;refine HCon.o.mono ?_;rintro e w2 ⟨rfl,hb2⟩;have Hb2:=hI hb2;clear hb2)
 have hs2:=Hb2.o.size;have HUse2:=hI (fun(e:Later w2)=>HUse.o e.w fm (Hb2.o.trans (e.b.mono hs2)));have u0:=zV (kC 0 (HX00.o w2 (HUY.o _ Hb2.o)) rfl) (by omega);have u1:=zV (kC 1 (HX00.o w2 (HUY.o _ Hb2.o)) rfl) (by omega);have u2:=zV (kC 0 (HX01.o w2 (HUY.o _ Hb2.o)) rfl) (by omega);have u3:=zV (kC 1 (HXY.o w2 Hb2.o) rfl) (by omega);have hus:=HUl.o fm;refine wp_region_later (by kernel_rfl) (by kernel_rfl) ?_
 repeat (any_goals (first | go_big_quiet_step ((go_at_call 214;exact later_call _ (HUse2.o _))) | quiet_step ((go_at_call 214;exact later_call _ (HUse2.o _)))))
 refine wpQuiet_nil ?_;rintro w' ⟨e,rfl⟩;have HE2:=hI (show Bl Y e.w from Hb2.o.trans (e.b.mono hs2));have hse2:=e.b.size;generalize e.w=w3 at HE2 hse2;clear u0 u1 u2 u3 HUse2;have HCr:=hI (show freeV j.p b ⟨rn,um⟩ fm tt=(!decide (r.p.many<usedV j.p b rn fm+um)&& !(List.range n).any (fun i=>startsIn b fm tt i&&decide (r.p.many<usedV j.p b rn (b.st.getD i 0)+um))) by rw[HFr.o];rfl);generalize usedV j.p b rn fm=us at hus HCr
 by_cases hcr:r.p.many<us+um
 ·have HE:=hI (show freeV j.p b ⟨rn,um⟩ fm tt=false by rw[HCr.o,zD hcr];rfl);go_wp2;go_ret;exact⟨ret_bool HE.o.symm,HU0.o _ (HUY.o _ HE2.o)⟩
 have HL:=hI (show freeV j.p b ⟨rn,um⟩ fm tt= !(List.range n).any (fun i=>startsIn b fm tt i&&decide (r.p.many<usedV j.p b rn (b.st.getD i 0)+um)) by rw[HCr.o,zE hcr];simp);obtain⟨hbd,hjn⟩:=HB.o w3 (HUY.o _ HE2.o);have g0:=kC 0 hbd.hg rfl;rw[Hn.o] at g0;clear hbd hjn;go_wp2;clear g0;go_loopw [42] (fun v42 wr=>∃i:Nat,i<=n/\v42= .int .i64 i/\Hid (Bl Y wr)/\Hid ((List.range i).any (fun i=>startsIn b fm tt i&&decide (r.p.many<usedV j.p b rn (b.st.getD i 0)+um))=false)) (fun v42 _=>n-(intOf v42).toNat);case atStart=>exact⟨0,by omega,rfl,HE2,hI rfl⟩
 case round=>
  obtain⟨i,hi,rfl,Hb,Hno⟩:=hrel;have hsr:=Hb.o.size
  by_cases hlt:i<n
  ·have hil:i<j.tasks.length:=by have:=Hn.o;omega
   obtain⟨hbd,_⟩:=HB.o wr (HUY.o _ Hb.o);have p1:=kC 2 hbd.hg rfl;have p2:=kC 3 hbd.hg rfl;rw[Hn.o] at p1 p2;have cs:=hbd.st hil;have cp:=hbd.pl hil;have x0:=kC 0 (HX00.o wr (HUY.o _ Hb.o)) rfl;have x1:=kC 1 (HX00.o wr (HUY.o _ Hb.o)) rfl;have x2:=kC 0 (HX01.o wr (HUY.o _ Hb.o)) rfl;have x3:=kC 0 (HX02.o wr (HUY.o _ Hb.o)) rfl;have x4:=kC 1 (HXY.o wr Hb.o) rfl;have Hnx:=hI (show(List.range (i+1)).any (fun i=>startsIn b fm tt i&&decide (r.p.many<usedV j.p b rn (b.st.getD i 0)+um))=(startsIn b fm tt i&&decide (r.p.many<usedV j.p b rn (b.st.getD i 0)+um)) by rw[List.range_succ,List.any_append,Hno.o];simp)
   have Hall:=hI (show(startsIn b fm tt i&&decide (r.p.many<usedV j.p b rn (b.st.getD i 0)+um))=true->freeV j.p b ⟨rn,um⟩ fm tt=false from fun h=>by
    rw[HL.o,Bool.not_eq_false',List.any_eq_true];exact⟨i,List.mem_range.2 hlt,h⟩)
   have HSi:=hI (show startsIn b fm tt i=(b.pl.getD i false&&decide (fm<b.st.getD i 0)&&decide (b.st.getD i 0<tt)) from rfl);have hus2:=HUl.o (b.st.getD i 0);have HUse2:=hI (fun(e:Later wr)=>HUse.o e.w (b.st.getD i 0) (Hb.o.trans (e.b.mono hsr)));have hst:=HS.o i;generalize b.st.getD i 0=s at cs Hnx Hall HSi hus2 HUse2 hst;generalize b.pl.getD i false=pl at cp HSi;generalize usedV j.p b rn s=us2 at Hnx Hall hus2 HUse2;clear hbd;cases pl
   ·have HN:=hI (Hnx.o.trans (show(startsIn b fm tt i&&decide (r.p.many<us2+um))=false by rw[HSi.o];rfl));go_wp2
    go_quiet (fail)
    go_wp2;go_roundw;case rel=>exact⟨i+1,by omega,by go_num,hI (zO Hb.o _),HN⟩
    case measure=>simp[intOf];omega
   cases h1:decide (fm<s)
   ·have HN:=hI (Hnx.o.trans (show(startsIn b fm tt i&&decide (r.p.many<us2+um))=false by rw[HSi.o,h1];rfl));go_wp2
    go_quiet (fail)
    go_wp2;go_roundw;case rel=>exact⟨i+1,by omega,by go_num,hI (zO Hb.o _),HN⟩
    case measure=>simp[intOf];omega
   cases h2:decide (s<tt)
   ·have HN:=hI (Hnx.o.trans (show(startsIn b fm tt i&&decide (r.p.many<us2+um))=false by rw[HSi.o,h1,h2];rfl));go_wp2
    go_quiet (fail)
    go_wp2;go_roundw;case rel=>exact⟨i+1,by omega,by go_num,hI (zO Hb.o _),HN⟩
    case measure=>simp[intOf];omega
   have HSt:=hI (show startsIn b fm tt i=true by rw[HSi.o,h1,h2];rfl);go_upto_region 10 with fail;have y0:=zV x0 (by omega);have y1:=zV x1 (by omega);have y2:=zV x2 (by omega);have y3:=zV x3 (by omega);have y4:=zV x4 (by omega);have yp:=zV p2 (by omega);have ycp:=zV cp (blk_lt (HB.o wr (HUY.o _ Hb.o)).1.hp);clear x0 x1 x2 x3 x4 p1 p2 cs cp;cases h3:decide (r.p.many<us2+um)
   ·have HN:=hI (Hnx.o.trans (show(startsIn b fm tt i&&decide (r.p.many<us2+um))=false by rw[h3];simp));refine wp_region_later (by kernel_rfl) (by kernel_rfl) ?_
    repeat (any_goals (first | go_big_quiet_step ((go_at_call 214;exact later_call _ (HUse2.o _))) | quiet_step ((go_at_call 214;exact later_call _ (HUse2.o _)))))
    refine wpQuiet_nil ?_;rintro w' ⟨e,rfl⟩;have HEb:=hI (show Bl Y e.w from Hb.o.trans (e.b.mono hsr));go_wp2;go_roundw;case rel=>exact⟨i+1,by omega,by go_num,HEb,HN⟩
    case measure=>simp[intOf];omega
   ·have HE:=hI (Hall.o (by rw[HSt.o,h3];rfl));refine wp_region_later (by kernel_rfl) (by kernel_rfl) ?_
    repeat (any_goals (first | go_big_quiet_step ((go_at_call 214;exact later_call _ (HUse2.o _))) | quiet_step ((go_at_call 214;exact later_call _ (HUse2.o _)))))
    refine wpQuiet_nil ?_;rintro w' ⟨e,rfl⟩;have HEb:=hI (show Bl Y e.w from Hb.o.trans (e.b.mono hsr));go_wp2;go_ret;exact⟨ret_bool HE.o.symm,HU0.o _ (HUY.o _ HEb.o)⟩
  ·have HE:=hI (show freeV j.p b ⟨rn,um⟩ fm tt=true by rw[HL.o,show n=i by omega,Hno.o];rfl);go_wp2;go_ret;exact⟨ret_bool HE.o.symm,HU0.o _ (HUY.o _ Hb.o)⟩
end Go.Proofs.YtjpgnfekbojcaaaGreat
namespace W8
open W7
theorem readyGo_le {j:JobP} {b:Bd} (hG:JGood j) (hs:∀i,0<=b.st.getD i 0/\b.st.getD i 0<=100000):∀(l:List Int) (a:Int),(∀k∈l,0<=k/\k<j.tasks.length)->0<=a->a<=200000->0<=readyGo j b l a/\readyGo j b l a<=200000
 | [],_,_,h0,h1=>⟨h0,h1⟩
 | k::l,_,h,h0,h1=>by
  have hk:=h k (zL ..);have ht:=hG.takes (j.tasks.getD k.toNat default) (by rw[getD_of (by omega)];exact zC _);have hst:=hs k.toNat;refine readyGo_le hG hs l _ (fun x hx=>h x (zQ _ hx)) ?_ ?_<;>unfold endV<;>omega
theorem readyGo_snoc (j:JobP) (b:Bd) (k:Int):∀(l:List Int) (a:Int),readyGo j b (l++[k]) a=max (readyGo j b l a) (endV j b k.toNat)
 | [],_=>rfl
 | _::l,_=>readyGo_snoc j b k l _
theorem nodup_len:∀(n:Nat) (l:List Nat),l.Nodup->(∀x∈l,x<n)->l.length<=n
 | 0,l,_,h=>by
  cases l with
  | nil=>simp
  | cons x l=>exact absurd (h x (zL ..)) (by omega)
 | n+1,l,hn,h=>by
  by_cases hm:n∈l
  ·have h1:=nodup_len n (l.erase n) (hn.erase n) (fun x hx=>by
    have h2:=(hn.mem_erase_iff).1 hx;have h3:=h x h2.2;have h4:=h2.1;omega)
   rw[List.length_erase_of_mem hm] at h1;omega
  ·have h1:=nodup_len n l hn (fun x hx=>by
    have h2:=h x hx;have h3:x≠n:=fun e=>hm (e▸hx)
    omega)
   omega
theorem nodup_lenI {n:Nat} {l:List Int} (hn:l.Nodup) (h:∀x∈l,0<=x/\x<n):l.length<=n:=by
 have h1:=nodup_len n (l.map Int.toNat) (by
  rw[List.Nodup,List.pairwise_map];refine hn.imp_of_mem ?_;intro a b ha hb hab h2;have:=h a ha;have:=h b hb;omega) (fun x hx=>by
  obtain⟨y,hy,rfl⟩:=List.mem_map.1 hx;have:=h y hy;omega)
 simpa using h1
theorem uses_len {j:JobP} (hG:JGood j) {t:TaskP} (ht:t∈j.tasks):t.uses.length<=16:=by
 have h1:=nodup_lenI (n:=j.res.length) (hG.nuses t ht) (fun x hx=>by
  obtain⟨u,hu,rfl⟩:=List.mem_map.1 hx;have:=hG.uses t ht u hu;omega)
 have h2:=hG.nr;simp at h1;omega
theorem needs_len {j:JobP} (hG:JGood j) {t:TaskP} (ht:t∈j.tasks):t.needs.length<=64:=by
 have h1:=nodup_lenI (n:=j.tasks.length) (hG.nneeds t ht) (fun x hx=>hG.needs t ht x hx);have h2:=hG.nt;omega
end W8
namespace Go.Proofs.YtjpgnfekbojcaaaGreat
open Go.RowKit W7 W8
attribute [local go_sem] Oper.semAt_some
theorem ready_any (j:Job) (b:Bd) (fr:Int) (k g sb pb B:Nat) (w:World) (hb:BdIn w g sb pb j b fr) (hj:JIn w B j) (hB:B<=w.heap.size) (hG:JGood j.p) (hs:BOk b) (hk:k<j.tasks.length) (_hfr:0<=fr/\fr<=200000) :
  Calls Tryz.prog 182 #[.pointer (some ⟨g,0,none⟩),.int .i64 (k:Int)] w fun e w'=>e= .returned (.int .i64 (readyV j.p b fr k))/\Bl w w':=by
 obtain⟨n,hn⟩:=eX j.tasks.length;have h64:n<=64:=by have:=hG.nt;rw[j.nt] at this;omega
 have hlc:=hj.tl;have hc2:=hj.tc;rw[hn] at hlc;have HB:=hI (show ∀X:World,Bl w X->BdIn X g sb pb j b fr/\JIn X B j from fun X hX=>⟨hb.below hX,hj.below (hX.mono hB)⟩);have HG:=hI hG;have HS:=hI hs;have Hn:=hI hn;obtain⟨tb,off,hTA,htb⟩:=hj.ta (by omega);obtain⟨_,_,c2,_⟩:=hj.tcells hTA hk;have q0:=kC 0 hb.hg rfl;have q4:=kC 4 hb.hg rfl;rw[hTA,hn] at q0;have hTk:=hj.tks _ (j.T_mem hk);have HNs:=hI (fun(X:World) (hX:Bl w X)=>((HB.o X hX).2.tks _ (j.T_mem hk)).ns);have hnl:=hTk.nl;have hnc:=hTk.nc;have HNd:=hI (hG.needs _ (j.Tp_mem hk));have HU:=hI (show readyV j.p b fr k=readyGo j.p b (j.T k).p.needs fr by unfold readyV;rw[j.pT]);generalize j.T k=t at c2 HNs hnl hnc HNd HU;obtain⟨NA,hNA⟩:=eX t.NA;obtain⟨nn,hnn⟩:=eX t.p.needs.length;rw[hNA,hnn] at c2;rw[hNA] at HNs;rw[hnn] at hnl;have Hnn:=hI hnn;rw[hn] at hk;have hmx:=max_run Tryz.prog;clear hb hj hG hs hn hTA hTk hNA hnn
 go_enter Tryz.func182,Tryz.ntmps182;go_wp2;clear q0 q4 c2;go_loopw [5,22] (fun v5 v22 wr=>∃i:Nat,i<=nn/\v22= .int .i64 i/\v5= .int .i64 (readyGo j.p b (t.p.needs.take i) fr)/\Hid (Bl w wr)) (fun _ v22 _=>nn-(intOf v22).toNat);case atStart=>exact⟨0,by omega,rfl,rfl,hI (zX _ _)⟩
 case round=>
  obtain⟨i,hi,rfl,rfl,Hb⟩:=hrel;have hsr:=Hb.o.size
  by_cases hlt:i<nn
  ·have hil:i<t.p.needs.length:=by have:=Hnn.o;omega
   obtain⟨nb,noff,hne,hnb,hcells⟩:=(HNs.o wr Hb.o) (by omega)
   subst hne;have c0:wr.cell? ⟨nb,noff+i,none⟩=some (.int .i64 t.p.needs[i]):=by have h:=hcells i hil 0 _ rfl;rwa [Nat.mul_one,Nat.add_zero] at h
   have hnd:=HNd.o _ (zC hil);have HSn:=hI (show readyGo j.p b (t.p.needs.take (i+1)) fr=max (readyGo j.p b (t.p.needs.take i) fr) (endV j.p b t.p.needs[i].toNat) by rw[zK hil,readyGo_snoc]);obtain⟨x,hx⟩:∃x:Nat,t.p.needs[i]=x:=⟨t.p.needs[i].toNat,by omega⟩
   rw[hx] at c0 hnd HSn;rw[zZ] at HSn;have hxl:x<j.tasks.length:=by have:=hnd.2;rw[j.nt] at this;omega
   have HE:=hI (end_any j b fr g sb pb B x wr (HB.o wr Hb.o).1 (HB.o wr Hb.o).2 HG.o hxl (HS.o x));generalize readyGo j.p b (t.p.needs.take i) fr=S at HSn;generalize endV j.p b x=ev at HE HSn;clear hcells hx hnd hxl;go_wp2_with (go_at_call 138;refine HE.o.mono ?_;rintro e w' ⟨rfl,kk,rfl⟩);go_roundw;case rel=>exact⟨i+1,by omega,by go_num,by rw[HSn.o],hI (zO Hb.o _)⟩
   case measure=>simp[intOf];omega
  ·have HE:=hI (show readyV j.p b fr k=readyGo j.p b (t.p.needs.take i) fr by rw[HU.o,zG (by have:=Hnn.o;omega)]);go_wp2;go_ret;exact⟨ret_int HE.o.symm,Hb.o⟩
theorem fits1_any (j:Job) (b:Bd) (fr at' tk:Int) (u:JUse) (bb ba bt g sb pb B:Nat) (w:World) (hb:BdIn w g sb pb j b fr) (hj:JIn w B j) (hB:B<=w.heap.size) (hG:JGood j.p) (hs:BOk b) (hu:0<=u.res/\u.res<j.res.length) (hum:1<=u.many/\u.many<=1000)
  (h0:w.cell? ⟨bb,0,none⟩=some (.pointer (some ⟨g,0,none⟩))) (h1:w.cell? ⟨ba,0,none⟩=some (.int .i64 at')) (h2:w.cell? ⟨bt,1,none⟩=some (.int .i64 tk)) (g0:bb<w.heap.size) (g1:ba<w.heap.size) (g2:bt<w.heap.size) (hat:0<=at'/\at'<=1000000) (htk:0<=tk/\tk<=1000000) :
  Calls Tryz.prog 185 #[.agg #[.int .i64 u.res,.int .i64 u.many],.pointer (some ⟨bb,0,none⟩),.pointer (some ⟨ba,0,none⟩),.pointer (some ⟨bt,0,none⟩)] w fun e w'=>e= .returned (.bool (!freeV j.p b u at' (at'+tk)))/\Bl w w':=by
 obtain⟨W0,HW0,hs0,HB0,HX00,HU0⟩:=boxes1 w (.cells #[.int .i64 u.res,.int .i64 u.many] 48);have HF:=hI (free_any j b fr u at' (at'+tk) g sb pb B W0 (hb.below HB0.o) (hj.below (HB0.o.mono hB)) (by omega) hG hs hu hum);have k0:=(HB0.o.cell (p:=⟨bb,0,none⟩) g0).trans h0;have k1:=(HB0.o.cell (p:=⟨ba,0,none⟩) g1).trans h1;have k2:=(HB0.o.cell (p:=⟨bt,1,none⟩) g2).trans h2;have q0:=kC 0 (HX00.o W0 (zX _ _)) rfl;have q1:=kC 1 (HX00.o W0 (zX _ _)) rfl;generalize freeV j.p b u at' (at'+tk)=fv at HF;clear hb hj hG hs hu hum h0 h1 h2 HX00;go_enter Tryz.func185,Tryz.ntmps185;go_upto_region 1 with fail;rw[<- HW0.o];go_wp2_with (go_at_call 186;refine HF.o.mono ?_;rintro e w2 ⟨rfl,hb2⟩;have Hb2:=hI hb2;clear hb2);go_ret;exact⟨rfl,HU0.o _ Hb2.o⟩
set_option maxHeartbeats 1000000 in
theorem idxFits_any (P:JUse->Bool) (a0 a1 a2:Value) (xs:List JUse) (n:Nat) (hn:n=xs.length) (A:Option Addr) (c B:Nat) (w:World) (hA:Sl w B 2 encUse A xs) (hB:B<=w.heap.size) (hl:xs.length<=9223372036854775807)
    (hF:∀(x:JUse),x∈xs->∀(W:World),Bl w W->Calls Tryz.prog 185 #[.agg #[.int .i64 x.res,.int .i64 x.many],a0,a1,a2] W fun e w'=>e= .returned (.bool (P x))/\Bl W w') :
    Calls Tryz.prog 145 #[.slice A n c,.func (.func 185) #[] #[a0,a1,a2]] w fun e w'=>e= .returned (.int .i64 (idxB P xs))/\Bl w w':=by
  subst hn;have HA:=hI hA;have HF:=hI hF;clear hA hF;go_enter Tryz.func145,Tryz.ntmps145;go_wp2;go_loopw [8] (fun i wr=>∃k:Nat,k<=xs.length/\i= .int .i64 k/\Hid ((xs.take k).any P=false)/\Hid (Bl w wr)) (fun i _=>xs.length-(intOf i).toNat);case atStart=>exact⟨0,by omega,rfl,hI (by simp),hI (zX _ _)⟩
  case round=>
    obtain⟨k,hk,rfl,Hno,Hb⟩:=hrel;have hsz:=Hb.o.size
    by_cases hlt:k<xs.length
    · obtain⟨b,off,rfl,hbB,hcells⟩:=(HA.o.below (Hb.o.mono hB)) (by omega)
      have h0:=hcells k hlt;clear hcells;have c0:wr.cell? ⟨b,off+k*2,none⟩=some (.int .i64 xs[k].res):=h0 0 _ rfl;have c1:wr.cell? ⟨b,off+k*2+1,none⟩=some (.int .i64 xs[k].many):=h0 1 _ rfl;have Hs:=hI (any_take_succ (p:=P) hlt Hno.o);have Hh:=hI (idxB_hit (p:=P) hlt Hno.o);have HK:=hI (fun(W:World) (hW:Bl w W)=>HF.o xs[k] (zC hlt) W hW);generalize xs[k]=x at c0 c1 Hs Hh HK;clear h0;cases hp:P x
      · have HK2:=hI (fun(W:World) (hW:Bl w W)=>hp▸HK.o W hW)
        go_wp2_with (go_at_call 185;refine(HK2.o _ (by first | exact Hb.o | exact Hb.o.alloc (by omega) _)).mono ?_;rintro e w1 ⟨rfl,hb1⟩;have Hb1:=hI hb1;clear hb1);go_roundw;case rel=>exact⟨k+1,by omega,by go_num,hI (Hs.o hp),hI (by first | exact Hb.o.trans (Hb1.o.mono hsz) | exact(Hb.o.alloc (by omega) _).trans (Hb1.o.mono (by simp;omega)))⟩
        case measure=>simp[intOf];omega
      · have HK2:=hI (fun(W:World) (hW:Bl w W)=>hp▸HK.o W hW)
        go_wp2_with (go_at_call 185;refine(HK2.o _ (by first | exact Hb.o | exact Hb.o.alloc (by omega) _)).mono ?_;rintro e w1 ⟨rfl,hb1⟩;have Hb1:=hI hb1;clear hb1);go_ret;exact⟨ret_int (Hh.o hp).symm,(by first | exact Hb.o.trans (Hb1.o.mono hsz) | exact(Hb.o.alloc (by omega) _).trans (Hb1.o.mono (by simp;omega)))⟩
    · have HN:=hI (idxB_none (p:=P) (xs:=xs) (by rw[<- Hno.o,zG (by omega)]))
      go_wp2;go_ret;exact⟨ret_int HN.o.symm,Hb.o⟩
theorem conFits_any (P:JUse->Bool) (a0 a1 a2:Value) (xs:List JUse) (n:Nat) (hn:n=xs.length) (A:Option Addr) (c B:Nat) (w:World) (hA:Sl w B 2 encUse A xs) (hB:B<=w.heap.size) (hl:xs.length<=9223372036854775807)
    (hF:∀(x:JUse),x∈xs->∀(W:World),Bl w W->Calls Tryz.prog 185 #[.agg #[.int .i64 x.res,.int .i64 x.many],a0,a1,a2] W fun e w'=>e= .returned (.bool (P x))/\Bl W w') :
    Calls Tryz.prog 73 #[.slice A n c,.func (.func 185) #[] #[a0,a1,a2]] w fun e w'=>e= .returned (.bool (xs.any P))/\Bl w w':=by
  have H:=hI (idxFits_any P a0 a1 a2 xs n hn A c B w hA hB hl hF);have HI:=hI (idxB_any (p:=P) (xs:=xs));clear hA hn hF;go_enter Tryz.func73,Tryz.ntmps73;go_wp2_with (go_at_call 145;refine H.o.mono ?_;rintro e w1 ⟨rfl,hb1⟩;have Hb1:=hI hb1;clear hb1);go_ret;exact⟨ret_bool HI.o,Hb1.o⟩

theorem fits_any (j:Job) (b:Bd) (fr at':Int) (k g sb pb B:Nat) (w:World) (hb:BdIn w g sb pb j b fr) (hj:JIn w B j) (hB:B<=w.heap.size) (hG:JGood j.p) (hs:BOk b) (hk:k<j.tasks.length) (hat:0<=at'/\at'<=1000000) :
  Calls Tryz.prog 139 #[.pointer (some ⟨g,0,none⟩),.int .i64 (k:Int),.int .i64 at'] w fun e w'=>e= .returned (.bool (fitsV j.p b k at'))/\Bl w w':=by
 obtain⟨n,hn⟩:=eX j.tasks.length;obtain⟨W0,HW0,hs0,HB0,HX00,HX01,HU0⟩:=boxes2 w (.cells #[.pointer (some ⟨g,0,none⟩)] 110) (.cells #[.int .i64 at'] 3);have h64:n<=64:=by have:=hG.nt;rw[j.nt] at this;omega
 have hlc:=hj.tl;have hc2:=hj.tc;rw[hn] at hlc;have HB:=hI (show ∀X:World,Bl W0 X->BdIn X g sb pb j b fr/\JIn X B j from fun X hX=>⟨hb.below (HU0.o X hX),hj.below ((HU0.o X hX).mono hB)⟩);have HG:=hI hG;have HS:=hI hs;obtain⟨tb,off,hTA,htb⟩:=hj.ta (by omega);obtain⟨c0,c1,c2,c3⟩:=(HB.o W0 (zX _ _)).2.tcells hTA hk;have q0:=kC 0 (HB.o W0 (zX _ _)).1.hg rfl;rw[hTA,hn] at q0;have hTk:=hj.tks _ (j.T_mem hk);have HUs:=hI (fun(X:World) (hX:Bl W0 X)=>((HB.o X hX).2.tks _ (j.T_mem hk)).us);have hul:=hTk.ul;have huc:=hTk.uc;have htk:=hG.takes _ (j.Tp_mem hk);have HUg:=hI (hG.uses _ (j.Tp_mem hk));have HFt:=hI (show fitsV j.p b k at'=(decide (at'+(j.T k).p.takes<=100000)&&(decide ((j.T k).p.takes=0)|| !(j.T k).p.uses.any (fun u=> !freeV j.p b u at' (at'+(j.T k).p.takes)))) by unfold fitsV;rw[j.pT]);have hul16:=uses_len hG (j.Tp_mem hk);generalize j.T k=t at hul16 c0 c1 c2 c3 HUs hul huc htk HUg HFt
 have v0:=kC 0 (HX00.o W0 (zX _ _)) rfl;have hgl:=blk_lt (HB.o W0 (zX _ _)).1.hg;rw[hn] at hk;clear hb hj hG hs hn hTA hTk;go_enter Tryz.func139,Tryz.ntmps139;go_upto_region 1 with fail;rw[<- HW0.o];obtain⟨UA,hUA⟩:=eX t.UA;obtain⟨nu,hnu⟩:=eX t.p.uses.length;obtain⟨tk,htk'⟩:=eX t.p.takes;rw[hUA,hnu] at c3;rw[hUA] at HUs;rw[hnu] at hul hul16;rw[htk'] at c1 htk HFt;have Hnu:=hI hnu;clear hUA hnu htk';go_upto_region 2 with fail;obtain⟨W2,hW2⟩:=eY (W0.alloc (.cells #[.string t.p.name,.int .i64 tk,.slice t.NA t.p.needs.length t.nc,.slice UA nu t.uc] 46));have HB2:=hI (show Bl W0 W2 by rw[hW2];exact(zX _ _).alloc (zm _) _);have hs2:W0.heap.size+1<=W2.heap.size:=by rw[hW2];simp
 have HX2:=hI (show ∀X:World,Bl W2 X->X.heap[w.heap.size+2]? =some (.cells #[.string t.p.name,.int .i64 tk,.slice t.NA t.p.needs.length t.nc,.slice UA nu t.uc] 46 (0,0)) from fun X hX=>(hX.block _ (by omega)).trans (by rw[hW2,<-hs0];exact zW _ _));rw[<- hW2];clear hW2 c0 c1 c2 c3 q0 v0;have t1:=kC 1 (HX2.o W2 (zX _ _)) rfl;have t3:=kC 3 (HX2.o W2 (zX _ _)) rfl;have v0:=kC 0 (HX01.o W2 HB2.o) rfl
 by_cases hbig:100000<at'+tk
 ·have HE:=hI (show fitsV j.p b k at'=false by rw[HFt.o,zE (by omega)];rfl);go_wp2;go_ret;exact⟨ret_bool HE.o.symm,HU0.o _ HB2.o⟩
 have HFt2:=hI (show fitsV j.p b k at'=(decide (tk=0)|| !t.p.uses.any (fun u=> !freeV j.p b u at' (at'+tk))) by rw[HFt.o,zD (show at'+tk<=100000 by omega)];rfl)
 by_cases hz:tk=0
 ·have HE:=hI (show fitsV j.p b k at'=true by rw[HFt2.o,zD hz];rfl);have hz':(tk==0)=true:=by rw[hz];rfl
  clear hz;go_wp2;go_ret;exact⟨ret_bool HE.o.symm,HU0.o _ HB2.o⟩
 have hz':(tk==0)=false:=beq_false_of_ne hz;have HFt3:=hI (show fitsV j.p b k at'= !t.p.uses.any (fun u=> !freeV j.p b u at' (at'+tk)) by rw[HFt2.o,zE hz];rfl);have HUW:=hI (show ∀X:World,Bl W2 X->Bl W0 X from fun X hX=>HB2.o.trans (hX.mono (by omega)))
 have HC:=hI (conFits_any (fun u=> !freeV j.p b u at' (at'+tk)) (.pointer (some ⟨w.heap.size,0,none⟩)) (.pointer (some ⟨w.heap.size+1,0,none⟩)) (.pointer (some ⟨w.heap.size+2,0,none⟩)) t.p.uses nu Hnu.o.symm UA t.uc B W2 (HUs.o W2 HB2.o) (by omega) (by rw[Hnu.o];omega) (fun u hu W hW=>fits1_any j b fr at' tk u _ _ _ g sb pb B W (HB.o W (HUW.o W hW)).1 (HB.o W (HUW.o W hW)).2 (by have:=hW.size;omega) HG.o HS.o (by have h1:=HUg.o u hu;rw[j.nr] at h1;exact⟨h1.1,h1.2.1⟩) (by have h1:=HUg.o u hu;exact⟨h1.2.2.1,h1.2.2.2.1⟩) (kC 0 (HX00.o W (HUW.o W hW)) rfl) (kC 0 (HX01.o W (HUW.o W hW)) rfl) (kC 1 (HX2.o W hW) rfl) (by have:=hW.size;omega) (by have:=hW.size;omega) (by have:=hW.size;omega) hat (by omega)));generalize t.p.uses.any (fun u=> !freeV j.p b u at' (at'+tk))=an at HC HFt3;clear hz;go_wp2_with (go_at_call 73;refine HC.o.mono ?_;rintro e w2 ⟨rfl,hb2⟩;have Hb2:=hI hb2;clear hb2);go_ret
 exact⟨ret_bool HFt3.o.symm,HU0.o _ (HUW.o _ Hb2.o)⟩
end Go.Proofs.YtjpgnfekbojcaaaGreat
