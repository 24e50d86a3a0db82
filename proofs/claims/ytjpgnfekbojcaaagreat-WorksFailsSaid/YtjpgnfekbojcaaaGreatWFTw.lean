/- A job in new memory (twin). -/
import Derived.Test.YtjpgnfekbojcaaaGreatWFlr
set_option maxHeartbeats 8000000
set_option maxRecDepth 100000
namespace Go.Proofs.YtjpgnfekbojcaaaGreat
open Go.RowKit W7 W8
attribute [local go_sem] Oper.semAt_some
theorem elemT:Elem Tryz.prog 22 46 (.agg #[.string ByteArray.empty,.int .i64 0,.slice none 0 0,.slice none 0 0]) 4 72:=Elem.mk' Tryz.underlying22 (by kernel_rfl) rfl (by decide) (by decide)
theorem elemR:Elem Tryz.prog 23 43 (.agg #[.string ByteArray.empty,.int .i64 0,.slice none 0 0]) 3 48:=Elem.mk' Tryz.underlying23 (by kernel_rfl) rfl (by decide) (by decide)
structure JNil (j:Job):Prop where
 ns:∀t∈j.tasks,t.NA=none->t.p.needs.length=0/\t.nc=0
 us:∀t∈j.tasks,t.UA=none->t.p.uses.length=0/\t.uc=0
 os:∀r∈j.res,r.OA=none->r.p.off.length=0/\r.oc=0
structure TkOwn (X:World) (base:Nat) (t:Task):Prop where
 ns:X.ownsRow base 3 1 (.slice t.NA t.p.needs.length t.nc) t.p.needs.length (t.p.needs.flatMap encInt1)
 us:X.ownsRow base 48 2 (.slice t.UA t.p.uses.length t.uc) t.p.uses.length (t.p.uses.flatMap encUse)
 nm:t.p.name.size<=maxLen
structure TksOwn (X:World) (base:Nat) (v:Value) (ts:List Task):Prop where
 row:X.ownsRow base 46 4 v ts.length (ts.flatMap encTask)
 tk:∀t∈ts,TkOwn X base t
structure RsOwn (X:World) (base:Nat) (r:Res):Prop where
 os:X.ownsRow base 50 2 (.slice r.OA r.p.off.length r.oc) r.p.off.length (r.p.off.flatMap encJSpan)
 nm:r.p.name.size<=maxLen
structure RssOwn (X:World) (base:Nat) (v:Value) (rs:List Res):Prop where
 row:X.ownsRow base 43 3 v rs.length (rs.flatMap encRes)
 rs:∀r∈rs,RsOwn X base r
structure JOwn (X:World) (base:Nat) (j:Job):Prop where
 tk:TksOwn X base (.slice j.TA j.tasks.length j.tc) j.tasks
 rs:RssOwn X base (.slice j.RA j.res.length j.rc) j.res
theorem ress_snoc (l:List Res) (t:Res):(l++[t]).flatMap encRes=l.flatMap encRes++encRes t:=by rw[List.flatMap_append];simp
theorem tasks_snoc (l:List Task) (t:Task):(l++[t]).flatMap encTask=l.flatMap encTask++encTask t:=by rw[List.flatMap_append];simp
theorem twin_any (j:Job) (B:Nat) (w:World) (hj:JIn w B j) (hB:B<=w.heap.size) (hG:JGood j.p) (hN:JNil j) :
  Calls Tryz.prog 71 #[jobV j] w fun e w'=>∃j':Job,e= .returned (jobV j')/\j'.p=j.p/\JOwn w' w.heap.size j'/\Bl w w':=by
 obtain⟨n,hn⟩:∃n,j.tasks.length=n:=⟨_,rfl⟩
 obtain⟨TA,hTA⟩:∃x,j.TA=x:=⟨_,rfl⟩
 have hjv:jobV j= .agg #[.slice TA n j.tc,.slice j.RA j.res.length j.rc]:=by unfold jobV;rw[hn,hTA]
 rw[hjv];obtain⟨W0,hW0⟩:∃W0,W0=(((w.alloc (.cells #[.slice TA n j.tc,.slice j.RA j.res.length j.rc] 25)).alloc (.cells #[.slice none 0 0,.slice none 0 0] 25)).alloc (.cells #[.slice none 0 0,.slice none 0 0] 25)):=⟨_,rfl⟩
 have hs0:W0.heap.size=w.heap.size+3:=by rw[hW0];simp
 have HB0:=hI (show Bl w W0 by rw[hW0];exact(((Below.refl w.heap.size w).alloc (Nat.le_refl _) _).alloc (by simp) _).alloc (by simp;omega) _);have HX00:=hI (show ∀X:World,Bl W0 X->X.heap[w.heap.size]? =some (.cells #[.slice TA n j.tc,.slice j.RA j.res.length j.rc] 25 (0,0)) from fun X hX=>(hX.block _ (by omega)).trans (by rw[hW0,Below.heap_alloc _ _ _ (by simp;try omega),Below.heap_alloc _ _ _ (by simp)];exact heap_alloc_new _ _));have HX01:=hI (show ∀X:World,Bl W0 X->X.heap[w.heap.size+1]? =some (.cells #[.slice none 0 0,.slice none 0 0] 25 (0,0)) from fun X hX=>(hX.block _ (by omega)).trans (by rw[hW0,Below.heap_alloc _ _ _ (by simp;try omega)];exact(by have h9:=heap_alloc_new (w.alloc (.cells #[.slice TA n j.tc,.slice j.RA j.res.length j.rc] 25)) (.cells #[.slice none 0 0,.slice none 0 0] 25);rwa [show(w.alloc (.cells #[.slice TA n j.tc,.slice j.RA j.res.length j.rc] 25)).heap.size=w.heap.size+1 by simp] at h9)))
 have HX02:=hI (show ∀X:World,Bl W0 X->X.heap[w.heap.size+2]? =some (.cells #[.slice none 0 0,.slice none 0 0] 25 (0,0)) from fun X hX=>(hX.block _ (by omega)).trans (by rw[hW0];exact(by have h9:=heap_alloc_new ((w.alloc (.cells #[.slice TA n j.tc,.slice j.RA j.res.length j.rc] 25)).alloc (.cells #[.slice none 0 0,.slice none 0 0] 25)) (.cells #[.slice none 0 0,.slice none 0 0] 25);rwa [show((w.alloc (.cells #[.slice TA n j.tc,.slice j.RA j.res.length j.rc] 25)).alloc (.cells #[.slice none 0 0,.slice none 0 0] 25)).heap.size=w.heap.size+2 by simp] at h9)));have HU0:=hI (fun(X:World) (hX:Bl W0 X)=>show Bl w X from HB0.o.trans (hX.mono (by omega)));have HW0:=hI hW0;clear hW0;have hnt:j.tasks.length<=1000:=by have:=hG.nt;rw[j.nt] at this;omega
 have hlc:=hj.tl;have hc2:=hj.tc;rw[hn] at hlc hnt;have HJ:=hI (show ∀X:World,Bl W0 X->JIn X B j from fun X hX=>hj.below ((HU0.o X hX).mono hB));have Hn:=hI hn;have HTA:=hI hTA;have HN:=hI hN;have HG:=hI hG;have q0:=W7.bc (j:=0) (HX00.o W0 (Below.refl _ _)) rfl;have q1:=W7.bc (j:=1) (HX00.o W0 (Below.refl _ _)) rfl;clear hj hn hTA hjv hN hG;go_enter Tryz.func71,Tryz.ntmps71;go_upto_region 2 with fail;rw[<- HW0.o];go_wp2;clear q0 q1;have HJ2:=hI (show ∀X:World,Below (w.heap.size+2) W0 X->JIn X B j from fun X hX=>(HJ.o W0 (Below.refl _ _)).below (hX.mono (by omega)));have HX0:=hI (show ∀X:World,Below (w.heap.size+2) W0 X->X.heap[w.heap.size]? =some (.cells #[.slice TA n j.tc,.slice j.RA j.res.length j.rc] 25 (0,0)) from fun X hX=>(hX.block _ (by omega)).trans (HX00.o W0 (Below.refl _ _)))
 have HX1:=hI (show ∀X:World,Below (w.heap.size+2) W0 X->X.heap[w.heap.size+1]? =some (.cells #[.slice none 0 0,.slice none 0 0] 25 (0,0)) from fun X hX=>(hX.block _ (by omega)).trans (HX01.o W0 (Below.refl _ _)));have hx2:=HX02.o W0 (Below.refl _ _);go_loopw [11] (fun v11 wr=>∃(i:Nat) (ts:List Task),i<=n/\v11= .int .i64 i/\Hid (ts.map (·.p)=(j.tasks.take i).map (·.p))/\Hid (∃v,wr.heap[w.heap.size+2]? =some (.cells #[v,.slice none 0 0] 25 (0,0))/\TksOwn wr W0.heap.size v ts)/\Hid (Below (w.heap.size+2) W0 wr)/\Hid (W0.heap.size<=wr.heap.size)) (fun v11 _=>n-(intOf v11).toNat);case atStart=>exact⟨0,[],by omega,rfl,hI rfl,hI ⟨.slice none 0 0,hx2,⟨World.ownsRow_nil _ _ _ _,fun t ht=>absurd ht (by simp)⟩⟩,hI (Below.refl _ _),hI (Nat.le_refl _)⟩
 case round=>
  obtain⟨i,ts,hi,rfl,Hts,Ho,Hb,Hsz⟩:=hrel;have hsz:=Hsz.o
  by_cases hlt:i<n
  ·have hil:i<j.tasks.length:=by have:=Hn.o;omega
   have hjn:=HJ2.o wr Hb.o;obtain⟨tb,off,hTb,htb⟩:=hjn.ta (by omega);have hTe:TA=some ⟨tb,off,none⟩:=by rw[<- HTA.o];exact hTb
   subst hTe;obtain⟨c0,c1,c2,c3⟩:=hjn.tcells hTb hil;have htn:=HN.o.ns _ (j.T_mem hil);have htu:=HN.o.us _ (j.T_mem hil);have htl:=(show(j.T i).p.needs.length<=1000/\(j.T i).p.uses.length<=1000 from⟨by have:=needs_len HG.o (j.Tp_mem hil);omega,by have:=uses_len HG.o (j.Tp_mem hil);omega⟩)
   have HTk:=hI (fun(X:World) (hX:Below (w.heap.size+2) W0 X)=>(HJ2.o X hX).tks _ (j.T_mem hil));have HTe:=hI (show(j.tasks.take (i+1)).map (·.p)=(j.tasks.take i).map (·.p)++[(j.T i).p] by rw[List.take_succ_eq_append_getElem hil,List.map_append];unfold Job.T;rw[getD_of hil];rfl);generalize j.T i=t at c0 c1 c2 c3 htn htu htl HTk HTe;obtain⟨NA,hNA⟩:∃x,t.NA=x:=⟨_,rfl⟩
   obtain⟨UA,hUA⟩:∃x,t.UA=x:=⟨_,rfl⟩
   obtain⟨nn,hnn⟩:∃x,t.p.needs.length=x:=⟨_,rfl⟩
   obtain⟨nu,hnu⟩:∃x,t.p.uses.length=x:=⟨_,rfl⟩
   obtain⟨tk,htk⟩:∃x,t.p.takes=x:=⟨_,rfl⟩
   obtain⟨nm,hnm⟩:∃x,t.p.name=x:=⟨_,rfl⟩
   obtain⟨nc,hnc⟩:∃x,t.nc=x:=⟨_,rfl⟩
   obtain⟨uc,huc⟩:∃x,t.uc=x:=⟨_,rfl⟩
   obtain⟨W4,hW4⟩:∃W4,W4=wr.alloc (.cells #[.string nm,.int .i64 tk,.slice NA nn nc,.slice UA nu uc] 46):=⟨_,rfl⟩
   have hs4:W4.heap.size=wr.heap.size+1:=by rw[hW4];simp
   have hs4':wr.heap.size<W4.heap.size:=by omega
   have HT4:=hI (show W4.heap[wr.heap.size]? =some (.cells #[.string nm,.int .i64 tk,.slice NA nn nc,.slice UA nu uc] 46 (0,0)) by rw[hW4];exact heap_alloc_new _ _);have HB4:=hI (show Below (w.heap.size+2) W0 W4 by rw[hW4];exact Hb.o.alloc (by omega) _);have HBe:=hI (show ∀e:GLater W4 (some wr.heap.size),Below (w.heap.size+2) W0 e.w from fun e=>HB4.o.grown e.g (by omega) (fun k hk=>by cases hk;omega));have HCi:=hI (show ∀e:GLater W4 (some wr.heap.size),Calls Tryz.prog 140 #[.slice NA nn nc] e.w fun r w'=>∃v,r= .returned v/\w'.ownsRow e.w.heap.size 3 1 v nn (t.p.needs.flatMap encInt1)/\Below e.w.heap.size e.w w' from fun e=>cloneI_any t.p.needs NA nn nc e.w hnn.symm (by rw[<- hNA];exact(HTk.o _ (HBe.o e)).ns.mono (by have:=e.g.size;omega)) (fun h=>by have h1:=htn (by rw[hNA];exact h);omega) (by omega))
   have HCu:=hI (show ∀e:GLater W4 (some wr.heap.size),Calls Tryz.prog 141 #[.slice UA nu uc] e.w fun r w'=>∃v,r= .returned v/\w'.ownsRow e.w.heap.size 48 2 v nu (t.p.uses.flatMap encUse)/\Below e.w.heap.size e.w w' from fun e=>cloneU_any t.p.uses UA nu uc e.w hnu.symm (by rw[<- hUA];exact(HTk.o _ (HBe.o e)).us.mono (by have:=e.g.size;omega)) (fun h=>by have h1:=htu (by rw[hUA];exact h);omega) (by omega))
   have HOe:=hI (show ∀e:GLater W4 (some wr.heap.size),∃v,e.w.heap[w.heap.size+2]? =some (.cells #[v,.slice none 0 0] 25 (0,0))/\TksOwn e.w W0.heap.size v ts from fun e=>by
    obtain⟨v,h1,h2⟩:=Ho.o;have hbw:Bl wr e.w:=(show Bl wr W4 by rw[hW4];exact(Below.refl _ _).alloc (Nat.le_refl _) _).grown e.g (by omega) (fun k hk=>by cases hk;exact Nat.le_refl _);exact⟨v,(hbw.block _ (blk_lt h1)).trans h1,⟨own_below h2.row hbw,fun t ht=>⟨own_below (h2.tk t ht).ns hbw,own_below (h2.tk t ht).us hbw,(h2.tk t ht).nm⟩⟩⟩)
   have HTp:=hI (show t.p=⟨nm,tk,t.p.needs,t.p.uses⟩ by rw[<- hnm,<-htk]);have HNm:=hI (show nm.size<=maxLen by rw[<- hnm];exact(HTk.o _ Hb.o).nm);have Hnn:=hI hnn;have Hnu:=hI hnu;rw[hnm] at c0;rw[htk] at c1;rw[hNA,hnn,hnc] at c2;rw[hUA,hnu,huc] at c3;generalize t.p.needs=ns at HCi HTp Hnn;generalize t.p.uses=us at HCu HTp Hnu;have q0:=W7.bc (j:=0) (HX0.o wr Hb.o) rfl;clear hjn hTb hNA hUA hnn hnu htk hnm hnc huc htn htu htl hs4;go_upto_region 5 with fail;rw[<- hW4];clear hW4 c0 c1 c2 c3 q0;have hs04:W0.heap.size<=W4.heap.size:=by omega
   generalize wr.heap.size=tb at HT4 HBe HOe HCi HCu hs4' ⊢
   obtain⟨C,hC⟩:∃C:(Nat->Bool)->(Nat->Value)->World->Prop,C=fun L V w'=>∃(e:GLater W4 (some tb)),w'=e.w/\Hid (∃x y:Value,e.w.heap[tb]? =some (.cells #[.string nm,.int .i64 tk,x,y] 46 (0,0))/\(L 7=false->x= .slice NA nn nc)/\(L 7=true->x=V 2)/\(L 9=false->y= .slice UA nu uc)/\(L 9=true->y=V 5))/\(L 2=true->L 1=true)/\(L 7=true->L 2=true)/\(L 5=true->L 4=true)/\(L 9=true->L 5=true)/\(L 0=true->V 0= .pointer (some ⟨tb,2,none⟩))/\(L 1=true->V 1= .slice NA nn nc)/\(L 2=true->Hid (e.w.ownsRow W4.heap.size 3 1 (V 2) nn (ns.flatMap encInt1)))/\(L 3=true->V 3= .pointer (some ⟨tb,3,none⟩))/\(L 4=true->V 4= .slice UA nu uc)/\(L 5=true->Hid (e.w.ownsRow W4.heap.size 48 2 (V 5) nu (us.flatMap encUse)))/\(L 6=true->V 6= .pointer (some ⟨tb,2,none⟩))/\(L 7=true->L 7=true)/\(L 8=true->V 7= .pointer (some ⟨tb,3,none⟩))/\(L 9=true->L 9=true):=⟨_,rfl⟩
   have HC:=hI hC;clear hC;refine wp_region_opsA [15,16,17,18,19,20,21,22] C (by kernel_rfl) (by kernel_rfl) (by decide) (by kernel_rfl) (by kernel_rfl) ?_ ?_ ?_
   ·rw[HC.o];exact⟨⟨W4.drew,⟨rfl,rfl,rfl,Nat.le_refl _,fun _ _ _=>rfl⟩⟩,rfl,hI ⟨_,_,HT4.o,fun _=>rfl,nff,fun _=>rfl,nff⟩,nff,nff,nff,nff,nff,nff,nff,nff,nff,nff,nff,nff,nff,nff⟩
   ·rintro L V w' ii o AA hii ho hLi haf hInv hAA hFF;rw[HC.o] at hInv;obtain⟨e,rfl,p0,p1,p2,p3,p4,h0,h1,h2,h3,h4,h5,h6,h7,h8,h9⟩:=hInv;rcases ii with _ | _ | _ | _ | _ | _ | _ | _ | _ | _ | ii;case succ.succ.succ.succ.succ.succ.succ.succ.succ.succ=>(simp at hii;try omega)
    all_goals (simp only[List.getElem?_cons_zero,List.getElem?_cons_succ,Option.some.injEq] at ho;subst ho)
    all_goals clear hii
    ·have f5:AA.tmps[5]?.getD undef= .pointer (some ⟨tb,0,none⟩):=hFF.out 5 (by decide);go_wp2;rw[HC.o];exact⟨_,rfl,e,rfl,p0,p1,p2,p3,p4,fun _=>rfl,h1,h2,h3,h4,h5,h6,h7,h8,h9⟩
    ·have a0:=(hAA.out 0 15 rfl).trans (h0 (haf ⟨0,.data⟩ (by simp) rfl));have hu7:L 7=false:=(by cases h7:L 7 with | false=>rfl | true=>exact absurd (hLi.symm.trans (p1 (p2 h7))) (by decide))
     obtain⟨x,y,hx,k1,k2,k3,k4⟩:=p0.out;obtain rfl:=k1 hu7;have z2:=bc (j:=2) hx rfl;clear hx k1 k2 k3 k4;go_wp2;rw[HC.o];exact⟨_,rfl,e,rfl,p0,fun _=>rfl,p2,p3,p4,h0,fun _=>rfl,h2,h3,h4,h5,h6,h7,h8,h9⟩
    ·have a1:=(hAA.out 1 16 rfl).trans (h1 (haf ⟨1,.data⟩ (by simp) rfl));go_wp2_with (go_at_call 140;refine(HCi.o e).mono ?_;rintro r w5 ⟨v,rfl,ho5,hb5⟩);rw[HC.o];exact⟨_,rfl,⟨w5,grown_trans e.g (grown_of_below hb5 _)⟩,rfl,(by obtain⟨x,y,hx,k1,k2,k3,k4⟩:=p0.out;exact hI ⟨x,y,(hb5.block tb (blk_lt hx)).trans hx,k1,fun z=>absurd (hLi.symm.trans (p2 z)) (by decide),k3,k4⟩),fun _=>haf ⟨1,.data⟩ (by simp) rfl,fun _=>rfl,p3,p4,h0,h1,fun _=>hI (own_mono ho5 e.g.size),h3,h4,fun y=>hI (own_below (h5 y).out hb5),h6,h7,h8,h9⟩
    ·have f5:AA.tmps[5]?.getD undef= .pointer (some ⟨tb,0,none⟩):=hFF.out 5 (by decide);go_wp2;rw[HC.o];exact⟨_,rfl,e,rfl,p0,p1,p2,p3,p4,h0,h1,h2,fun _=>rfl,h4,h5,h6,h7,h8,h9⟩
    ·have a3:=(hAA.out 3 18 rfl).trans (h3 (haf ⟨3,.data⟩ (by simp) rfl));have hu9:L 9=false:=(by cases h9:L 9 with | false=>rfl | true=>exact absurd (hLi.symm.trans (p3 (p4 h9))) (by decide))
     obtain⟨x,y,hx,k1,k2,k3,k4⟩:=p0.out;obtain rfl:=k3 hu9;have z3:=bc (j:=3) hx rfl;clear hx k1 k2 k3 k4;go_wp2;rw[HC.o];exact⟨_,rfl,e,rfl,p0,p1,p2,fun _=>rfl,p4,h0,h1,h2,h3,fun _=>rfl,h5,h6,h7,h8,h9⟩
    ·have a4:=(hAA.out 4 19 rfl).trans (h4 (haf ⟨4,.data⟩ (by simp) rfl));go_wp2_with (go_at_call 141;refine(HCu.o e).mono ?_;rintro r w5 ⟨v,rfl,ho5,hb5⟩);rw[HC.o];exact⟨_,rfl,⟨w5,grown_trans e.g (grown_of_below hb5 _)⟩,rfl,(by obtain⟨x,y,hx,k1,k2,k3,k4⟩:=p0.out;exact hI ⟨x,y,(hb5.block tb (blk_lt hx)).trans hx,k1,k2,k3,fun z=>absurd (hLi.symm.trans (p4 z)) (by decide)⟩),p1,p2,fun _=>haf ⟨4,.data⟩ (by simp) rfl,fun _=>rfl,h0,h1,fun y=>hI (own_below (h2 y).out hb5),h3,h4,fun _=>hI (own_mono ho5 e.g.size),h6,h7,h8,h9⟩
    ·have f5:AA.tmps[5]?.getD undef= .pointer (some ⟨tb,0,none⟩):=hFF.out 5 (by decide);go_wp2;rw[HC.o];exact⟨_,rfl,e,rfl,p0,p1,p2,p3,p4,h0,h1,h2,h3,h4,h5,fun _=>rfl,h7,h8,h9⟩
    ·have a6:=(hAA.out 6 21 rfl).trans (h6 (haf ⟨6,.data⟩ (by simp) rfl));obtain⟨A9,c9,e9,q1,q2⟩:=own_cap' (h2 (haf ⟨2,.data⟩ (by simp) rfl)).out;have a2:=(hAA.out 2 17 rfl).trans e9;obtain⟨x,y,hx,k1,k2,k3,k4⟩:=p0.out;have z2:=bc (j:=2) hx rfl;have z9:=W7.bf (j:=2) hx;have Hx:=hI hx;have K3:=hI k3;have K4:=hI k4;clear hx k1 k2 k3 k4;go_wp2;rw[HC.o];exact⟨rfl,undef,⟨_,grown_trans e.g (grown_setF _ tb 2 (.slice A9 nn c9))⟩,rfl,hI ⟨.slice A9 nn c9,y,(by show(e.w.setCell ⟨tb,2,none⟩ (.slice A9 nn c9)).heap[tb]? =_;rw[blk_set Hx.o];rfl),fun z=>absurd z (by simp),fun _=>e9.symm,K3.out,K4.out⟩,p1,fun _=>haf ⟨2,.data⟩ (by simp) rfl,p3,p4,h0,h1,fun y=>hI (own_setK (h2 y).out Hx.o (by decide) _),h3,h4,fun y=>hI (own_setK (h5 y).out Hx.o (by decide) _),h6,fun _=>rfl,h8,h9⟩
    ·have f5:AA.tmps[5]?.getD undef= .pointer (some ⟨tb,0,none⟩):=hFF.out 5 (by decide);go_wp2;rw[HC.o];exact⟨_,rfl,e,rfl,p0,p1,p2,p3,p4,h0,h1,h2,h3,h4,h5,h6,h7,fun _=>rfl,h9⟩
    ·have a8:=(hAA.out 7 22 rfl).trans (h8 (haf ⟨8,.data⟩ (by simp) rfl));obtain⟨A9,c9,e9,q1,q2⟩:=own_cap' (h5 (haf ⟨5,.data⟩ (by simp) rfl)).out;have a5:=(hAA.out 5 20 rfl).trans e9;obtain⟨x,y,hx,k1,k2,k3,k4⟩:=p0.out;have z3:=bc (j:=3) hx rfl;have z9:=W7.bf (j:=3) hx;have Hx:=hI hx;have K1:=hI k1;have K2:=hI k2;clear hx k1 k2 k3 k4;go_wp2;rw[HC.o];exact⟨rfl,undef,⟨_,grown_trans e.g (grown_setF _ tb 3 (.slice A9 nu c9))⟩,rfl,hI ⟨x,.slice A9 nu c9,(by show(e.w.setCell ⟨tb,3,none⟩ (.slice A9 nu c9)).heap[tb]? =_;rw[blk_set Hx.o];rfl),K1.out,K2.out,fun z=>absurd z (by simp),fun _=>e9.symm⟩,p1,p2,p3,fun _=>haf ⟨5,.data⟩ (by simp) rfl,h0,h1,fun y=>hI (own_setK (h2 y).out Hx.o (by decide) _),h3,h4,fun y=>hI (own_setK (h5 y).out Hx.o (by decide) _),h6,h7,h8,fun _=>rfl⟩
   rintro L V w' hL hInv;rw[HC.o] at hInv;obtain⟨e,rfl,p0,p1,p2,p3,p4,h0,h1,h2,h3,h4,h5,h6,h7,h8,h9⟩:=hInv;have k0:=h0 (hL 0 (by simp));have k1:=h1 (hL 1 (by simp));have k2:=h2 (hL 2 (by simp));have k3:=h3 (hL 3 (by simp));have k4:=h4 (hL 4 (by simp));have k5:=h5 (hL 5 (by simp));have k6:=h6 (hL 6 (by simp));have k7:=h7 (hL 7 (by simp));have k8:=h8 (hL 8 (by simp));have k9:=h9 (hL 9 (by simp));clear h0 h1 h2 h3 h4 h5 h6 h7 h8 h9 hL HC;obtain⟨x,y,hx,_,j9,_,j10⟩:=p0.out;obtain rfl:=j9 k7;obtain rfl:=j10 k9;obtain⟨A9,c9,v2,q1,q2⟩:=own_cap' k2.out;obtain⟨A8,c8,v5,q3,q4⟩:=own_cap' k5.out;rw[v2,v5] at hx;rw[v2] at k2;rw[v5] at k5;have HB6:=hI (HBe.o e);have HO6:=hI (HOe.o e);have hs6:=e.g.size;generalize e.w=w6 at hx k2 k5 HB6 HO6 hs6;clear HCi HCu HBe HOe k0 k1 k3 k4 k6 k7 k8 k9 p0 p1 p2 p3 p4 j9 j10;simp only[putAll];go_frame;obtain⟨v,hv1,hv2⟩:=HO6.o
   obtain⟨AV,cV,rfl,q5,q6⟩:=own_cap' hv2.row;have htl:ts.length<=1000:=by have:=congrArg List.length Hts.o;simp at this;omega
   have b0:=W7.bc (j:=0) hx rfl;have b1:=W7.bc (j:=1) hx rfl;have b2:=W7.bc (j:=2) hx rfl;have b3:=W7.bc (j:=3) hx rfl;have o0:=W7.bc (j:=0) hv1 rfl;have hs06:W0.heap.size<=w6.heap.size:=by omega
   have HO1:=hI hv1;have HO2:=hI hv2;have Hx:=hI hx;clear hx hv1 hv2 HO6;go_upto_region 7 with(at_builtin;go_loud (refine wpList_append1 rfl _ _ 22 rfl W0.heap.size 46 _ 4 72 elemT _ _ _ rfl HO2.o.row #[.string nm,.int .i64 tk,.slice A9 nn c9,.slice A8 nu c8] 1 _ rfl (by simp) rfl (by simp[Value.oneCell']) (by omega) (by omega) ?_);intro v8 w8 hown8 hb8 hsz8 hg8 hblk8;have f0:=W7.bf (j:=0) ((hb8.block _ (by omega)).trans HO1.o);have p0:=bc (j:=0) ((hb8.block _ (by omega)).trans HO1.o) rfl;obtain⟨A10,c10,e10,q7,q8⟩:=own_cap' hown8;subst e10;have Ho8:=hI hown8;have Hb8:=hI hb8;have Hg8:=hI hg8;have hs8:=hsz8;clear hown8 hb8 hsz8 hg8 hblk8)
   have hob8:w8.heap[w.heap.size+2]? =some (.cells #[.slice AV ts.length cV,.slice none 0 0] 25 (0,0)):=(Hb8.o.block _ (by omega)).trans HO1.o;obtain⟨X1,hX1⟩:∃X1,X1=w8.setCell ⟨w.heap.size+1+1,0,none⟩ (.slice A10 (ts.length+1) c10):=⟨_,rfl⟩
   rw[<- hX1];have hX1s:X1.heap.size=w8.heap.size:=by rw[hX1];simp[World.setCell]
   have HX1s:=hI (show W0.heap.size<=X1.heap.size by omega);have hk9:∀ {e k m:Nat} {u:Value} {xs:List Value},w8.ownsRow W0.heap.size e k u m xs->e≠25->X1.ownsRow W0.heap.size e k u m xs:=fun h hne=>by rw[hX1];exact own_setK h hob8 (Ne.symm hne) _
   have hk8:∀ {e k m:Nat} {u:Value} {xs:List Value},w6.ownsRow W0.heap.size e k u m xs->e≠46->e≠25->X1.ownsRow W0.heap.size e k u m xs:=fun h h1 h2=>hk9 (own_kind h HO2.o.row Hg8.o h1) h2
   obtain⟨t',ht'⟩:∃t':Task,t'=⟨⟨nm,tk,ns,us⟩,A9,c9,A8,c8⟩:=⟨_,rfl⟩
   have HN1:=hI (show ∃v,X1.heap[w.heap.size+2]? =some (.cells #[v,.slice none 0 0] 25 (0,0))/\TksOwn X1 W0.heap.size v (ts++[t']) from by
    refine⟨.slice A10 (ts.length+1) c10,by rw[hX1,blk_set hob8];rfl,?_,?_⟩
    ·rw[tasks_snoc,List.length_append,List.length_singleton,ht'];unfold encTask;simp only;rw[Hnn.o,Hnu.o];exact hk9 Ho8.o (by decide)
    ·intro t1 ht1;rcases List.mem_append.1 ht1 with h1 | h1
     ·exact⟨hk8 (HO2.o.tk t1 h1).ns (by decide) (by decide),hk8 (HO2.o.tk t1 h1).us (by decide) (by decide),(HO2.o.tk t1 h1).nm⟩
     ·rw[List.mem_singleton.1 h1,ht'];refine⟨?_,?_,HNm.o⟩
      ·simp only;rw[Hnn.o];exact hk8 (own_mono k2.out hs04) (by decide) (by decide)
      ·simp only;rw[Hnu.o];exact hk8 (own_mono k5.out hs04) (by decide) (by decide))
   have HN2:=hI (show(ts++[t']).map (·.p)=(j.tasks.take (i+1)).map (·.p) by rw[HTe.o,List.map_append,Hts.o,HTp.o,ht'];rfl);have HN3:=hI (show Below (w.heap.size+2) W0 X1 by rw[hX1];exact(HB6.o.trans (Hb8.o.mono (by omega))).setCell (p:=⟨w.heap.size+1+1,0,none⟩) (by simp) _);clear hX1 hk8 hk9 hob8 ht' f0 p0 b0 b1 b2 b3 o0;go_wp2;go_roundw;case rel=>exact⟨i+1,ts++[t'],by omega,by go_num,HN2,HN1,HN3,HX1s⟩
   case measure=>simp[intOf];omega
  ·have hin:i=n:=by omega
   subst hin;have HTs:=hI (show ts.map (·.p)=j.tasks.map (·.p) by rw[Hts.o,List.take_of_length_le (by have:=Hn.o;omega)]);have hlr:=(HJ2.o wr Hb.o).rl;have hcr:=(HJ2.o wr Hb.o).rc;have hnr:j.res.length<=1000:=by have:=HG.o.nr;rw[j.nr] at this;omega
   obtain⟨RA,hRA⟩:∃x,j.RA=x:=⟨_,rfl⟩
   obtain⟨nr,hnr'⟩:∃x,j.res.length=x:=⟨_,rfl⟩
   have HRA:=hI hRA;have Hnr:=hI hnr';rw[hnr'] at hlr hnr;rw[hRA,hnr'] at HX0 ⊢;have q0:=W7.bc (j:=0) (HX0.o wr Hb.o) rfl;have q1:=W7.bc (j:=1) (HX0.o wr Hb.o) rfl;clear hRA hnr';obtain⟨wa,rfl⟩:∃wa:World,wa=wr:=⟨_,rfl⟩
   go_wp2;clear q0 q1;obtain⟨v0,hv1,hv2⟩:=Ho.o;obtain⟨AT,cT,rfl,_,_⟩:=own_cap' hv2.row;have HA1:=hI hv1;have HA2:=hI hv2;clear hv1 hv2 Ho;go_loopw [33] (fun v33 wr=>∃(q:Nat) (rs:List Res),q<=nr/\v33= .int .i64 q/\Hid (rs.map (·.p)=(j.res.take q).map (·.p))/\Hid (∃v,wr.heap[w.heap.size+2]? =some (.cells #[.slice AT ts.length cT,v] 25 (0,0))/\TksOwn wr W0.heap.size (.slice AT ts.length cT) ts/\RssOwn wr W0.heap.size v rs)/\Hid (Below (w.heap.size+2) W0 wr)/\Hid (W0.heap.size<=wr.heap.size)) (fun v33 _=>nr-(intOf v33).toNat);case atStart=>exact⟨0,[],by omega,rfl,hI rfl,hI ⟨.slice none 0 0,HA1.o,HA2.o,⟨World.ownsRow_nil _ _ _ _,fun t ht=>absurd ht (by simp)⟩⟩,Hb,Hsz⟩
   case round=>
    obtain⟨q,rs,hq,rfl,Hrs,Ho,Hb3,Hsz3⟩:=hrel;have hsz3:=Hsz3.o
    by_cases hlt2:q<nr
    ·have hql:q<j.res.length:=by have:=Hnr.o;omega
     have hjn:=HJ2.o wr Hb3.o;obtain⟨rb,roff,hRb,hrb⟩:=hjn.ra (by omega);have hRe:RA=some ⟨rb,roff,none⟩:=by rw[<- HRA.o];exact hRb
     subst hRe;obtain⟨c0,c1,c2⟩:=hjn.rcells hRb hql;have hro:=HN.o.os _ (j.R_mem hql);have hrl:(j.R q).p.off.length<=1000:=by have:=HG.o.noff _ (j.Rp_mem hql);omega
     have HRk:=hI (fun(X:World) (hX:Below (w.heap.size+2) W0 X)=>(HJ2.o X hX).rss _ (j.R_mem hql));have HRe:=hI (show(j.res.take (q+1)).map (·.p)=(j.res.take q).map (·.p)++[(j.R q).p] by rw[List.take_succ_eq_append_getElem hql,List.map_append];unfold Job.R;rw[getD_of hql];rfl);generalize j.R q=r at c0 c1 c2 hro hrl HRk HRe;obtain⟨OA,hOA⟩:∃x,r.OA=x:=⟨_,rfl⟩
     obtain⟨no,hno⟩:∃x,r.p.off.length=x:=⟨_,rfl⟩
     obtain⟨mn,hmn⟩:∃x,r.p.many=x:=⟨_,rfl⟩
     obtain⟨nm,hnm⟩:∃x,r.p.name=x:=⟨_,rfl⟩
     obtain⟨oc,hoc⟩:∃x,r.oc=x:=⟨_,rfl⟩
     obtain⟨W4,hW4⟩:∃W4,W4=wr.alloc (.cells #[.string nm,.int .i64 mn,.slice OA no oc] 43):=⟨_,rfl⟩
     have hs4:wr.heap.size<W4.heap.size:=by rw[hW4];simp
     have hb4:Bl wr W4:=by rw[hW4];exact(Below.refl _ _).alloc (Nat.le_refl _) _
     have HB4:=hI (show Below (w.heap.size+2) W0 W4 from Hb3.o.trans (hb4.mono (by omega)));have hT4:W4.heap[wr.heap.size]? =some (.cells #[.string nm,.int .i64 mn,.slice OA no oc] 43 (0,0)):=by rw[hW4];exact heap_alloc_new _ _
     have HCo:=hI (show Calls Tryz.prog 142 #[.slice OA no oc] W4 fun r' w'=>∃v,r'= .returned v/\w'.ownsRow W4.heap.size 50 2 v no (r.p.off.flatMap encJSpan)/\Bl W4 w' from cloneP_any r.p.off OA no oc W4 hno.symm (by rw[<- hOA];exact(HRk.o _ HB4.o).os.mono (by omega)) (fun h=>by have h1:=hro (by rw[hOA];exact h);omega) (by omega));obtain⟨v,hv1,hv2,hv3⟩:=Ho.o;have HO1:=hI (show ∀X,Bl wr X->X.heap[w.heap.size+2]? =some (.cells #[.slice AT ts.length cT,v] 25 (0,0)) from fun X hX=>(hX.block _ (blk_lt hv1)).trans hv1);have HO2:=hI (show ∀X,Bl wr X->TksOwn X W0.heap.size (.slice AT ts.length cT) ts from fun X hX=>⟨own_below hv2.row hX,fun t ht=>⟨own_below (hv2.tk t ht).ns hX,own_below (hv2.tk t ht).us hX,(hv2.tk t ht).nm⟩⟩);have HO3:=hI (show ∀X,Bl wr X->RssOwn X W0.heap.size v rs from fun X hX=>⟨own_below hv3.row hX,fun t ht=>⟨own_below (hv3.rs t ht).os hX,(hv3.rs t ht).nm⟩⟩)
     have HRp:=hI (show r.p=⟨nm,mn,r.p.off⟩ by rw[<- hnm,<-hmn]);have HNm:=hI (show nm.size<=maxLen by rw[<- hnm];exact(HRk.o _ Hb3.o).nm);have Hno:=hI hno;obtain⟨AV,cV,hAV,q5,q6⟩:=own_cap' hv3.row;subst hAV;have hrsl:rs.length<=1000:=by have:=congrArg List.length Hrs.o;simp at this;omega
     rw[hnm] at c0;rw[hmn] at c1;rw[hOA,hno,hoc] at c2;generalize r.p.off=os at HCo HRp Hno;have q0:=W7.bc (j:=0) (HX0.o wr Hb3.o) rfl;have b0:=W7.bc (j:=0) hT4 rfl;have b1:=W7.bc (j:=1) hT4 rfl;have b2:=W7.bc (j:=2) hT4 rfl;clear hjn hRb hOA hno hmn hnm hoc hro hrl hv1 hv2 hv3 Ho;have HB4w:=hI hb4;have HT4:=hI hT4;go_upto_region 11 with fail;rw[<- hW4];clear hW4 c0 c1 c2 q0 hT4 hb4;go_upto_region 12 with(go_at_call 142;refine HCo.o.mono ?_;rintro r' w5 ⟨v5,rfl,ho5,hb5⟩;obtain⟨A9,c9,rfl,q1,q2⟩:=own_cap' ho5;have hs5:=hb5.size;have ht5:=(hb5.block _ hs4).trans HT4.o;have f2:=W7.bf (j:=2) ht5;have p2:=bc (j:=2) ht5 rfl;have Ho5:=hI ho5;have Hb5:=hI hb5;have Ht5:=hI ht5;clear ho5 hb5 ht5)
     obtain⟨W6,hW6⟩:∃W6,W6=w5.setCell ⟨wr.heap.size,2,none⟩ (.slice A9 no c9):=⟨_,rfl⟩
     rw[<- hW6];have hs6:W6.heap.size=w5.heap.size:=by rw[hW6];simp[World.setCell]
     have hs6':wr.heap.size<W6.heap.size:=by omega
     have hb6:Bl wr W6:=by rw[hW6];exact(HB4w.o.trans (Hb5.o.mono (by omega))).setCell (p:=⟨wr.heap.size,2,none⟩) (Nat.le_refl _) _
     have HP5:=hI (show W6.ownsRow W0.heap.size 50 2 (.slice A9 no c9) no (os.flatMap encJSpan) by rw[hW6];exact own_setK (own_mono Ho5.o (by omega)) Ht5.o (by decide) _);have hT6:W6.heap[wr.heap.size]? =some (.cells #[.string nm,.int .i64 mn,.slice A9 no c9] 43 (0,0)):=by rw[hW6,blk_set Ht5.o];rfl
     have HP1:=hI (HO1.o W6 hb6);have HP2:=hI (HO2.o W6 hb6);have HP3:=hI (HO3.o W6 hb6);have HB6:=hI (show Below (w.heap.size+2) W0 W6 from Hb3.o.trans (hb6.mono (by omega)));have hs06:W0.heap.size<=W6.heap.size:=by omega
     clear hs6 b0 b1 b2 hW6 hb6 f2 p2 HO1 HO2 HO3 HCo;have b0:=W7.bc (j:=0) hT6 rfl;have b1:=W7.bc (j:=1) hT6 rfl;have b2:=W7.bc (j:=2) hT6 rfl;have o1:=W7.bc (j:=1) HP1.o rfl;go_upto_region 13 with(at_builtin;go_loud (refine wpList_append1 rfl _ _ 23 rfl W0.heap.size 43 _ 3 48 elemR _ _ _ rfl HP3.o.row #[.string nm,.int .i64 mn,.slice A9 no c9] 1 _ rfl (by simp) rfl (by simp[Value.oneCell']) (by omega) (by omega) ?_);intro v8 w8 hown8 hb8 hsz8 hg8 hblk8;have f0:=W7.bf (j:=1) ((hb8.block _ (by omega)).trans HP1.o);have p0:=bc (j:=1) ((hb8.block _ (by omega)).trans HP1.o) rfl;obtain⟨A10,c10,e10,q7,q8⟩:=own_cap' hown8;subst e10;have Ho8:=hI hown8;have Hb8:=hI hb8;have Hg8:=hI hg8;have hs8:=hsz8;clear hown8 hb8 hsz8 hg8 hblk8)
     have hob8:w8.heap[w.heap.size+2]? =some (.cells #[.slice AT ts.length cT,.slice AV rs.length cV] 25 (0,0)):=(Hb8.o.block _ (by omega)).trans HP1.o;obtain⟨X1,hX1⟩:∃X1,X1=w8.setCell ⟨w.heap.size+1+1,1,none⟩ (.slice A10 (rs.length+1) c10):=⟨_,rfl⟩
     rw[<- hX1];have hX1s:X1.heap.size=w8.heap.size:=by rw[hX1];simp[World.setCell]
     have HX1s:=hI (show W0.heap.size<=X1.heap.size by omega);have hk9:∀ {e k m:Nat} {u:Value} {xs:List Value},w8.ownsRow W0.heap.size e k u m xs->e≠25->X1.ownsRow W0.heap.size e k u m xs:=fun h hne=>by rw[hX1];exact own_setK h hob8 (Ne.symm hne) _
     have hk8:∀ {e k m:Nat} {u:Value} {xs:List Value},W6.ownsRow W0.heap.size e k u m xs->e≠43->e≠25->X1.ownsRow W0.heap.size e k u m xs:=fun h h1 h2=>hk9 (own_kind h HP3.o.row Hg8.o h1) h2
     obtain⟨r',hr'⟩:∃r':Res,r'=⟨⟨nm,mn,os⟩,A9,c9⟩:=⟨_,rfl⟩
     have HN1:=hI (show ∃v,X1.heap[w.heap.size+2]? =some (.cells #[.slice AT ts.length cT,v] 25 (0,0))/\TksOwn X1 W0.heap.size (.slice AT ts.length cT) ts/\RssOwn X1 W0.heap.size v (rs++[r']) from by
      refine⟨.slice A10 (rs.length+1) c10,by rw[hX1,blk_set hob8];rfl,⟨hk8 HP2.o.row (by decide) (by decide),fun t ht=>⟨hk8 (HP2.o.tk t ht).ns (by decide) (by decide),hk8 (HP2.o.tk t ht).us (by decide) (by decide),(HP2.o.tk t ht).nm⟩⟩,?_,?_⟩
      ·rw[ress_snoc,List.length_append,List.length_singleton,hr'];unfold encRes;simp only;rw[Hno.o];exact hk9 Ho8.o (by decide)
      ·intro t1 ht1;rcases List.mem_append.1 ht1 with h1 | h1
       ·exact⟨hk8 (HP3.o.rs t1 h1).os (by decide) (by decide),(HP3.o.rs t1 h1).nm⟩
       ·rw[List.mem_singleton.1 h1,hr'];refine⟨?_,HNm.o⟩;simp only;rw[Hno.o];exact hk8 HP5.o (by decide) (by decide))
     have HN2:=hI (show(rs++[r']).map (·.p)=(j.res.take (q+1)).map (·.p) by rw[HRe.o,List.map_append,Hrs.o,HRp.o,hr'];rfl);have HN3:=hI (show Below (w.heap.size+2) W0 X1 by rw[hX1];exact(HB6.o.trans (Hb8.o.mono (by omega))).setCell (p:=⟨w.heap.size+1+1,1,none⟩) (by simp) _);clear hX1 hk8 hk9 hob8 hr' f0 p0 b0 b1 b2 o1 hT6;go_wp2;go_roundw;case rel=>exact⟨q+1,rs++[r'],by omega,by go_num,HN2,HN1,HN3,HX1s⟩
     case measure=>simp[intOf];omega
    ·have hqn:q=nr:=by omega
     subst hqn;have HRs:=hI (show rs.map (·.p)=j.res.map (·.p) by rw[Hrs.o,List.take_of_length_le (by have:=Hnr.o;omega)]);obtain⟨v,hv1,hv2,hv3⟩:=Ho.o;obtain⟨AV,cV,hAV,q5,q6⟩:=own_cap' hv3.row;subst hAV;have hx1:=HX1.o wr Hb3.o;have o0:=W7.bc (j:=0) hv1 rfl;have o1:=W7.bc (j:=1) hv1 rfl;have p0:=W7.bc (j:=0) hx1 rfl;have p1:=W7.bc (j:=1) hx1 rfl;have f0:=W7.bf (j:=0) hx1;have f1:=W7.bf (j:=1) hx1;obtain⟨X1,hX1⟩:∃X1,X1=(wr.setCell ⟨w.heap.size+1,0,none⟩ (.slice AT ts.length cT)).setCell ⟨w.heap.size+1,1,none⟩ (.slice AV rs.length cV):=⟨_,rfl⟩
     have hf1:X1.heap[w.heap.size+1]? =some (.cells #[.slice AT ts.length cT,.slice AV rs.length cV] 25 (0,0)):=by rw[hX1,blk_set (blk_set hx1 _)];rfl
     have hk9:∀ {e k m:Nat} {u:Value} {xs:List Value},wr.ownsRow W0.heap.size e k u m xs->e≠25->X1.ownsRow w.heap.size e k u m xs:=fun h hne=>by rw[hX1];exact own_setK (own_setK (own_mono h (by omega)) hx1 (Ne.symm hne) _) (blk_set hx1 _) (Ne.symm hne) _
     have HR:=hI (show ∃j':Job,Ending.returned (.agg #[.slice AT ts.length cT,.slice AV rs.length cV])= .returned (jobV j')/\j'.p=j.p/\JOwn X1 w.heap.size j'/\Bl w X1 from⟨⟨AT,cT,ts,AV,cV,rs⟩,rfl,by unfold Job.p;rw[HTs.o,HRs.o],⟨⟨hk9 hv2.row (by decide),fun t ht=>⟨hk9 (hv2.tk t ht).ns (by decide),hk9 (hv2.tk t ht).us (by decide),(hv2.tk t ht).nm⟩⟩,⟨hk9 hv3.row (by decide),fun t ht=>⟨hk9 (hv3.rs t ht).os (by decide),(hv3.rs t ht).nm⟩⟩⟩,by rw[hX1];exact((HB0.o.trans (Hb3.o.mono (by omega))).setCell (p:=⟨w.heap.size+1,0,none⟩) (by simp) _).setCell (p:=⟨w.heap.size+1,1,none⟩) (by simp) _⟩);have g0:=W7.bc (j:=0) hf1 rfl;have g1:=W7.bc (j:=1) hf1 rfl;clear hk9 hv1 hv2 hv3 hx1 hf1;go_wp2;rw[<- hX1];refine bodyPost_ret (v:= .agg #[.slice AT ts.length cT,.slice AV rs.length cV]) (by simp[results,Tryz.results71,go_sem,g0,g1]) rfl ?_;exact HR.o
end Go.Proofs.YtjpgnfekbojcaaaGreat
