/- The best way of one more train (Insert). -/
import Derived.Test.YtjpgnfekbojcaaaGreatWRch
set_option maxHeartbeats 32000000
set_option maxRecDepth 100000
namespace Go.Proofs.YtjpgnfekbojcaaaGreat
open Go.RowKit W7 W8
attribute [local go_sem] Oper.semAt_some
theorem elemC:Elem Tryz.prog 59 66 (.agg #[.int .i64 0,.int .i64 0,.int .i64 0]) 3 24:=Elem.mk' Tryz.underlying59 (by kernel_rfl) rfl (by decide) (by decide)
theorem calls_snoc (l:List TCall) (c:TCall):(l++[c]).flatMap encCall=l.flatMap encCall++encCall c:=by rw[List.flatMap_append];simp
def cellI (X:World) (b o:Nat):Int:=match X.cell? ⟨b,o,none⟩ with
 | some (.int _ n)=>n
 | _=>0
theorem cellI_of {X:World} {b o:Nat} {k:IntKind} {n:Int} (h:X.cell? ⟨b,o,none⟩=some (.int k n)):cellI X b o=n:=by unfold cellI;rw[h]
def trainV (t:TrainP):Value:= .agg #[.int .i64 t.frm,.int .i64 t.to,.int .i64 t.ready]
structure InsR (l:Line) (tab:List (List TCall)) (t:TrainP) (w:World) (e:Ending) (w':World):Prop where
 ex:∃v,e= .returned (.tuple #[v,.int .i64 (insErr l tab t)])/\w'.ownsRow w.heap.size 66 3 v (insV l tab t).length ((insV l tab t).flatMap encCall)
 bel:Bl w w'
theorem InsR.bad {l:Line} {tab:List (List TCall)} {t:TrainP} {err:Int} {w w':World} (h:insErr l tab t=err) (h0:err≠0) (hb:Bl w w'):InsR l tab t w (.returned (.tuple #[.slice none 0 0,.int .i64 err])) w':=
 ⟨⟨.slice none 0 0,by rw[h],by unfold insV;rw[if_pos (by rw[h];exact h0)];exact zU _ _ _ _⟩,hb⟩
theorem insErr_tab {l:Line} {tab:List (List TCall)} {t:TrainP} (h:tabErr l tab≠0):insErr l tab t=tabErr l tab:=by unfold insErr;rw[if_pos h]
theorem insErr_free {l:Line} {tab:List (List TCall)} {t:TrainP} (h:tabErr l tab=0) (h2:freeB l tab=false):insErr l tab t=8:=by unfold insErr;rw[if_neg (by omega),if_neg (by rw[h2];decide)]
theorem insErr_at {l:Line} {tab:List (List TCall)} {t:TrainP} (h:tabErr l tab=0) (h2:freeB l tab=true) (h3:(withinB t.frm 0 ((l.room.length:Int)-1)&&withinB t.to 0 ((l.room.length:Int)-1))=false):insErr l tab t=7:=by unfold insErr;rw[if_neg (by omega),if_pos h2,if_neg (by rw[h3];decide)]
theorem insErr_tm {l:Line} {tab:List (List TCall)} {t:TrainP} (h:tabErr l tab=0) (h2:freeB l tab=true) (h3:(withinB t.frm 0 ((l.room.length:Int)-1)&&withinB t.to 0 ((l.room.length:Int)-1))=true) (h4:isTm t.ready=false):insErr l tab t=1:=by unfold insErr;rw[if_neg (by omega),if_pos h2,if_pos h3,if_neg (by rw[h4];decide)]
theorem insErr_max {l:Line} {tab:List (List TCall)} {t:TrainP} (h:tabErr l tab=0) (h2:freeB l tab=true) (h3:(withinB t.frm 0 ((l.room.length:Int)-1)&&withinB t.to 0 ((l.room.length:Int)-1))=true) (h4:isTm t.ready=true) (h5:tab.length=32):insErr l tab t=3:=by unfold insErr;rw[if_neg (by omega),if_pos h2,if_pos h3,if_pos h4,if_pos h5]
theorem insErr_run {l:Line} {tab:List (List TCall)} {t:TrainP} (h:tabErr l tab=0) (h2:freeB l tab=true) (h3:(withinB t.frm 0 ((l.room.length:Int)-1)&&withinB t.to 0 ((l.room.length:Int)-1))=true) (h4:isTm t.ready=true) (h5:tab.length≠32):insErr l tab t=if reachV l tab (stopsV t.frm t.to) t.ready<0 then 9 else 0:=by unfold insErr;rw[if_neg (by omega),if_pos h2,if_pos h3,if_pos h4,if_neg h5]
theorem leave_fit {d:SrD} {l:Line} {tab:List (List TCall)} {stops:List Int} {best:Int} {k:Nat} {lv:Int} {X:World} {E:List (Nat×Int)} {sg:Nat} {cv:Bool}
  (h:Calls Tryz.prog 90 #[.pointer (some ⟨d.sg,0,none⟩),moV k lv,.int .i64 best] X (LeaveR l tab stops best k lv d.eb E X)) (hsg:d.sg=sg) (hcv:leavesB l tab stops best k lv=cv) :
  Calls Tryz.prog 90 #[.pointer (some ⟨sg,0,none⟩),.agg #[.int .i64 (k:Int),.int .i64 lv],.int .i64 best] X (fun e w'=>e= .returned (.bool cv)/\X.grownBy w' (some d.eb)/\∃E',EndsIn w' l tab stops best d.eb E'/\∀p∈E,p∈E'):=by
 have h5:=h.mono (R':=fun e w'=>e= .returned (.bool cv)/\X.grownBy w' (some d.eb)/\∃E',EndsIn w' l tab stops best d.eb E'/\∀p∈E,p∈E') (fun e w' h5=>⟨by rw[h5.val,hcv],h5.g,h5.ex⟩);unfold moV at h5;rw[hsg] at h5;exact h5
theorem own_setI {w:World} {base e size n b j:Nat} {v:Value} {xs:List Value} (h:w.ownsRow base e size v n xs) (hb:b<base) (u:Value):(w.setCell ⟨b,j,none⟩ u).ownsRow base e size v n xs:=by
 refine h.kept (row:=some b) (grown_setM _ _ _ _) ?_;rcases h.2 with⟨rfl,_⟩ | ⟨g,cap,cur,rfl,hg,_⟩
 ·exact .inl rfl
 ·exact .inr (by simp[Value.ownBlock];omega)
theorem on_fit {d:SrD} {l:Line} {tab:List (List TCall)} {stops:List Int} {k:Nat} {lv:Int} {X:World} {sg:Nat}
  (h:Calls Tryz.prog 91 #[.pointer (some ⟨d.sg,0,none⟩),.agg #[.int .i64 (k:Int),.int .i64 lv]] X (OnR l tab stops k lv X)) (hsg:d.sg=sg) (hon:onB l tab stops k lv=true) :
  Calls Tryz.prog 91 #[.pointer (some ⟨sg,0,none⟩),.agg #[.int .i64 (k:Int),.int .i64 lv]] X (fun e w'=>e= .returned (.tuple #[.agg #[.int .i64 ((k:Int)+1),.int .i64 (lv+runK l stops k)],.bool true])/\Bl X w'):=by
 have h5:=h.mono (R':=fun e w'=>e= .returned (.tuple #[.agg #[.int .i64 ((k:Int)+1),.int .i64 (lv+runK l stops k)],.bool true])/\Bl X w') (fun e w' h5=>by
  obtain⟨⟨a,b,rfl,hab⟩,hb⟩:=h5;obtain⟨rfl,rfl⟩:=hab hon;exact⟨by rw[hon],hb⟩)
 rw[hsg] at h5;exact h5
theorem Insert_any (l:Line) (ways:List TWay) (TA:Option Addr) (tn tc B:Nat) (t:TrainP) (w:World) (hl:LnIn w B l) (ht:TabIn w B TA tn tc ways) (hB:B<=w.heap.size) :
  Calls Tryz.prog 32 #[lineV l,.slice TA tn tc,trainV t] w (InsR l (tabP ways) t w):=by
 obtain⟨RA,hRA⟩:=eX l.RA;obtain⟨MA,hMA⟩:=eX l.MA;obtain⟨r,hr⟩:=eX l.run.length;obtain⟨m,hm⟩:=eX l.room.length;obtain⟨rc,hrc⟩:=eX l.rc;obtain⟨mc,hmc⟩:=eX l.mc;obtain⟨frm,hfrm⟩:=eX t.frm;obtain⟨tto,hto⟩:=eX t.to;obtain⟨rd,hrd⟩:=eX t.ready;have hlv:lineV l= .agg #[.slice RA r rc,.slice MA m mc]:=by unfold lineV;rw[hRA,hMA,hr,hm,hrc,hmc]
 have htv:trainV t= .agg #[.int .i64 frm,.int .i64 tto,.int .i64 rd]:=by unfold trainV;rw[hfrm,hto,hrd]
 obtain⟨W0,HW0,hs0,HB0,HX00,HX01,HU0⟩:=boxes2 w (.cells #[.slice RA r rc,.slice MA m mc] 52) (.cells #[.int .i64 frm,.int .i64 tto,.int .i64 rd] 55);have HL:=hI (show ∀X,Bl W0 X->LnIn X B l/\TabIn X B TA tn tc ways from fun X hX=>⟨hl.below ((HU0.o X hX).mono hB),ht.below ((HU0.o X hX).mono hB)⟩);have h1:=hl.rlc;have h2:=hl.rc2;have h3:=hl.mlc;have h4:=hl.mc2;rw[hr,hrc] at h1;rw[hrc] at h2;rw[hm,hmc] at h3;rw[hmc] at h4;have htl:=ht.le;have htc:=ht.cap;obtain⟨te,hte⟩:=eX (tabErr l (tabP ways));obtain⟨fv,hfv⟩:=eX (freeV l (tabP ways));have HF:=hI (by have h5:=Free_any l ways TA tn tc B W0 (HL.o W0 (zX _ _)).1 (HL.o W0 (zX _ _)).2 (by omega);rw[hlv,hte,hfv] at h5;exact h5);have Hte:=hI hte;have Hfv:=hI hfv;have Hlv:=hI hlv;have Hn:=hI ht.len;have Htl:=hI (show(tabP ways).length=tn by unfold tabP;rw[List.length_map,Hn.o])
 have Ht:=hI (show t.frm=frm/\t.to=tto/\t.ready=rd from⟨hfrm,hto,hrd⟩);have Hl:=hI (show l.run.length=r/\l.room.length=m from⟨hr,hm⟩);have hmm:= @run_makeMap Tryz.prog;have q0:=kC 0 (HX00.o W0 (zX _ _)) rfl;have q1:=kC 1 (HX00.o W0 (zX _ _)) rfl;rw[hlv,htv];clear hl ht hr hm hRA hMA hrc hmc hfrm hto hrd hlv htv hte hfv;go_enter Tryz.func32,Tryz.ntmps32;go_upto_region 1 with fail;rw[<- HW0.o];go_upto_region 2 with(go_at_call 30;go_loud (refine HF.o.mono ?_);rintro e w1 ⟨rfl,hb1⟩;have hs1:=hb1.size;have Hb1:=hI hb1;clear hb1)
 clear q0 q1 HF;have HBad:=hI (show ∀(err:Int) (X:World),insErr l (tabP ways) t=err->err≠0->Bl W0 X->InsR l (tabP ways) t w (.returned (.tuple #[.slice none 0 0,.int .i64 err])) X from fun err X h h0 hX=>InsR.bad h h0 (HU0.o X hX));cases h0:(te==0)
 ·have h0':(te != 0)=true:=by simp[bne,h0]
  have hne:te≠0:=fun h=>by rw[h] at h0;cases h0
  have HR:=hI (HBad.o te w1 (by rw[insErr_tab (by rw[Hte.o];exact hne),Hte.o]) hne Hb1.o);clear hne;go_wp2;go_ret2;exact HR.o
 have h0':(te != 0)=false:=by simp[bne,h0]
 obtain rfl:=eq_of_beq h0;have HFv:=hI (show freeB l (tabP ways)=fv by rw[<- Hfv.o];unfold freeV;rw[Hte.o];rfl);cases fv
 ·have HR:=hI (HBad.o 8 w1 (insErr_free Hte.o HFv.o) (by decide) Hb1.o);go_wp2;go_ret2;exact HR.o
 have q0:=kC 0 (HX00.o w1 Hb1.o) rfl;have q1:=kC 1 (HX00.o w1 Hb1.o) rfl;have r0:=kC 0 (HX01.o w1 Hb1.o) rfl;have r1:=kC 1 (HX01.o w1 Hb1.o) rfl;have r2:=kC 2 (HX01.o w1 Hb1.o) rfl;cases hw1:withinB frm 0 ((m:Int)-1)
 ·have HR:=hI (HBad.o 7 w1 (insErr_at Hte.o HFv.o (by rw[Ht.o.1,Hl.o.2,hw1];rfl)) (by decide) Hb1.o);go_wp2_with (go_at_call 62;refine(within_any _ _ _ _).mono ?_;rintro e w' ⟨rfl,rfl⟩);go_ret2;exact HR.o
 cases hw2:withinB tto 0 ((m:Int)-1)
 ·have HR:=hI (HBad.o 7 w1 (insErr_at Hte.o HFv.o (by rw[Ht.o.1,Ht.o.2.1,Hl.o.2,hw1,hw2];rfl)) (by decide) Hb1.o);go_wp2_with (go_at_call 62;refine(within_any _ _ _ _).mono ?_;rintro e w' ⟨rfl,rfl⟩);go_ret2;exact HR.o
 have HW:=hI (show(withinB t.frm 0 ((l.room.length:Int)-1)&&withinB t.to 0 ((l.room.length:Int)-1))=true by rw[Ht.o.1,Ht.o.2.1,Hl.o.2,hw1,hw2];rfl);cases hti:isTm rd
 ·have HR:=hI (HBad.o 1 w1 (insErr_tm Hte.o HFv.o HW.o (by rw[Ht.o.2.2];exact hti)) (by decide) Hb1.o);go_wp2_with (first | (go_at_call 62;refine(within_any _ _ _ _).mono ?_;rintro e w' ⟨rfl,rfl⟩) | (go_at_call 70;refine(isTime_any _ _).mono ?_;rintro e w' ⟨rfl,rfl⟩));go_ret2;exact HR.o
 by_cases hmx:tn=32
 ·have hmx':((tn:Int)==32)=true:=by rw[hmx];rfl
  have HR:=hI (HBad.o 3 w1 (insErr_max Hte.o HFv.o HW.o (by rw[Ht.o.2.2];exact hti) (by rw[Htl.o];exact hmx)) (by decide) Hb1.o);clear hmx;go_wp2_with (first | (go_at_call 62;refine(within_any _ _ _ _).mono ?_;rintro e w' ⟨rfl,rfl⟩) | (go_at_call 70;refine(isTime_any _ _).mono ?_;rintro e w' ⟨rfl,rfl⟩));go_ret2;exact HR.o
 have hmx':((tn:Int)==32)=false:=beq_false_of_ne (by omega);have HRun:=hI (insErr_run Hte.o HFv.o HW.o (by rw[Ht.o.2.2];exact hti) (by rw[Htl.o];exact hmx));clear hmx;have HOk:=hI (tabOk_of Hte.o);have HLa:=hI (by have h5:=laid_any l ways TA tn tc B w1 (HL.o w1 Hb1.o).1 (HL.o w1 Hb1.o).2 (by omega) HOk.o;rw[Hlv.o] at h5;exact h5);have htm:=isTm_true.1 hti;have hwf:=withinB_true.1 hw1;have hwt:=withinB_true.1 hw2;have Hss:=hI (show w.heap.size+2<=w1.heap.size by omega);go_upto_region 12 with(first | (go_at_call 62;refine(within_any _ _ _ _).mono ?_;rintro e w' ⟨rfl,rfl⟩) | (go_at_call 70;refine(isTime_any _ _).mono ?_;rintro e w' ⟨rfl,rfl⟩))
 clear hs0 hs1;go_upto_region 13 with(go_at_call 85;go_loud (refine HLa.o.mono ?_);rintro e w2 ⟨g,SA,KA,sc,kc,sbs,kbs,rfl,hg,hs,hk,htk,hb2⟩;have Hg:=hI hg;have Hs:=hI hs;have Hk:=hI hk;have Htk:=hI htk;have Hb2:=hI hb2;unfold ptrV;clear hg hs hk htk hb2)
 obtain⟨W3,hW3⟩:=eY (((w2.alloc (.map #[] 0)).alloc (.map #[] 0)).alloc (.cells #[.pointer (some ⟨g,0,none⟩),.slice none 0 0,.map (some w2.heap.size),.map (some (w2.heap.size+1))] 133));have hB3:Bl w2 W3:=by rw[hW3];exact(((zX _ _).alloc (zm _) _).alloc (by simp) _).alloc (by simp;omega) _
 have hs3:W3.heap.size=w2.heap.size+3:=by rw[hW3];simp
 have hsg3:W3.heap[w2.heap.size+2]? =some (.cells #[.pointer (some ⟨g,0,none⟩),.slice none 0 0,.map (some w2.heap.size),.map (some (w2.heap.size+1))] 133 (0,0)):=by rw[hW3];have h5:=zW ((w2.alloc (.map #[] 0)).alloc (.map #[] 0)) (.cells #[.pointer (some ⟨g,0,none⟩),.slice none 0 0,.map (some w2.heap.size),.map (some (w2.heap.size+1))] 133);simpa using h5
 have hmb3:∀f,MapIn W3 w2.heap.size [] f:=fun f=>by
  rw[hW3];refine(MapIn.made w2 f).kept ?_;rw[zP _ _ _ (by simp;omega),zP _ _ _ (by simp)]
 have heb3:∀f,MapIn W3 (w2.heap.size+1) [] f:=fun f=>by
  rw[hW3];have h5:=MapIn.made (w2.alloc (.map #[] 0)) f;rw[show(w2.alloc (.map #[] 0)).heap.size=w2.heap.size+1 by simp] at h5;exact h5.kept (zP _ _ _ (by simp))
 rw[<- hW3];obtain⟨sg,hsg⟩:=eX (w2.heap.size+2);have HB3:=hI hB3;have HM3:=hI hmb3;have HE3:=hI heb3;have hsz1:=Hb2.o.size;have hsW:w1.heap.size+3<=W3.heap.size:=by omega
 have hsgW:sg+1=W3.heap.size:=by omega
 have HsW:=hI (show w1.heap.size<=w2.heap.size/\w2.heap.size+3=W3.heap.size/\sg+1=W3.heap.size/\w.heap.size+2<=w1.heap.size from⟨hsz1,hs3.symm,hsgW,Hss.o⟩);have HB03:=hI (show Bl W0 W3 from Hb1.o.trans ((Hb2.o.mono (by have:=Hb1.o.size;omega)).trans (hB3.mono (by have:=Hb1.o.size;omega))));rw[hsg] at hsg3;have HSg3:=hI hsg3;have HS0:=hI (show W0.heap.size=w.heap.size+2 by rw[HW0.o];simp);have r0:=kC 0 (HX01.o W3 HB03.o) rfl;have r1:=kC 1 (HX01.o W3 HB03.o) rfl;have r2:=kC 2 (HX01.o W3 HB03.o) rfl;rw[show w2.heap.size+1+1=sg from hsg];clear hW3 hB3 hs3 hsg3 hmb3 heb3 hsg hsz1 hsW hsgW;obtain⟨mb,hmb⟩:=eX w2.heap.size;have Hmb:=hI hmb;rw[hmb] at HSg3 HM3 HE3;clear hmb;go_wp2
 go_loopw [11] (fun v11 wr=>∃(acc:List Int) (n:Int) (PA:Option Addr) (pc:Nat),v11= .int .i64 n/\0<=n/\n<=(m:Int)-1/\Hid (acc++stopsGo tto (tto-n).natAbs n=stopsV frm tto)/\Hid (KeptS W3 wr (fun i=>i=sg))/\Hid (wr.heap[sg]? =some (.cells #[.pointer (some ⟨g,0,none⟩),.slice PA acc.length pc,.map (some mb),.map (some (mb+1))] 133 (0,0)))/\Hid (wr.ownsRow W3.heap.size 3 1 (.slice PA acc.length pc) acc.length (acc.map (Value.int .i64)))) (fun v11 _=>(tto-intOf v11).natAbs);case atStart=>exact⟨[],frm,none,0,rfl,by omega,by omega,hI rfl,hI (KeptS.refl _ _),HSg3,hI (zU _ _ _ _)⟩
 case round=>
  obtain⟨acc,n,PA,pc,rfl,hn0,hn1,HAc,HK,HSg,HRw⟩:=hrel
  have hal:acc.length+(tto-n).natAbs+1<=16:=by
   have h5:=congrArg List.length HAc.o;rw[zF,stopsGo_len] at h5;have h6:=(@stopsV_ok l frm tto (line_ok HOk.o.line).1 (by rw[Hl.o.2];omega) (by rw[Hl.o.2];omega)).2.1;omega
  have hsk:=HK.o.size;obtain⟨an,han⟩:=eX acc.length;have Han:=hI han;have hrw:=HRw.o;rw[han] at hrw;have HRw2:=hI hrw;have hsgb:=HSg.o;rw[han] at hsgb;have HSg2:=hI hsgb;rw[han] at hal;have hkr:∀ {X:World},KeptS W3 X (fun i=>i=sg)->∀i,i<W3.heap.size->i≠sg->X.heap[i]? =W3.heap[i]? :=fun h i hi hne=>h.block i hi hne
  have z1:=kC 1 hsgb rfl;have hx01:=(HK.o.block (w.heap.size+1) (by have:=HsW.o;omega) (by have:=HsW.o;omega)).trans (HX01.o W3 HB03.o);have r0:=kC 0 hx01 rfl;have r1:=kC 1 hx01 rfl;have r2:=kC 2 hx01 rfl;clear hsgb hrw han;go_upto_region 15 with(at_builtin;go_loud (refine wpList_append1 rfl _ _ 26 rfl W3.heap.size 3 _ 1 8 elemI _ _ _ rfl HRw2.o #[.int .i64 n] 1 _ rfl (by simp) rfl (by simp[Value.oneCell']) (by omega) (by omega) ?_);intro v7 w7 hown7 hb7 hsz7 hg7 hblk7;obtain⟨A7,c7,e7,q7,q8⟩:=own_cap' hown7;subst e7;have hgb:=(hg7.block sg (blk_lt HSg2.o) (fun e=>by have:=(HRw2.o.lt _ e.symm).1;have:=HsW.o;omega)).trans HSg2.o;have f1:=kF 1 hgb;have z7:=kC 1 hgb rfl;have HSg7:=hI hgb;have Ho7:=hI hown7;have Hb7:=hI hb7;have hs7:=hsz7;clear hown7 hb7 hsz7 hg7 hblk7 hgb)
  obtain⟨X1,hX1⟩:=eY (w7.setCell ⟨sg,1,none⟩ (.slice A7 (an+1) c7));rw[<- hX1]
  have HK1:=hI (show KeptS W3 X1 (fun i=>i=sg) by
   rw[hX1];refine⟨Hb7.o.os.trans HK.o.os,Hb7.o.tape.trans HK.o.tape,Hb7.o.output.trans HK.o.output,by simp[World.setCell];omega,fun i hi hne=> ?_⟩;rw[blk_set_ne (fun e=>hne e.symm),Hb7.o.block i (by omega)];exact HK.o.block i hi hne)
  have HSgX:=hI (show X1.heap[sg]? =some (.cells #[.pointer (some ⟨g,0,none⟩),.slice A7 (acc++[n]).length c7,.map (some mb),.map (some (mb+1))] 133 (0,0)) by rw[hX1,blk_set HSg7.o,zF,Han.o];rfl)
  have HRwX:=hI (show X1.ownsRow W3.heap.size 3 1 (.slice A7 (acc++[n]).length c7) (acc++[n]).length ((acc++[n]).map (Value.int .i64)) by
   rw[hX1,zF,List.map_append,Han.o];exact own_setK Ho7.o HSg7.o (by decide) _)
  have hx02:=(HK1.o.block (w.heap.size+1) (by have:=HsW.o;omega) (by have:=HsW.o;omega)).trans (HX01.o W3 HB03.o);have r0:=kC 0 hx02 rfl;have r1:=kC 1 hx02 rfl;have r2:=kC 2 hx02 rfl;clear hX1 z1 z7 f1 hx01 hx02
  by_cases hnt:n=tto
  rotate_left
  ·have hne':(n==tto)=false:=beq_false_of_ne hnt
   have HNx:=hI (show(acc++[n])++stopsGo tto (tto-(if n<tto then n+1 else n-1)).natAbs (if n<tto then n+1 else n-1)=stopsV frm tto by
    rw[<- HAc.o,List.append_assoc]
    congr 1
    obtain⟨f,hf⟩:∃f,(tto-n).natAbs=f+1:=⟨(tto-n).natAbs-1,by omega⟩
    rw[hf,show(tto-(if n<tto then n+1 else n-1)).natAbs=f by split<;>omega]
    rfl)
   by_cases hlt:n<tto
   ·have hd:decide (n<tto)=true:=zD hlt;rw[if_pos hlt] at HNx;go_wp2;go_roundw;case rel=>exact⟨acc++[n],n+1,A7,c7,by go_num,by omega,by omega,HNx,HK1,HSgX,HRwX⟩
    case measure=>simp[intOf];omega
   ·have hd:decide (n<tto)=false:=zE hlt;rw[if_neg hlt] at HNx;go_wp2;go_roundw;case rel=>exact⟨acc++[n],n-1,A7,c7,by go_num,by omega,by omega,HNx,HK1,HSgX,HRwX⟩
    case measure=>simp[intOf];omega
  ·have hne':(n==tto)=true:=by rw[hnt];simp
   have hst:acc++[n]=stopsV frm tto:=by
    have h5:=HAc.o;rw[hnt,Int.sub_self] at h5;rw[hnt];exact h5
   rw[hst] at HSgX HRwX;obtain⟨stops,hstp⟩:=eX (stopsV frm tto);rw[hstp] at HSgX HRwX;have Hstp:=hI hstp;have HSk:= @stopsV_ok l frm tto (line_ok HOk.o.line).1 (by rw[Hl.o.2];omega) (by rw[Hl.o.2];omega);rw[hstp] at HSk;have HStk:=hI (show StOk l stops from⟨HSk.1,HSk.2.1,HSk.2.2.1,HSk.2.2.2⟩);obtain⟨d,hd⟩:∃d:SrD,d=⟨sg,g,mb,mb+1,A7,SA,KA,c7,sc,kc,sbs,kbs,w1.heap.size,B⟩:=⟨_,rfl⟩
   have HBX:=hI (show Bl w2 X1 from HB3.o.trans (HK1.o.below (by have:=HsW.o;omega) (fun i hi=>by have:=HsW.o;omega)));have HB0X:=hI (show Bl W0 X1 from HB03.o.trans (HK1.o.below (by have:=HB03.o.size;omega) (fun i hi=>by have:=HsW.o;have:=HS0.o;omega)))
   have HSr:=hI (show SrIn X1 d l (tabP ways) stops by
    rw[hd];exact⟨HSgX.o,Htk.o.below HBX.o,(HL.o X1 HB0X.o).1,by have:=HB0X.o.size;have:=HS0.o;show B<=_;omega,own_mono HRwX.o (by have:=HsW.o;show w1.heap.size<=_;omega),Hs.o,Hk.o,HOk.o,HStk.o⟩)
   have Hd:=hI (show d.sg=sg/\d.mb=mb/\d.eb=mb+1/\d.B=B from by rw[hd];exact⟨rfl,rfl,rfl,rfl⟩);have HMX:=hI (show MapIn X1 d.mb [] (fun _ _=>true) by rw[Hd.o.2.1];exact(HM3.o _).kept (HK1.o.block _ (HM3.o (fun _ _=>true)).lt (by have:=HsW.o;have:=Hmb.o;omega)));have HEX:=hI (show ∀f,MapIn X1 d.eb [] f from fun f=>by rw[Hd.o.2.2.1];exact(HE3.o f).kept (HK1.o.block _ (HE3.o f).lt (by have:=HsW.o;have:=Hmb.o;omega)));have HdB:=hI (show d.B<=d.mb/\d.mb+1=d.eb by rw[Hd.o.2.1,Hd.o.2.2.1,Hd.o.2.2.2];have:=Hmb.o;have:=HsW.o;omega);have HRe:=hI (by have h5:=reach_any d l (tabP ways) stops rd X1 HSr.o HMX.o HdB.o.1 htm;rw[Hd.o.1] at h5;exact h5);obtain⟨best,hbest⟩:=eX (reachV l (tabP ways) stops rd);rw[hbest] at HRe;have Hbest:=hI hbest;clear hd hst hstp hbest HSk hnt
   go_upto_region 20 with(go_at_call 88;go_loud (refine HRe.o.mono ?_);rintro e w5 ⟨rfl,hg5⟩;have hs5:=hg5.size;have Hg5:=hI hg5;clear hg5)
   have HB5:=hI (show Bl W0 w5 from HB0X.o.grown Hg5.o HB0X.o.size (fun k hk=>by cases hk;rw[Hd.o.2.1];have:=Hmb.o;have:=HsW.o;have:=HS0.o;omega))
   by_cases hb0:best<0
   ·have hd1:decide (best<0)=true:=zD hb0;have HR:=hI (HBad.o 9 w5 (by rw[HRun.o,Ht.o.1,Ht.o.2.1,Ht.o.2.2,Hstp.o,Hbest.o,if_pos hb0]) (by decide) HB5.o);go_wp2;go_ret2;exact HR.o
   have hd1:decide (best<0)=false:=zE hb0;have HSt:=hI (start_ok (l:=l) (tab:=tabP ways) (stops:=stops) (ready:=rd) (run_nonneg HOk.o.line) HStk.o.pos Hbest.o (by omega));have HIe:=hI (show insErr l (tabP ways) t=0 by rw[HRun.o,Ht.o.1,Ht.o.2.1,Ht.o.2.2,Hstp.o,Hbest.o,if_neg hb0]);obtain⟨sv,hsv⟩:=eX (startV l (tabP ways) stops best rd);have HWv:=hI (show insV l (tabP ways) t=wayGo l (tabP ways) stops best (stops.length-1) 0 sv by unfold insV;rw[if_neg (by rw[HIe.o];decide),Ht.o.1,Ht.o.2.1,Ht.o.2.2,Hstp.o,Hbest.o,hsv]);rw[hsv] at HSt;have Hsv:=hI (show firstUp (canB l (tabP ways) stops best 0) (best-rd).toNat rd=sv from hsv);have hb100:=HSt.o.2.2;have hcle:=canB_le HSt.o.1;have hrsv:=HSt.o.2.1;obtain⟨hrd0,hrd1⟩:=htm;clear hsv;have HS5:=hI (HSr.o.grown Hg5.o HdB.o.1 HMX.o.alien);have hmeb:d.eb≠d.mb:=by have:=HdB.o.2;omega
   have HE5:=hI (show EndsIn w5 l (tabP ways) stops best d.eb [] from⟨(HEX.o _).kept (Hg5.o.block _ (HEX.o (fun _ _=>true)).lt (fun e=>hmeb (zJ e))),List.nodup_nil,fun p hp=>absurd hp (by simp),hb100,HStk.o.len⟩);have HdE:=hI (show d.B<=d.eb by have:=HdB.o;omega);obtain⟨W6,hW6⟩:=eY (w5.alloc (.cells #[.int .i64 0,.int .i64 rd] 136));have hb6:Bl w5 W6:=by rw[hW6];exact(zX _ _).alloc (zm _) _
   have hs6:w5.heap.size<W6.heap.size:=by rw[hW6];simp
   have HA6:=hI (show W6.heap[w5.heap.size]? =some (.cells #[.int .i64 0,.int .i64 rd] 136 (0,0)) by rw[hW6];exact zW _ _);have HS6:=hI (HS5.o.below hb6);have HE6:=hI (HE5.o.below hb6);have hx5:=(HB5.o.block (w.heap.size+1) (by have:=HS0.o;omega)).trans (HX01.o W0 (zX _ _));have r0:=kC 0 hx5 rfl;have r1:=kC 1 hx5 rfl;have r2:=kC 2 hx5 rfl;have HB6:=hI (show Bl W0 W6 from HB5.o.trans (hb6.mono HB5.o.size));obtain⟨ab,hab⟩:=eX w5.heap.size;have Hab:=hI (show w5.heap.size=ab/\ab<W6.heap.size/\d.eb<ab/\W0.heap.size<=ab from⟨hab,by omega,by have:=HE5.o.map.lt;omega,by have:=HB5.o.size;omega⟩);go_wp2;rw[<- hW6];rw[hab] at HA6;clear hW6 hb6 hx5 hab hs5
   have HAl:=hI (show ∀X,KeptS W6 X (fun i=>i=d.eb\/i=ab)->SrIn X d l (tabP ways) stops from fun X hX=>HS6.o.keptS hX (fun i hi=>by
    rcases hi with hi | hi
    ·rw[hi];exact⟨HdE.o,HE6.o.map.alien⟩
    ·rw[hi];refine⟨by have:=HdE.o;have:=Hab.o;omega,fun cs T hc=> ?_⟩;rw[HA6.o] at hc;cases hc
     decide))
   have HBk:=hI (show ∀X,KeptS W6 X (fun i=>i=d.eb\/i=ab)->Bl W0 X from fun X hX=>HB6.o.trans (hX.below HB6.o.size (fun i hi=>by
    have h5:=Hab.o;have h6:=Hd.o.2.2.1;have h7:=Hmb.o;have h8:=HsW.o;have h9:=HS0.o;rcases hi with hi | hi<;>omega)))
   obtain⟨sn,hsn⟩:=eX stops.length;have Hsn:=hI hsn;have hpos:0<sn:=by rw[<- hsn];exact HStk.o.pos
   have hsn16:sn<=16:=by rw[<- hsn];exact HStk.o.len
   clear hsn;go_loopw [98] (fun _ wr=>∃(t0:Int) (E:List (Nat×Int)),rd<=t0/\t0<=best/\Hid (firstUp (canB l (tabP ways) stops best 0) (best-t0).toNat t0=sv)/\Hid (wr.heap[ab]? =some (.cells #[.int .i64 0,.int .i64 t0] 136 (0,0)))/\Hid (EndsIn wr l (tabP ways) stops best d.eb E)/\Hid (KeptS W6 wr (fun i=>i=d.eb\/i=ab))) (fun _ wr=>(best+1-cellI wr ab 1).toNat);case atStart=>exact⟨rd,[],Int.le_refl _,by omega,Hsv,HA6,HE6,hI (KeptS.refl _ _)⟩
   case round=>
    obtain⟨t0,E,ht0,ht1,Hf,HA,HE,HK⟩:=hrel
    have HLd:=hI (by
     have h5:=leads_any d l (tabP ways) stops best ⟨by omega,hb100⟩ HdE.o _ 0 HStk.o.pos rfl t0 wr E (HAl.o wr HK.o) HE.o (by omega) (by omega);unfold moV at h5;rw[show((0:Nat):Int)=0 from rfl] at h5;exact h5)
    obtain⟨cv,hcv⟩:=eX (canB l (tabP ways) stops best 0 t0);have Hcv:=hI hcv;have hdsg:=Hd.o.1;have Hms:=hI (cellI_of (kC 1 HA.o rfl));have hablt:=blk_lt HA.o;rw[hdsg] at HLd;have HLe:=hI (HLd.o.mono (R':=fun e w'=>e= .returned (.bool cv)/\wr.grownBy w' (some d.eb)/\∃E',EndsIn w' l (tabP ways) stops best d.eb E'/\∀p∈E,p∈E') (fun e w' h5=>⟨by rw[h5.val,hcv],h5.g,h5.ex⟩));have a0:=kC 0 HA.o rfl;have a1:=kC 1 HA.o rfl;clear hcv hdsg HLd;have hnab:d.eb≠ab:=by have:=Hab.o;omega
    cases cv
    ·skip;go_upto_region 25 with(go_at_call 89;go_loud (refine HLe.o.mono ?_);rintro e2 w8 ⟨rfl,hg8,hx8⟩;have Hg8:=hI hg8;have Hx8:=hI hx8;have hs8:=hg8.size;clear hg8 hx8)
     have HA8:=hI ((Hg8.o.block ab hablt (fun e=>hnab (zJ e).symm)).trans HA.o);obtain⟨E8,hE8,_⟩:=Hx8.o;have HE8:=hI hE8;have HK8:=hI (show KeptS W6 w8 (fun i=>i=d.eb\/i=ab) from HK.o.trans (KeptS.of_grown Hg8.o (fun i hi=> .inl (zJ hi).symm)));clear hE8 a0 a1
     have hne0:(best-t0).toNat≠0:=fun h=>by
      have h5:=Hf.o;rw[h] at h5;have h6:=HSt.o.1;rw[<- show t0=sv from h5,Hcv.o] at h6;cases h6
     have hnx:t0+1<=best:=by omega
     have HFn:=hI (show firstUp (canB l (tabP ways) stops best 0) (best-(t0+1)).toNat (t0+1)=sv by
      have h5:=Hf.o;rw[firstUp_no Hcv.o hne0] at h5;rw[show(best-(t0+1)).toNat=(best-t0).toNat-1 by omega];exact h5)
     have a0:=kC 0 HA8.o rfl;have a1:=kC 1 HA8.o rfl;have f0:=kF 0 HA8.o;have f1:=kF 1 HA8.o;obtain⟨X1,hX1⟩:=eY (w8.setCell ⟨ab,1,none⟩ (.int .i64 (t0+1)));have HAX:=hI (show X1.heap[ab]? =some (.cells #[.int .i64 0,.int .i64 (t0+1)] 136 (0,0)) by rw[hX1,blk_set HA8.o];rfl);have HEX1:=hI (show EndsIn X1 l (tabP ways) stops best d.eb E8 from⟨HE8.o.map.kept (by rw[hX1];exact blk_set_ne (Ne.symm hnab) _),HE8.o.nd,HE8.o.rg,HE8.o.hb,HE8.o.hs⟩);have HKX:=hI (show KeptS W6 X1 (fun i=>i=d.eb\/i=ab) by rw[hX1];exact HK8.o.trans (KeptS.of_grown (grown_setM _ ab 1 _) (fun i hi=> .inr (zJ hi).symm)));have HmX:=hI (cellI_of (kC 1 HAX.o rfl));go_wp2;rw[<- hX1];clear hX1;go_roundw;case rel=>exact⟨t0+1,E8,by omega,hnx,HFn,HAX,HEX1,HKX⟩
     case measure=>rw[HmX.o,Hms.o];omega
    ·skip;go_wp2_with (go_at_call 89;go_loud (refine HLe.o.mono ?_);rintro e2 w8 ⟨rfl,hg8,hx8⟩;have Hg8:=hI hg8;have Hx8:=hI hx8;have hs8:=hg8.size;clear hg8 hx8);have HA8:=hI ((Hg8.o.block ab hablt (fun e=>hnab (zJ e).symm)).trans HA.o);obtain⟨E8,hE8,_⟩:=Hx8.o;have HE8:=hI hE8;have HK8:=hI (show KeptS W6 w8 (fun i=>i=d.eb\/i=ab) from HK.o.trans (KeptS.of_grown Hg8.o (fun i hi=> .inl (zJ hi).symm)));clear hE8 a0 a1;have hsv0:t0=sv:=by have h5:=Hf.o;rw[firstUp_yes Hcv.o] at h5;exact h5
     have HSv0:=hI hsv0;have hcan0:canB l (tabP ways) stops best 0 t0=true:=Hcv.o;have HWv2:=hI (show[]++wayGo l (tabP ways) stops best (stops.length-1-0) 0 t0=insV l (tabP ways) t by rw[HWv.o,hsv0];rfl);have hk00:(0:Nat)<sn:=hpos;clear hsv0;have HAz:=hI (show w8.heap[ab]? =some (.cells #[.int .i64 ((0:Nat):Int),.int .i64 t0] 136 (0,0)) from HA8.o);go_loopw [13] (fun v13 wr=>∃(k:Nat) (tt:Int) (out:List TCall) (E:List (Nat×Int)),k<sn/\Hid (canB l (tabP ways) stops best k tt=true)/\Hid (out++wayGo l (tabP ways) stops best (stops.length-1-k) k tt=insV l (tabP ways) t)/\Hid (out.length<=k)/\Hid (wr.heap[ab]? =some (.cells #[.int .i64 (k:Int),.int .i64 tt] 136 (0,0)))/\Hid (EndsIn wr l (tabP ways) stops best d.eb E)/\Hid (KeptS W6 wr (fun i=>i=d.eb\/i=ab))/\Hid (wr.ownsRow W6.heap.size 66 3 v13 out.length (out.flatMap encCall))) (fun _ wr=>sn-(cellI wr ab 0).toNat)
     case atStart=>exact⟨0,t0,[],E8,hk00,hI hcan0,HWv2,hI (zm _),HAz,HE8,HK8,hI (zU _ _ _ _)⟩
     case round=>
      obtain⟨k,tt,out,E9,hk,HC,HWy,HOl,HA,HE,HK,HO⟩:=hrel;have hksl:k<stops.length:=by rw[Hsn.o];exact hk
      have HSw:=hI (HAl.o wr HK.o);have htt:=room_tm (canB_room hksl HC.o);have htb:=canB_le HC.o;obtain⟨AO,cO,hAO,hO1,hO2⟩:=own_cap' HO.o;subst hAO;obtain⟨pb,hPA,hpbl,hpbc⟩:=HSw.o.stop hksl;have hsgb:=HSw.o.blk;rw[hPA,Hsn.o,Hd.o.1] at hsgb;have hpc:=own_caps1 HSw.o.sp;rw[Hsn.o] at hpc;obtain⟨sk,hsk⟩:=eX (stops.getD k 0);rw[hsk] at hpbc;have Hsk:=hI hsk;have hablt:=blk_lt HA.o;have Y0:=hI (zV (kC 1 hsgb rfl) (blk_lt hsgb));have Y1:=hI (zV (kC 0 HA.o rfl) hablt);have Y2:=hI (zV hpbc hpbl);have Y3:=hI (zV (kC 1 HA.o rfl) hablt);have Hms:=hI (cellI_of (kC 0 HA.o rfl));have hol:=HOl.o;have hnab:d.eb≠ab:=by have:=Hab.o;omega
      have hsW:=HK.o.size;obtain⟨on,hon⟩:=eX out.length;have Hon:=hI hon;rw[hon] at hol hO1;have HO':=hI (show wr.ownsRow W6.heap.size 66 3 (.slice AO on cO) on (out.flatMap encCall) by have h5:=HO.o;rw[hon] at h5;exact h5);rw[hon];clear hsk hPA hpbc hpbl hsgb hon;go_upto_region 26 with fail
      obtain⟨C,hC⟩:∃C:(Nat->Bool)->(Nat->Value)->World->Prop,C=fun L V w'=>∃(e:Later wr) (cb:Nat),w'=e.w/\(L 13=true->wr.heap.size<=cb/\cb<e.w.heap.size/\Hid (∃x y z:Value,e.w.heap[cb]? =some (.cells #[x,y,z] 66 (0,0))/\(L 14=true->x= .int .i64 sk/\y= .int .i64 tt/\z= .int .i64 tt)))/\(L 14=true->L 13=true)/\(L 0=true->V 0= .pointer (some ⟨sg,0,none⟩))/\(L 1=true->V 1= .pointer (some ⟨sg,0,none⟩))/\(L 2=true->V 2= .pointer (some ⟨sg,1,none⟩))/\(L 3=true->V 3= .slice (some ⟨pb,0,none⟩) sn d.pc)/\(L 4=true->V 4= .pointer (some ⟨ab,0,none⟩))/\(L 5=true->V 5= .int .i64 (k:Int))/\(L 6=true->V 6= .pointer (some ⟨pb,k,none⟩))/\(L 7=true->V 7= .int .i64 sk)/\(L 8=true->V 8= .pointer (some ⟨ab,1,none⟩))/\(L 9=true->V 9= .int .i64 tt)/\(L 10=true->V 10= .pointer (some ⟨ab,1,none⟩))/\(L 11=true->V 11= .int .i64 tt)/\(L 12=true->V 12= .agg #[.int .i64 sk,.int .i64 tt,.int .i64 tt])/\(L 13=true->V 13= .pointer (some ⟨cb,0,none⟩))/\(L 14=true->L 14=true):=⟨_,rfl⟩
      have HC:=hI hC;clear hC;refine wp_region_opsA [106,107,108,109,110,111,112,113,114,115,116,117,118,15] C (by kernel_rfl) (by kernel_rfl) (by decide) (by kernel_rfl) (by kernel_rfl) ?_ ?_ ?_
      ·rw[HC.o];exact⟨⟨wr.drew,⟨rfl,rfl,rfl,zm _,fun _ _=>rfl⟩⟩,0,rfl,nff,nff,nff,nff,nff,nff,nff,nff,nff,nff,nff,nff,nff,nff,nff,nff,nff⟩
      ·rintro L V w' ii o AA hii ho hLi haf hInv hAA hFF;rw[HC.o] at hInv;obtain⟨e,cb,rfl,p0,p1,h0,h1,h2,h3,h4,h5,h6,h7,h8,h9,h10,h11,h12,h13,h14⟩:=hInv;rcases ii with _ | _ | _ | _ | _ | _ | _ | _ | _ | _ | _ | _ | _ | _ | _ | ii;case succ.succ.succ.succ.succ.succ.succ.succ.succ.succ.succ.succ.succ.succ.succ=>(simp at hii;try omega)
       all_goals (simp only[zR,zS,Option.some.injEq] at ho;subst ho)
       all_goals clear hii
       ·have f10:AA.tmps[10]?.getD undef= .pointer (some ⟨sg,0,none⟩):=hFF.out 10 (by decide);go_wp2;rw[HC.o];exact⟨_,rfl,e,cb,rfl,p0,p1,fun _=>rfl,h1,h2,h3,h4,h5,h6,h7,h8,h9,h10,h11,h12,h13,h14⟩
       ·have a0:=(hAA.out 0 106 rfl).trans (h0 (haf ⟨0,.data⟩ (by simp) rfl));go_wp2;rw[HC.o];exact⟨_,rfl,e,cb,rfl,p0,p1,h0,fun _=>rfl,h2,h3,h4,h5,h6,h7,h8,h9,h10,h11,h12,h13,h14⟩
       ·have a1:=(hAA.out 1 107 rfl).trans (h1 (haf ⟨1,.data⟩ (by simp) rfl));go_wp2;rw[HC.o];exact⟨_,rfl,e,cb,rfl,p0,p1,h0,h1,fun _=>rfl,h3,h4,h5,h6,h7,h8,h9,h10,h11,h12,h13,h14⟩
       ·have a2:=(hAA.out 2 108 rfl).trans (h2 (haf ⟨2,.data⟩ (by simp) rfl));have z0:=Y0.out e;go_wp2;rw[HC.o];exact⟨_,rfl,e,cb,rfl,p0,p1,h0,h1,h2,fun _=>rfl,h4,h5,h6,h7,h8,h9,h10,h11,h12,h13,h14⟩
       ·have f14:AA.tmps[14]?.getD undef= .pointer (some ⟨ab,0,none⟩):=hFF.out 14 (by decide);go_wp2;rw[HC.o];exact⟨_,rfl,e,cb,rfl,p0,p1,h0,h1,h2,h3,fun _=>rfl,h5,h6,h7,h8,h9,h10,h11,h12,h13,h14⟩
       ·have a4:=(hAA.out 4 110 rfl).trans (h4 (haf ⟨4,.data⟩ (by simp) rfl));have z0:=Y1.out e;go_wp2;rw[HC.o];exact⟨_,rfl,e,cb,rfl,p0,p1,h0,h1,h2,h3,h4,fun _=>rfl,h6,h7,h8,h9,h10,h11,h12,h13,h14⟩
       ·have a3:=(hAA.out 3 109 rfl).trans (h3 (haf ⟨3,.data⟩ (by simp) rfl));have a5:=(hAA.out 5 111 rfl).trans (h5 (haf ⟨5,.data⟩ (by simp) rfl));go_wp2;rw[HC.o];exact⟨_,rfl,e,cb,rfl,p0,p1,h0,h1,h2,h3,h4,h5,fun _=>rfl,h7,h8,h9,h10,h11,h12,h13,h14⟩
       ·have a6:=(hAA.out 6 112 rfl).trans (h6 (haf ⟨6,.data⟩ (by simp) rfl));have z0:=Y2.out e;go_wp2;rw[HC.o];exact⟨_,rfl,e,cb,rfl,p0,p1,h0,h1,h2,h3,h4,h5,h6,fun _=>rfl,h8,h9,h10,h11,h12,h13,h14⟩
       ·have f14:AA.tmps[14]?.getD undef= .pointer (some ⟨ab,0,none⟩):=hFF.out 14 (by decide);go_wp2;rw[HC.o];exact⟨_,rfl,e,cb,rfl,p0,p1,h0,h1,h2,h3,h4,h5,h6,h7,fun _=>rfl,h9,h10,h11,h12,h13,h14⟩
       ·have a8:=(hAA.out 8 114 rfl).trans (h8 (haf ⟨8,.data⟩ (by simp) rfl));have z0:=Y3.out e;go_wp2;rw[HC.o];exact⟨_,rfl,e,cb,rfl,p0,p1,h0,h1,h2,h3,h4,h5,h6,h7,h8,fun _=>rfl,h10,h11,h12,h13,h14⟩
       ·have f14:AA.tmps[14]?.getD undef= .pointer (some ⟨ab,0,none⟩):=hFF.out 14 (by decide);go_wp2;rw[HC.o];exact⟨_,rfl,e,cb,rfl,p0,p1,h0,h1,h2,h3,h4,h5,h6,h7,h8,h9,fun _=>rfl,h11,h12,h13,h14⟩
       ·have a10:=(hAA.out 10 116 rfl).trans (h10 (haf ⟨10,.data⟩ (by simp) rfl));have z0:=Y3.out e;go_wp2;rw[HC.o];exact⟨_,rfl,e,cb,rfl,p0,p1,h0,h1,h2,h3,h4,h5,h6,h7,h8,h9,h10,fun _=>rfl,h12,h13,h14⟩
       ·have a7:=(hAA.out 7 113 rfl).trans (h7 (haf ⟨7,.data⟩ (by simp) rfl));have a9:=(hAA.out 9 115 rfl).trans (h9 (haf ⟨9,.data⟩ (by simp) rfl));have a11:=(hAA.out 11 117 rfl).trans (h11 (haf ⟨11,.data⟩ (by simp) rfl));go_wp2;rw[HC.o];exact⟨_,rfl,e,cb,rfl,p0,p1,h0,h1,h2,h3,h4,h5,h6,h7,h8,h9,h10,h11,fun _=>rfl,h13,h14⟩
       ·go_wp2;rw[HC.o];exact⟨_,rfl,⟨_,e.b.alloc e.b.size _⟩,e.w.heap.size,rfl,fun _=>⟨e.b.size,(by show _<(World.alloc _ _).heap.size;simp),hI ⟨_,_,_,zW _ _,fun z=>absurd (hLi.symm.trans (p1 z)) (by decide)⟩⟩,fun _=>rfl,h0,h1,h2,h3,h4,h5,h6,h7,h8,h9,h10,h11,h12,fun _=>rfl,h14⟩
       ·have a13:=(hAA.out 13 15 rfl).trans (h13 (haf ⟨13,.data⟩ (by simp) rfl));have a12:=(hAA.out 12 118 rfl).trans (h12 (haf ⟨12,.data⟩ (by simp) rfl));obtain⟨q0,q1,q2⟩:=p0 (haf ⟨13,.data⟩ (by simp) rfl);obtain⟨x,y,z,hx,_⟩:=q2.out;have n0:=kF 0 hx;have n1:=kF 1 hx;have n2:=kF 2 hx;have m0:=kC 0 hx rfl;have m1:=kC 1 hx rfl;have m2:=kC 2 hx rfl;have Hx:=hI hx;clear hx;go_wp2;rw[HC.o]
        exact⟨rfl,undef,⟨_,((e.b.setCell (p:=⟨cb,0,none⟩) q0 _).setCell (p:=⟨cb,1,none⟩) q0 _).setCell (p:=⟨cb,2,none⟩) q0 _⟩,cb,rfl,fun _=>⟨q0,(by show cb<(World.setCell _ _ _).heap.size;simp[World.setCell];exact q1),hI ⟨.int .i64 sk,.int .i64 tt,.int .i64 tt,(by show(((e.w.setCell ⟨cb,0,none⟩ _).setCell ⟨cb,1,none⟩ _).setCell ⟨cb,2,none⟩ _).heap[cb]? =_;rw[blk_set (blk_set (blk_set Hx.o _) _) _];rfl),fun _=>⟨rfl,rfl,rfl⟩⟩⟩,fun _=>haf ⟨13,.data⟩ (by simp) rfl,h0,h1,h2,h3,h4,h5,h6,h7,h8,h9,h10,h11,h12,h13,fun _=>rfl⟩
      rintro L V w' hL hInv;rw[HC.o] at hInv;obtain⟨e,cb,rfl,p0,p1,h0,h1,h2,h3,h4,h5,h6,h7,h8,h9,h10,h11,h12,h13,h14⟩:=hInv;have k0:=h0 (hL 0 (by simp));have k1:=h1 (hL 1 (by simp));have k2:=h2 (hL 2 (by simp));have k3:=h3 (hL 3 (by simp));have k4:=h4 (hL 4 (by simp));have k5:=h5 (hL 5 (by simp));have k6:=h6 (hL 6 (by simp));have k7:=h7 (hL 7 (by simp));have k8:=h8 (hL 8 (by simp));have k9:=h9 (hL 9 (by simp));have k10:=h10 (hL 10 (by simp));have k11:=h11 (hL 11 (by simp));have k12:=h12 (hL 12 (by simp));have k13:=h13 (hL 13 (by simp));have k14:=h14 (hL 14 (by simp));clear h0 h1 h2 h3 h4 h5 h6 h7 h8 h9 h10 h11 h12 h13 h14 hL HC;obtain⟨g0,g1,g2⟩:=p0 (p1 k14);obtain⟨y0,y1,y2,hxc,hy⟩:=g2.out;obtain⟨rfl,rfl,rfl⟩:=hy k14;have HE7:=hI (show Bl wr e.w from e.b);generalize e.w=wc at hxc HE7 g1;clear k0 k1 k2 k3 k4 k5 k6 k7 k8 k9 k10 k11 k12 k14 p0 p1 hy g2;simp only[putAll];rw[k13];go_frame
      have hwc:=HE7.o.size;have HAc:=hI ((HE7.o.block ab hablt).trans HA.o);have hsgc:=HSw.o.below HE7.o;have y1:=zV (kC 0 HAc.o rfl) (by omega);have hsgc2:wc.cell? ⟨sg,1,none⟩=some (.slice (some ⟨pb,0,none⟩) sn d.pc):=Y0.out ⟨wc,HE7.o⟩;have y0:=zV hsgc2 (by have h5:=blk_lt hsgc.blk;rw[Hd.o.1] at h5;exact h5);have Hxc:=hI hxc;clear hsgc hxc hsgc2
      by_cases hlast:k+1=sn
      ·have hq1:((k:Int)==(sn:Int)-1)=true:=by rw[<- hlast];simp
       have HFin:=hI (show insV l (tabP ways) t=out++[⟨sk,tt,tt⟩] by
        rw[<- HWy.o,show stops.length-1-k=0 by rw[Hsn.o];omega,<-Hsk.o];rfl)
       go_upto_region 27 with fail;refine wp_region_later (by kernel_rfl) (by kernel_rfl) ?_
       repeat (any_goals (first | go_big_quiet_step ((fail)) | quiet_step ((fail))))
       refine wpQuiet_nil ?_;rintro w' ⟨e27,rfl⟩;obtain⟨W8,hW8⟩:=eY e27.w;have HB8:=hI (show Bl wr W8 by rw[hW8];exact HE7.o.trans (e27.b.mono hwc));have hxc8:W8.heap[cb]? =some (.cells #[.int .i64 sk,.int .i64 tt,.int .i64 tt] 66 (0,0)):=by rw[hW8];exact(e27.b.block _ g1).trans Hxc.o
       have HO8:=hI (own_below HO'.o HB8.o);have hs8':=HB8.o.size;rw[<- hW8];clear hW8 y0 y1;have c0:=kC 0 hxc8 rfl;have c1:=kC 1 hxc8 rfl;have c2:=kC 2 hxc8 rfl;clear hxc8 hlast;go_wp2_with (at_builtin;go_loud (refine wpList_append1 rfl _ _ 59 rfl W6.heap.size 66 _ 3 24 elemC _ _ _ rfl HO8.o #[.int .i64 sk,.int .i64 tt,.int .i64 tt] 1 _ rfl (by simp) rfl (by simp[Value.oneCell']) (by omega) (by omega) ?_);intro v9 w9 hown9 hb9 hsz9 hg9 hblk9;have Ho9:=hI hown9;have Hb9:=hI hb9;clear hown9 hb9 hsz9 hg9 hblk9)
       have HRr:=hI (show InsR l (tabP ways) t w (.returned (.tuple #[v9,.int .i64 0])) w9 from by
        have hbb:=HBk.o wr HK.o;refine⟨⟨v9,by rw[HIe.o],?_⟩,HU0.o w9 (hbb.trans ((HB8.o.mono hbb.size).trans (Hb9.o.mono HB6.o.size)))⟩;rw[HFin.o,zF,calls_snoc];exact own_mono (show w9.ownsRow W6.heap.size 66 3 v9 (out.length+1) _ by rw[Hon.o];exact Ho9.o) (by have:=HB6.o.size;have:=HS0.o;omega))
       go_ret2;exact HRr.o
      ·have hq1:((k:Int)==(sn:Int)-1)=false:=beq_false_of_ne (by omega);have hkl:k+1<stops.length:=by rw[Hsn.o];omega
       have HLv:=hI (leaveAt_is hkl HC.o)
       have HFin:=hI (show insV l (tabP ways) t=out++(⟨sk,tt,leaveAt l (tabP ways) stops best k tt⟩::wayGo l (tabP ways) stops best (stops.length-1-(k+1)) (k+1) (leaveAt l (tabP ways) stops best k tt+runK l stops k)) by
        rw[<- HWy.o,show stops.length-1-k=(stops.length-1-(k+1))+1 by omega,<-Hsk.o];rfl)
       obtain⟨LA,hLA⟩:=eX (leaveAt l (tabP ways) stops best k tt);rw[hLA] at HLv HFin;have HLA:=hI (show firstUp (leavesB l (tabP ways) stops best k) (best-tt).toNat tt=LA from hLA);clear hLA;go_upto_region 27 with fail;refine wp_region_later (by kernel_rfl) (by kernel_rfl) ?_
       repeat (any_goals (first | go_big_quiet_step ((fail)) | quiet_step ((fail))))
       refine wpQuiet_nil ?_;rintro w' ⟨e27,rfl⟩;obtain⟨W8,hW8⟩:=eY e27.w;have HB8:=hI (show Bl wr W8 by rw[hW8];exact HE7.o.trans (e27.b.mono hwc));have HC8:=hI (show W8.heap[cb]? =some (.cells #[.int .i64 sk,.int .i64 tt,.int .i64 tt] 66 (0,0)) by rw[hW8];exact(e27.b.block _ g1).trans Hxc.o);have HO8:=hI (own_below HO'.o HB8.o);have HA8':=hI ((HB8.o.block ab hablt).trans HA.o);have HE8':=hI (HE.o.below HB8.o);have HK8':=hI (show KeptS W6 W8 (fun i=>i=d.eb\/i=ab) from HK.o.trans (KeptS.of_below HB8.o));have hrow:∀i,(Value.slice AO on cO).ownBlock=some i->i<wr.heap.size:=fun i hi=>(HO'.o.lt i hi).2
       have hcb0:wr.heap.size<=cb:=g0;rw[<- hW8];clear hW8 y0 y1;go_wp2;go_loopw [138] (fun _ wr=>∃(lv:Int) (E:List (Nat×Int)),tt<=lv/\lv<=best/\Hid (firstUp (leavesB l (tabP ways) stops best k) (best-lv).toNat lv=LA)/\Hid (wr.heap[cb]? =some (.cells #[.int .i64 sk,.int .i64 tt,.int .i64 lv] 66 (0,0)))/\Hid (wr.heap[ab]? =some (.cells #[.int .i64 (k:Int),.int .i64 tt] 136 (0,0)))/\Hid (EndsIn wr l (tabP ways) stops best d.eb E)/\Hid (KeptS W6 wr (fun i=>i=d.eb\/i=ab))/\Hid (wr.ownsRow W6.heap.size 66 3 (.slice AO on cO) on (out.flatMap encCall))) (fun _ wr=>(best+1-cellI wr cb 2).toNat);case atStart=>exact⟨tt,E9,Int.le_refl _,htb,HLA,HC8,HA8',HE8',HK8',HO8⟩
       case round=>
        obtain⟨lv,E7,hlv0,hlv1,Hf,HCb,HAb,HEb,HKb,HOb⟩:=hrel;have hkk:=HKb.o.size;have HSq:=hI (HAl.o wr HKb.o);obtain⟨cv,hcv⟩:=eX (leavesB l (tabP ways) stops best k lv);have Hcv2:=hI hcv;have hlv2:0<=lv/\lv<=100000:=⟨Int.le_trans htt.1 hlv0,Int.le_trans hlv1 hb100⟩
        have hbe2:0<=best/\best<=100000:=⟨Int.le_trans hlv2.1 hlv1,hb100⟩
        have HLe:=hI (leave_fit (leaves_any d l (tabP ways) stops best hbe2 HdE.o k hksl lv wr E7 HSq.o HEb.o hlv2) Hd.o.1 hcv);have Hm2:=hI (cellI_of (kC 2 HCb.o rfl));have hcbl:=blk_lt HCb.o;have habl:=blk_lt HAb.o;have hebl:=HEb.o.map.lt;have hneb:d.eb≠cb:=by have:=Hab.o;omega
        have hnea:ab≠cb:=by have:=Hab.o;omega
        have a0:=kC 0 HAb.o rfl;have c2:=kC 2 HCb.o rfl;clear hcv;cases cv
        ·go_upto_region 30 with(go_at_call 90;go_loud (refine HLe.o.mono ?_);rintro e2 w9 ⟨rfl,hg9,hx9⟩;have Hg9:=hI hg9;have Hx9:=hI hx9;have hs9:=hg9.size;clear hg9 hx9)
         have hC9:=(Hg9.o.block cb hcbl (fun e=>hneb (zJ e).symm)).trans HCb.o;have hA9:=(Hg9.o.block ab habl (fun e=>hnab (zJ e).symm)).trans HAb.o;obtain⟨E8',hE8',_⟩:=Hx9.o;have HE9:=hI hE8'
         have hne0:(best-lv).toNat≠0:=fun h=>by
          have h5:=Hf.o;rw[h] at h5;have h6:=HLv.o.1;rw[<- show lv=LA from h5,Hcv2.o] at h6;cases h6
         have HFn:=hI (show firstUp (leavesB l (tabP ways) stops best k) (best-(lv+1)).toNat (lv+1)=LA by
          have h5:=Hf.o;rw[firstUp_no Hcv2.o hne0] at h5;rw[show(best-(lv+1)).toNat=(best-lv).toNat-1 by omega];exact h5)
         have hlvn:lv+1<=best:=by omega
         obtain⟨X1,hX1⟩:=eY (w9.setCell ⟨cb,2,none⟩ (.int .i64 (lv+1)));have HCX:=hI (show X1.heap[cb]? =some (.cells #[.int .i64 sk,.int .i64 tt,.int .i64 (lv+1)] 66 (0,0)) by rw[hX1,blk_set hC9];rfl);have HAX:=hI (show X1.heap[ab]? =some (.cells #[.int .i64 (k:Int),.int .i64 tt] 136 (0,0)) by rw[hX1,blk_set_ne (Ne.symm hnea)];exact hA9);have HEXx:=hI (show EndsIn X1 l (tabP ways) stops best d.eb E8' from⟨HE9.o.map.kept (by rw[hX1];exact blk_set_ne (Ne.symm hneb) _),HE9.o.nd,HE9.o.rg,HE9.o.hb,HE9.o.hs⟩)
         have HKX:=hI (show KeptS W6 X1 (fun i=>i=d.eb\/i=ab) by
          have h5:=HKb.o.trans (KeptS.of_grown Hg9.o (fun i hi=> .inl (zJ hi).symm));rw[hX1];exact⟨h5.os,h5.tape,h5.output,by simp[World.setCell];have:=h5.size;omega,fun i hi hn=>(blk_set_ne (by omega) _).trans (h5.block i hi hn)⟩)
         have HOX:=hI (show X1.ownsRow W6.heap.size 66 3 (.slice AO on cO) on (out.flatMap encCall) by
          have h5:=HOb.o.kept Hg9.o (by
           cases hv:(Value.slice AO on cO).ownBlock with
           | none=>exact .inl rfl
           | some i=>exact .inr (fun e=>by have:=(HOb.o.lt i hv).1;have:=zJ e;have:=HE6.o.map.lt;omega))
          rw[hX1]
          exact h5.kept (grown_setM w9 cb 2 _) (by
           cases hv:(Value.slice AO on cO).ownBlock with
           | none=>exact .inl rfl
           | some i=>exact .inr (fun e=>by have:=hrow i hv;have:=zJ e;omega)))
         have HmX:=hI (cellI_of (kC 2 HCX.o rfl));clear a0 c2;have c2:=kC 2 hC9 rfl;have f2:=kF 2 hC9;clear hE8' hC9 hA9;go_wp2;rw[<- hX1];clear hX1;go_roundw
         case rel=>
          have hlt1:tt<=lv+1:=by omega
          exact⟨_,_,_,_,_,_,_,_,_,_,_,_,_,⟨lv+1,E8',hlt1,hlvn,HFn,HCX,HAX,HEXx,HKX,HOX⟩,rfl⟩
         case measure=>rw[HmX.o,Hm2.o];omega
        ·have hlvL:lv=LA:=by have h5:=Hf.o;rw[firstUp_yes Hcv2.o] at h5;exact h5
         have HLs:=hI (leaves_is (HLv.o.1));have HlvL:=hI hlvL;have hlv3:=hlv2;clear hlvL;go_upto_region 31 with(go_at_call 90;go_loud (refine HLe.o.mono ?_);rintro e2 w9 ⟨rfl,hg9,hx9⟩;have Hg9:=hI hg9;have Hx9:=hI hx9;have hs9:=hg9.size;clear hg9 hx9)
         have hC9:=(Hg9.o.block cb hcbl (fun e=>hneb (zJ e).symm)).trans HCb.o;have hA9:=(Hg9.o.block ab habl (fun e=>hnab (zJ e).symm)).trans HAb.o;obtain⟨E8',hE8',_⟩:=Hx9.o;have HE9:=hI hE8';have HK9:=hI (show KeptS W6 w9 (fun i=>i=d.eb\/i=ab) from HKb.o.trans (KeptS.of_grown Hg9.o (fun i hi=> .inl (zJ hi).symm)))
         have HO9:=hI (HOb.o.kept Hg9.o (by
           cases hv:(Value.slice AO on cO).ownBlock with
           | none=>exact .inl rfl
           | some i=>exact .inr (fun e=>by have:=(HOb.o.lt i hv).1;have:=zJ e;have:=HE6.o.map.lt;omega)))
         have HC9:=hI hC9;have HA9:=hI hA9;clear a0 c2 hE8' hA9;have c0:=kC 0 hC9 rfl;have c1:=kC 1 hC9 rfl;have c2:=kC 2 hC9 rfl;clear hC9;go_upto_region 32 with(at_builtin;go_loud (refine wpList_append1 rfl _ _ 59 rfl W6.heap.size 66 _ 3 24 elemC _ _ _ rfl HO9.o #[.int .i64 sk,.int .i64 tt,.int .i64 lv] 1 _ rfl (by simp) rfl (by simp[Value.oneCell']) (by omega) (by omega) ?_);intro v10 w10 hown10 hb10 hsz10 hg10 hblk10;have Ho10:=hI hown10;have Hb10:=hI hb10;have hs10:=hsz10;have Hg10:=hI hg10;clear hown10 hb10 hsz10 hg10 hblk10)
         have hC10:=(Hg10.o.block cb (by omega) (fun e=>by have:=hrow _ e.symm;omega)).trans HC9.o;have hA10:=(Hg10.o.block ab (by omega) (fun e=>by have:=(HO9.o.lt _ e.symm).1;have:=Hab.o;omega)).trans HA9.o;have hK10:KeptS W6 w10 (fun i=>i=d.eb\/i=ab):=⟨Hb10.o.os.trans HK9.o.os,Hb10.o.tape.trans HK9.o.tape,Hb10.o.output.trans HK9.o.output,Nat.le_trans HK9.o.size Hb10.o.size,fun i hi hn=>(Hb10.o.block i hi).trans (HK9.o.block i hi hn)⟩
         have HLs2:=hI (leaves_is (show leavesB l (tabP ways) stops best k lv=true from Hcv2.o))
         have HWn:=hI (show(out++[⟨sk,tt,lv⟩])++wayGo l (tabP ways) stops best (stops.length-1-(k+1)) (k+1) (lv+runK l stops k)=insV l (tabP ways) t by
          rw[HFin.o,HlvL.o,List.append_assoc];rfl)
         have HOn:=hI (on_fit (on_any d l (tabP ways) stops k lv w10 (HAl.o w10 hK10) hksl hlv3) Hd.o.1 HLs2.o.1);have HK10:=hI hK10;obtain⟨t2,ht2⟩:=eX (lv+runK l stops k);rw[ht2] at HOn HWn HLs2;have hk1:k+1<sn:=by have:=Hsn.o;omega
         have HOl2:=hI (show(out++[(⟨sk,tt,lv⟩:TCall)]).length<=k+1 by rw[zF,Hon.o];show on+1<=k+1;omega);have HEb10:=(Hg10.o.block d.eb (by have:=HE9.o.map.lt;omega) (fun e=>by have:=(HO9.o.lt _ e.symm).1;have:=HE6.o.map.lt;omega))
         have HE10:=hI (show EndsIn w10 l (tabP ways) stops best d.eb E8' from⟨HE9.o.map.kept HEb10,HE9.o.nd,HE9.o.rg,HE9.o.hb,HE9.o.hs⟩);have hablt10:=blk_lt hA10;have HA10:=hI hA10;clear ht2 hK10 HEb10 c0 c1 c2;have c0:=kC 0 hC10 rfl;have c1:=kC 1 hC10 rfl;have c2:=kC 2 hC10 rfl;have a0:=kC 0 hA10 rfl;have a1:=kC 1 hA10 rfl;clear hC10 hA10;go_wp2_with (go_at_call 91;go_loud (refine HOn.o.mono ?_);rintro e3 w11 ⟨rfl,hb11⟩;have Hb11:=hI hb11;have hs11:=hb11.size;have hA11:=(hb11.block ab hablt10).trans HA10.o;have HA11:=hI hA11;have f0:=kF 0 hA11;have f1:=kF 1 hA11;have a0:=kC 0 hA11 rfl;have a1:=kC 1 hA11 rfl;clear hb11 hA11);obtain⟨X2,hX2⟩:=eY ((w11.setCell ⟨ab,0,none⟩ (.int .i64 ((k:Int)+1))).setCell ⟨ab,1,none⟩ (.int .i64 t2));rw[<- hX2];have HAX:=hI (show X2.heap[ab]? =some (.cells #[.int .i64 ((k+1:Nat):Int),.int .i64 t2] 136 (0,0)) by rw[hX2,blk_set (blk_set HA11.o _) _];rfl)
         have hne11:∀i,i≠ab->X2.heap[i]? =w11.heap[i]? :=fun i hi=>by rw[hX2,blk_set_ne (Ne.symm hi),blk_set_ne (Ne.symm hi)]
         have hebl10:=HE10.o.map.lt;have hsX:X2.heap.size=w11.heap.size:=by rw[hX2];simp[World.setCell]
         have HEX2:=hI (show EndsIn X2 l (tabP ways) stops best d.eb E8' from⟨HE10.o.map.kept ((hne11 _ hnab).trans (Hb11.o.block _ hebl10)),HE10.o.nd,HE10.o.rg,HE10.o.hb,HE10.o.hs⟩);have HKX:=hI (show KeptS W6 X2 (fun i=>i=d.eb\/i=ab) from⟨by rw[hX2];exact Hb11.o.os.trans HK10.o.os,by rw[hX2];exact Hb11.o.tape.trans HK10.o.tape,by rw[hX2];exact Hb11.o.output.trans HK10.o.output,by rw[hsX];exact Nat.le_trans HK10.o.size Hb11.o.size,fun i hi hn=>(hne11 i (fun e=>hn (.inr e))).trans ((Hb11.o.block i (Nat.lt_of_lt_of_le hi HK10.o.size)).trans (HK10.o.block i hi hn))⟩)
         have HOX2:=hI (show X2.ownsRow W6.heap.size 66 3 v10 (out++[(⟨sk,tt,lv⟩:TCall)]).length ((out++[(⟨sk,tt,lv⟩:TCall)]).flatMap encCall) by
          rw[hX2,calls_snoc,zF,Hon.o];exact own_setI (own_setI (own_below Ho10.o Hb11.o) Hab.o.2.1 _) Hab.o.2.1 _)
         have hcl:=cellI_of (kC 0 HAX.o rfl);refine⟨⟨k+1,t2,out++[⟨sk,tt,lv⟩],E8',hk1,hI HLs2.o.2.2,HWn,HOl2,HAX,HEX2,HKX,HOX2⟩,?_⟩;rw[hcl,Hms.o];omega
end Go.Proofs.YtjpgnfekbojcaaaGreat
