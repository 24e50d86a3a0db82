/- Where a train arrives if it leaves (on). -/
import Derived.Test.YtjpgnfekbojcaaaGreatWFree
set_option maxHeartbeats 8000000
set_option maxRecDepth 100000
namespace Go.Proofs.YtjpgnfekbojcaaaGreat
open Go.RowKit W7 W8
attribute [local go_sem] Oper.semAt_some
def encU16 (x:Nat):List Value:=[.int .u16 (x:Int)]
theorem on1_any (x:Nat) (w:World):Calls Tryz.prog 159 #[.int .u16 (x:Int)] w fun e w'=>e= .returned (.bool (decide (0<x)))/\Bl w w':=by
 obtain⟨xi,hxi⟩:∃xi:Int,(x:Int)=xi:=⟨_,rfl⟩
 have HD:=hI (show decide ((0:Int)<xi)=decide (0<x) from decide_eq_decide.2 (by omega));rw[hxi];clear hxi;go_enter Tryz.func159,Tryz.ntmps159;go_wp2;go_ret;exact⟨ret_bool HD.o,Below.refl _ _⟩
set_option maxHeartbeats 1000000 in
theorem idxOn1_any (P:Nat->Bool) (xs:List Nat) (n:Nat) (hn:n=xs.length) (A:Option Addr) (c B:Nat) (w:World) (hA:Sl w B 1 encU16 A xs) (hB:B<=w.heap.size) (hl:xs.length<=9223372036854775807)
    (hF:∀(x:Nat),x∈xs->∀(W:World),Bl w W->Calls Tryz.prog 159 #[.int .u16 (x:Int)] W fun e w'=>e= .returned (.bool (P x))/\Bl W w') :
    Calls Tryz.prog 192 #[.slice A n c,.func (.func 159) #[] #[]] w fun e w'=>e= .returned (.int .i64 (idxB P xs))/\Bl w w':=by
  subst hn;have HA:=hI hA;have HF:=hI hF;clear hA hF;go_enter Tryz.func192,Tryz.ntmps192;go_wp2;go_loopw [8] (fun i wr=>∃k:Nat,k<=xs.length/\i= .int .i64 k/\Hid ((xs.take k).any P=false)/\Hid (Bl w wr)) (fun i _=>xs.length-(intOf i).toNat);case atStart=>exact⟨0,by omega,rfl,hI (by simp),hI (Below.refl _ _)⟩
  case round=>
    obtain⟨k,hk,rfl,Hno,Hb⟩:=hrel;have hsz:=Hb.o.size
    by_cases hlt:k<xs.length
    · obtain⟨b,off,rfl,hbB,hcells⟩:=(HA.o.below (Hb.o.mono hB)) (by omega)
      have h0:=hcells k hlt;clear hcells;have c0:wr.cell? ⟨b,off+k,none⟩=some (.int .u16 (xs[k]:Int)):=(by have h:=h0 0 _ rfl;rwa [Nat.mul_one,Nat.add_zero] at h)
      have Hs:=hI (any_take_succ (p:=P) hlt Hno.o);have Hh:=hI (idxB_hit (p:=P) hlt Hno.o);have HK:=hI (fun(W:World) (hW:Bl w W)=>HF.o xs[k] (List.getElem_mem hlt) W hW);generalize xs[k]=x at c0 Hs Hh HK;clear h0;cases hp:P x
      · have HK2:=hI (fun(W:World) (hW:Bl w W)=>hp▸HK.o W hW)
        go_wp2_with (go_at_call 159;refine(HK2.o _ (by first | exact Hb.o | exact Hb.o.alloc (by omega) _)).mono ?_;rintro e w1 ⟨rfl,hb1⟩;have Hb1:=hI hb1;clear hb1);go_roundw;case rel=>exact⟨k+1,by omega,by go_num,hI (Hs.o hp),hI (by first | exact Hb.o.trans (Hb1.o.mono hsz) | exact(Hb.o.alloc (by omega) _).trans (Hb1.o.mono (by simp;omega)))⟩
        case measure=>simp[intOf];omega
      · have HK2:=hI (fun(W:World) (hW:Bl w W)=>hp▸HK.o W hW)
        go_wp2_with (go_at_call 159;refine(HK2.o _ (by first | exact Hb.o | exact Hb.o.alloc (by omega) _)).mono ?_;rintro e w1 ⟨rfl,hb1⟩;have Hb1:=hI hb1;clear hb1);go_ret;exact⟨ret_int (Hh.o hp).symm,(by first | exact Hb.o.trans (Hb1.o.mono hsz) | exact(Hb.o.alloc (by omega) _).trans (Hb1.o.mono (by simp;omega)))⟩
    · have HN:=hI (idxB_none (p:=P) (xs:=xs) (by rw[<- Hno.o,List.take_of_length_le (by omega)]))
      go_wp2;go_ret;exact⟨ret_int HN.o.symm,Hb.o⟩
theorem conOn1_any (P:Nat->Bool) (xs:List Nat) (n:Nat) (hn:n=xs.length) (A:Option Addr) (c B:Nat) (w:World) (hA:Sl w B 1 encU16 A xs) (hB:B<=w.heap.size) (hl:xs.length<=9223372036854775807)
    (hF:∀(x:Nat),x∈xs->∀(W:World),Bl w W->Calls Tryz.prog 159 #[.int .u16 (x:Int)] W fun e w'=>e= .returned (.bool (P x))/\Bl W w') :
    Calls Tryz.prog 158 #[.slice A n c,.func (.func 159) #[] #[]] w fun e w'=>e= .returned (.bool (xs.any P))/\Bl w w':=by
  have H:=hI (idxOn1_any P  xs n hn A c B w hA hB hl hF);have HI:=hI (idxB_any (p:=P) (xs:=xs));clear hA hn hF;go_enter Tryz.func158,Tryz.ntmps158;go_wp2_with (go_at_call 192;refine H.o.mono ?_;rintro e w1 ⟨rfl,hb1⟩;have Hb1:=hI hb1;clear hb1);go_ret;exact⟨ret_bool HI.o,Hb1.o⟩

theorem slice16 (b lo hi:Nat) (h1:lo<=hi) (h2:hi<=100000) (w:World) :
  (Instr.sliceAt 193 (.pointer (some ⟨b,0,none⟩)) (some (.int .i64 (lo:Int))) (some (.int .i64 (hi:Int))) none).run Tryz.prog w= .ok (.slice (some ⟨b,lo,none⟩) (hi-lo) (100002-lo)) w:=by
 have hal:Tryz.prog.arrayLen 193=100002:=by kernel_rfl
 have hel:Tryz.prog.elem 193=192:=by kernel_rfl
 rw[run_sliceAt_array_lh w 193 ⟨b,0,none⟩ (by rw[hal,hel];exact Tryz.underlying193) .i64 .i64 lo hi (by omega) (by omega) (by rw[hal];omega),hel,Tryz.sizeOf192,hal]
 show Result.ok (slicedAt _ _ _ _ _) w=_
 unfold slicedAt;rw[Int.toNat_natCast,Int.toNat_natCast,if_neg (by omega)];simp[Addr.add];exact fun h=>h.symm
structure OnR (l:Line) (tab:List (List TCall)) (stops:List Int) (k:Nat) (t:Int) (w:World) (e:Ending) (w':World):Prop where
 ex:∃a b:Int,e= .returned (.tuple #[.agg #[.int .i64 a,.int .i64 b],.bool (onB l tab stops k t)])/\(onB l tab stops k t=true->a=(k:Int)+1/\b=t+runK l stops k)
 bel:Bl w w'
theorem on_any (d:SrD) (l:Line) (tab:List (List TCall)) (stops:List Int) (k:Nat) (t:Int) (w:World) (h:SrIn w d l tab stops) (hk:k<stops.length) (ht:0<=t/\t<=100000) :
  Calls Tryz.prog 91 #[.pointer (some ⟨d.sg,0,none⟩),.agg #[.int .i64 (k:Int),.int .i64 t]] w (OnR l tab stops k t w):=by
 obtain⟨tn,rfl⟩:∃n:Nat,t=(n:Int):=⟨t.toNat,by omega⟩
 obtain⟨W0,HW0,hs0,HB0,HX00,HX01,HU0⟩:=boxes2 w (.cells #[.int .i64 (k:Int),.int .i64 (tn:Int)] 136) (.cells #[.int .i64 0,.int .i64 0] 136);obtain⟨sp,hsp⟩:∃x,stops.length=x:=⟨_,rfl⟩
 have HS:=hI (show ∀X,Bl w X->SrIn X d l tab stops from fun X hX=>h.below hX);have hlo:=line_ok h.ok.line;have hpc:=own_caps1 h.sp;rw[hsp] at hpc hk;obtain⟨pb,hPA,_,_⟩:=h.stop (k:=k) (by omega);have HK:=hI (show ∀X,Bl w X->X.heap[d.sg]? =some (.cells #[.pointer (some ⟨d.g,0,none⟩),.slice (some ⟨pb,0,none⟩) sp d.pc,.map (some d.mb),.map (some d.eb)] 133 (0,0)) from fun X hX=>by have h5:=(HS.o X hX).blk;rw[hsp,hPA] at h5;exact h5)
 have HP:=hI (show ∀X,Bl w X->∀i,i<sp->X.cell? ⟨pb,i,none⟩=some (.int .i64 (stops.getD i 0))/\pb<X.heap.size from fun X hX i hi=>by
  obtain⟨pb',e1,e2,e3⟩:=(HS.o X hX).stop (k:=i) (by omega);rw[hPA] at e1;cases e1;exact⟨e3,e2⟩)
 obtain⟨ob,hob⟩:∃x,onB l tab stops k (tn:Int)=x:=⟨_,rfl⟩
 have HOb:=hI hob;have Hsp:=hI hsp;have hsgl:=blk_lt h.blk;have hB0':=HB0.o;have x0:=W7.bc (j:=0) (HX00.o W0 (Below.refl _ _)) rfl;have x1:=W7.bc (j:=1) (HX00.o W0 (Below.refl _ _)) rfl;have p1:=bc (j:=1) (HK.o W0 HB0.o) rfl;obtain⟨ht0,ht1⟩:=ht;have hk9:(k:Int)<=9223372036854775806:=by omega
 have Hdg:=hI (show d=d from rfl);generalize hsg:d.sg=sg at *;generalize hg:d.g=g at *;clear hB0' hob hsp hPA;go_enter Tryz.func91,Tryz.ntmps91;go_upto_region 1 with fail;rw[<- HW0.o]
 by_cases hkl:k+1=sp
 ·have hke:(((k:Int)+1)==(sp:Int))=true:=by rw[<- hkl];simp
  have HR:=hI (show onB l tab stops k (tn:Int)=false by unfold onB;rw[decide_eq_false (by have:=Hsp.o;omega)];rfl)
  go_quiet (fail)
  obtain⟨W2,hW2⟩:∃W2,W2=W0.drewN nq:=⟨_,rfl⟩
  rw[<- hW2];have HB2:=hI (show Bl W0 W2 by rw[hW2];exact below_drewN (Below.refl _ _) nq);clear hW2 x0 x1 p1;have hxF:=HX00.o W2 HB2.o;have hrF:=HX01.o W2 HB2.o;obtain⟨X1,hX1⟩:∃X1,(W2.setCell ⟨w.heap.size+1,0,none⟩ (.int .i64 (k:Int))).setCell ⟨w.heap.size+1,1,none⟩ (.int .i64 (tn:Int))=X1:=⟨_,rfl⟩
  have hG1:X1.heap[w.heap.size+1]? =some (.cells #[.int .i64 (k:Int),.int .i64 (tn:Int)] 136 (0,0)):=by rw[<- hX1,blk_set (blk_set hrF _)];rfl
  have HRr:=hI (show OnR l tab stops k (tn:Int) w (.returned (.tuple #[.agg #[.int .i64 (k:Int),.int .i64 (tn:Int)],.bool false])) X1 from⟨⟨k,(tn:Int),by rw[HR.o],fun z=>absurd (HR.o.symm.trans z) (by decide)⟩,by rw[<- hX1];exact((HU0.o W2 HB2.o).setCell (p:=⟨w.heap.size+1,0,none⟩) (by simp) _).setCell (p:=⟨w.heap.size+1,1,none⟩) (by simp) _⟩);have e0:=W7.bc (j:=0) hG1 rfl;have e1:=W7.bc (j:=1) hG1 rfl;have c0:=W7.bc (j:=0) hxF rfl;have c1:=W7.bc (j:=1) hxF rfl;have r0:=W7.bc (j:=0) hrF rfl;have r1:=W7.bc (j:=1) hrF rfl;have f0:=W7.bf (j:=0) hrF;have f1:=W7.bf (j:=1) hrF;have HX1:=hI hX1;clear hG1 hX1 hxF hrF;go_wp2;rw[HX1.o];refine bodyPost_ret (v:= .tuple #[.agg #[.int .i64 (k:Int),.int .i64 (tn:Int)],.bool false]) (by simp[results,Tryz.results91,go_sem,e0,e1]) rfl ?_;exact HRr.o
 have hke:(((k:Int)+1)==(sp:Int))=false:=beq_false_of_ne (by omega);have hk1:k+1<sp:=by omega
 go_quiet (fail)
 obtain⟨W2,hW2⟩:∃W2,W2=W0.drewN nq:=⟨_,rfl⟩
 have HB2:=hI (show Bl W0 W2 by rw[hW2];exact below_drewN (Below.refl _ _) nq);have HBw:=hI (HU0.o W2 HB2.o);go_upto_region 3 with fail;rw[<- hW2];clear hW2 x0 x1 p1 hkl;have hs2:=HB2.o.size;have hd:=h.st;have hst0:=h.st.at' k (by have:=Hsp.o;omega);have hst1:=h.st.at' (k+1) (by have:=Hsp.o;omega);have hstp:=h.st.step k (by have:=Hsp.o;omega);have hlr:=hlo.2.2.1;obtain⟨sa,hsa⟩:∃x,stops.getD k 0=x:=⟨_,rfl⟩
 obtain⟨sb,hsb⟩:∃x,stops.getD (k+1) 0=x:=⟨_,rfl⟩
 rw[hsa] at hst0 hstp;rw[hsb] at hst1 hstp;obtain⟨kk,hkk⟩:∃x:Nat,min sa sb=(x:Int):=⟨(min sa sb).toNat,by omega⟩
 have hkr:kk<l.run.length:=by omega
 have HSk:=hI (show secK stops k=(kk:Int) by unfold secK;rw[hsa,hsb,hkk]);have HSe:=hI (fun X=>by have h5:=section_any sa sb X;rw[hkk] at h5;exact h5);have c3:=HP.o W2 HBw.o k hk;have c4:=HP.o W2 HBw.o (k+1) hk1;rw[hsa] at c3;rw[hsb] at c4;have ya:=later_cell c3.1 c3.2;have yb:=later_cell c4.1 c4.2;have yk:=later_cell (bc (j:=1) (HK.o W2 HBw.o) rfl) (blk_lt (HK.o W2 HBw.o));have yx:=later_cell (bc (j:=0) (HX00.o W2 HB2.o) rfl) (blk_lt (HX00.o W2 HB2.o));clear c3 c4 hst0 hst1 hstp hsa hsb hkk hd;refine wp_region_later (by kernel_rfl) (by kernel_rfl) ?_
 repeat (any_goals (first | go_big_quiet_step ((go_at_call 147;exact later_call_same _ (HSe.o _))) | quiet_step ((go_at_call 147;exact later_call_same _ (HSe.o _)))))
 refine wpQuiet_nil ?_;rintro w' ⟨e3,rfl⟩;obtain⟨W3,hW3⟩:∃W3,W3=e3.w:=⟨_,rfl⟩
 have HB3:=hI (show Bl W0 W3 by rw[hW3];exact HB2.o.trans (e3.b.mono hs2));have HBw3:=hI (HU0.o W3 HB3.o);go_upto_region 4 with fail;rw[<- hW3];clear hW3 ya yb yk yx;have hs3:=HB3.o.size;have H3:=hI (HS.o W3 HBw3.o);obtain⟨rb,roff,hRA,hrb,r0⟩:=ln_run H3.o.ln hkr;have hB3:=H3.o.hB;have hrl:=H3.o.ln.rlc;have hrc:=H3.o.ln.rc2;have htk:=H3.o.trk.blk;rw[hRA,hg] at htk;have hrv:=run_at H3.o.ok.line hkr;obtain⟨rv,hrv'⟩:∃x,l.run.getD kk 0=x:=⟨_,rfl⟩
 have HRk:=hI (show runK l stops k=rv by unfold runK;rw[HSk.o,Int.toNat_natCast,hrv']);rw[hrv'] at r0 hrv;obtain⟨r,hr⟩:∃x,l.run.length=x:=⟨_,rfl⟩
 obtain⟨rc,hrc'⟩:∃x,l.rc=x:=⟨_,rfl⟩
 rw[hr] at hkr hrl;rw[hrc'] at hrl hrc;rw[hr,hrc',H3.o.kl,hr] at htk;have hkc:=own_caps1 H3.o.trk.kr;rw[H3.o.kl,hr] at hkc;obtain⟨zn,hzn⟩:∃x:Nat,(tn:Int)+rv=(x:Int):=⟨((tn:Int)+rv).toNat,by omega⟩
 have Hzn:=hI hzn;have hsk3:=HK.o W3 HBw3.o;have Y0:=hI (later_cell (bc (j:=0) (HX00.o W3 HB3.o) rfl) (blk_lt (HX00.o W3 HB3.o)));have Y1:=hI (later_cell (bc (j:=1) (HX00.o W3 HB3.o) rfl) (blk_lt (HX00.o W3 HB3.o)));have Y2:=hI (later_cell (bc (j:=0) hsk3 rfl) (blk_lt hsk3));have Y3:=hI (later_cell (bc (j:=0) htk rfl) (blk_lt htk));have Y4:=hI (later_cell r0 (by omega));have Htk:=hI htk;have Hr:=hI hr;obtain⟨hrv1,hrv2⟩:=hrv;clear hzn hsk3 htk hr hrc' hrv' r0 hRA
 obtain⟨C,hC⟩:∃C:(Nat->Bool)->(Nat->Value)->World->Prop,C=fun L V w'=>∃(e:Later W3) (ga:Nat),w'=e.w/\(L 18=true->W3.heap.size<=ga/\ga<e.w.heap.size/\Hid (∃y z:Value,e.w.heap[ga]? =some (.cells #[y,z] 136 (0,0))/\(L 19=true->y= .int .i64 ((k:Int)+1)/\z= .int .i64 ((tn:Int)+rv))))/\(L 19=true->L 18=true)/\(L 0=true->V 0= .pointer (some ⟨w.heap.size,0,none⟩))/\(L 1=true->V 1= .int .i64 (k:Int))/\(L 2=true->V 2= .int .i64 ((k:Int)+1))/\(L 3=true->V 3= .pointer (some ⟨w.heap.size,1,none⟩))/\(L 4=true->V 4= .int .i64 (tn:Int))/\(L 5=true->V 5= .pointer (some ⟨sg,0,none⟩))/\(L 6=true->V 6= .pointer (some ⟨sg,0,none⟩))/\(L 7=true->V 7= .pointer (some ⟨sg,0,none⟩))/\(L 8=true->V 8= .pointer (some ⟨g,0,none⟩))/\(L 9=true->V 9= .pointer (some ⟨g,0,none⟩))/\(L 10=true->V 10= .pointer (some ⟨g,0,none⟩))/\(L 11=true->V 11= .pointer (some ⟨g,0,none⟩))/\(L 12=true->V 12= .slice (some ⟨rb,roff,none⟩) r rc)/\(L 13=true->V 13= .int .i64 (kk:Int))/\(L 14=true->V 14= .pointer (some ⟨rb,roff+kk,none⟩))/\(L 15=true->V 15= .int .i64 rv)/\(L 16=true->V 16= .int .i64 ((tn:Int)+rv))/\(L 17=true->V 17= .agg #[.int .i64 ((k:Int)+1),.int .i64 ((tn:Int)+rv)])/\(L 18=true->V 18= .pointer (some ⟨ga,0,none⟩))/\(L 19=true->L 19=true):=⟨_,rfl⟩
 have HC:=hI hC;clear hC;refine wp_region_opsA [36,37,38,39,40,41,42,43,44,45,46,47,48,49,50,51,52,53,7] C (by kernel_rfl) (by kernel_rfl) (by decide) (by kernel_rfl) (by kernel_rfl) ?_ ?_ ?_
 ·rw[HC.o];exact⟨⟨W3.drew,⟨rfl,rfl,rfl,Nat.le_refl _,fun _ _=>rfl⟩⟩,0,rfl,nff,nff,nff,nff,nff,nff,nff,nff,nff,nff,nff,nff,nff,nff,nff,nff,nff,nff,nff,nff,nff,nff⟩
 ·rintro L V w' ii o AA hii ho hLi haf hInv hAA hFF;rw[HC.o] at hInv;obtain⟨e,ga,rfl,p0,p1,h0,h1,h2,h3,h4,h5,h6,h7,h8,h9,h10,h11,h12,h13,h14,h15,h16,h17,h18,h19⟩:=hInv;rcases ii with _ | _ | _ | _ | _ | _ | _ | _ | _ | _ | _ | _ | _ | _ | _ | _ | _ | _ | _ | _ | ii;case succ.succ.succ.succ.succ.succ.succ.succ.succ.succ.succ.succ.succ.succ.succ.succ.succ.succ.succ.succ=>(simp at hii;try omega)
  all_goals (simp only[List.getElem?_cons_zero,List.getElem?_cons_succ,Option.some.injEq] at ho;subst ho)
  all_goals clear hii
  ·have f3:AA.tmps[3]?.getD undef= .pointer (some ⟨w.heap.size,0,none⟩):=hFF.out 3 (by decide);go_wp2;rw[HC.o];exact⟨_,rfl,e,ga,rfl,p0,p1,fun _=>rfl,h1,h2,h3,h4,h5,h6,h7,h8,h9,h10,h11,h12,h13,h14,h15,h16,h17,h18,h19⟩
  ·have a0:=(hAA.out 0 36 rfl).trans (h0 (haf ⟨0,.data⟩ (by simp) rfl));have z0:=Y0.out e;go_wp2;rw[HC.o];exact⟨_,rfl,e,ga,rfl,p0,p1,h0,fun _=>rfl,h2,h3,h4,h5,h6,h7,h8,h9,h10,h11,h12,h13,h14,h15,h16,h17,h18,h19⟩
  ·have a1:=(hAA.out 1 37 rfl).trans (h1 (haf ⟨1,.data⟩ (by simp) rfl));go_wp2;rw[HC.o];exact⟨_,rfl,e,ga,rfl,p0,p1,h0,h1,fun _=>rfl,h3,h4,h5,h6,h7,h8,h9,h10,h11,h12,h13,h14,h15,h16,h17,h18,h19⟩
  ·have f3:AA.tmps[3]?.getD undef= .pointer (some ⟨w.heap.size,0,none⟩):=hFF.out 3 (by decide);go_wp2;rw[HC.o];exact⟨_,rfl,e,ga,rfl,p0,p1,h0,h1,h2,fun _=>rfl,h4,h5,h6,h7,h8,h9,h10,h11,h12,h13,h14,h15,h16,h17,h18,h19⟩
  ·have a3:=(hAA.out 3 39 rfl).trans (h3 (haf ⟨3,.data⟩ (by simp) rfl));have z0:=Y1.out e;go_wp2;rw[HC.o];exact⟨_,rfl,e,ga,rfl,p0,p1,h0,h1,h2,h3,fun _=>rfl,h5,h6,h7,h8,h9,h10,h11,h12,h13,h14,h15,h16,h17,h18,h19⟩
  ·have f0:AA.tmps[0]?.getD undef= .pointer (some ⟨sg,0,none⟩):=hFF.out 0 (by decide);go_wp2;rw[HC.o];exact⟨_,rfl,e,ga,rfl,p0,p1,h0,h1,h2,h3,h4,fun _=>rfl,h6,h7,h8,h9,h10,h11,h12,h13,h14,h15,h16,h17,h18,h19⟩
  ·have a5:=(hAA.out 5 41 rfl).trans (h5 (haf ⟨5,.data⟩ (by simp) rfl));go_wp2;rw[HC.o];exact⟨_,rfl,e,ga,rfl,p0,p1,h0,h1,h2,h3,h4,h5,fun _=>rfl,h7,h8,h9,h10,h11,h12,h13,h14,h15,h16,h17,h18,h19⟩
  ·have a6:=(hAA.out 6 42 rfl).trans (h6 (haf ⟨6,.data⟩ (by simp) rfl));go_wp2;rw[HC.o];exact⟨_,rfl,e,ga,rfl,p0,p1,h0,h1,h2,h3,h4,h5,h6,fun _=>rfl,h8,h9,h10,h11,h12,h13,h14,h15,h16,h17,h18,h19⟩
  ·have a7:=(hAA.out 7 43 rfl).trans (h7 (haf ⟨7,.data⟩ (by simp) rfl));have z0:=Y2.out e;go_wp2;rw[HC.o];exact⟨_,rfl,e,ga,rfl,p0,p1,h0,h1,h2,h3,h4,h5,h6,h7,fun _=>rfl,h9,h10,h11,h12,h13,h14,h15,h16,h17,h18,h19⟩
  ·have a8:=(hAA.out 8 44 rfl).trans (h8 (haf ⟨8,.data⟩ (by simp) rfl));go_wp2;rw[HC.o];exact⟨_,rfl,e,ga,rfl,p0,p1,h0,h1,h2,h3,h4,h5,h6,h7,h8,fun _=>rfl,h10,h11,h12,h13,h14,h15,h16,h17,h18,h19⟩
  ·have a9:=(hAA.out 9 45 rfl).trans (h9 (haf ⟨9,.data⟩ (by simp) rfl));go_wp2;rw[HC.o];exact⟨_,rfl,e,ga,rfl,p0,p1,h0,h1,h2,h3,h4,h5,h6,h7,h8,h9,fun _=>rfl,h11,h12,h13,h14,h15,h16,h17,h18,h19⟩
  ·have a10:=(hAA.out 10 46 rfl).trans (h10 (haf ⟨10,.data⟩ (by simp) rfl));go_wp2;rw[HC.o];exact⟨_,rfl,e,ga,rfl,p0,p1,h0,h1,h2,h3,h4,h5,h6,h7,h8,h9,h10,fun _=>rfl,h12,h13,h14,h15,h16,h17,h18,h19⟩
  ·have a11:=(hAA.out 11 47 rfl).trans (h11 (haf ⟨11,.data⟩ (by simp) rfl));have z0:=Y3.out e;go_wp2;rw[HC.o];exact⟨_,rfl,e,ga,rfl,p0,p1,h0,h1,h2,h3,h4,h5,h6,h7,h8,h9,h10,h11,fun _=>rfl,h13,h14,h15,h16,h17,h18,h19⟩
  ·have f6:AA.tmps[6]?.getD undef= .int .i64 (kk:Int):=hFF.out 6 (by decide);go_wp2;rw[HC.o];exact⟨_,rfl,e,ga,rfl,p0,p1,h0,h1,h2,h3,h4,h5,h6,h7,h8,h9,h10,h11,h12,fun _=>rfl,h14,h15,h16,h17,h18,h19⟩
  ·have a12:=(hAA.out 12 48 rfl).trans (h12 (haf ⟨12,.data⟩ (by simp) rfl));have a13:=(hAA.out 13 49 rfl).trans (h13 (haf ⟨13,.data⟩ (by simp) rfl));go_wp2;rw[HC.o];exact⟨_,rfl,e,ga,rfl,p0,p1,h0,h1,h2,h3,h4,h5,h6,h7,h8,h9,h10,h11,h12,h13,fun _=>rfl,h15,h16,h17,h18,h19⟩
  ·have a14:=(hAA.out 14 50 rfl).trans (h14 (haf ⟨14,.data⟩ (by simp) rfl));have z0:=Y4.out e;go_wp2;rw[HC.o];exact⟨_,rfl,e,ga,rfl,p0,p1,h0,h1,h2,h3,h4,h5,h6,h7,h8,h9,h10,h11,h12,h13,h14,fun _=>rfl,h16,h17,h18,h19⟩
  ·have a4:=(hAA.out 4 40 rfl).trans (h4 (haf ⟨4,.data⟩ (by simp) rfl));have a15:=(hAA.out 15 51 rfl).trans (h15 (haf ⟨15,.data⟩ (by simp) rfl));go_wp2;rw[HC.o];exact⟨_,rfl,e,ga,rfl,p0,p1,h0,h1,h2,h3,h4,h5,h6,h7,h8,h9,h10,h11,h12,h13,h14,h15,fun _=>rfl,h17,h18,h19⟩
  ·have a2:=(hAA.out 2 38 rfl).trans (h2 (haf ⟨2,.data⟩ (by simp) rfl));have a16:=(hAA.out 16 52 rfl).trans (h16 (haf ⟨16,.data⟩ (by simp) rfl));go_wp2;rw[HC.o];exact⟨_,rfl,e,ga,rfl,p0,p1,h0,h1,h2,h3,h4,h5,h6,h7,h8,h9,h10,h11,h12,h13,h14,h15,h16,fun _=>rfl,h18,h19⟩
  ·go_wp2;rw[HC.o];exact⟨_,rfl,⟨_,e.b.alloc e.b.size _⟩,e.w.heap.size,rfl,fun _=>⟨e.b.size,(by show _<(World.alloc _ _).heap.size;simp),hI ⟨_,_,heap_alloc_new _ _,fun z=>absurd (hLi.symm.trans (p1 z)) (by decide)⟩⟩,fun _=>rfl,h0,h1,h2,h3,h4,h5,h6,h7,h8,h9,h10,h11,h12,h13,h14,h15,h16,h17,fun _=>rfl,h19⟩
  ·have a18:=(hAA.out 18 7 rfl).trans (h18 (haf ⟨18,.data⟩ (by simp) rfl));have a17:=(hAA.out 17 53 rfl).trans (h17 (haf ⟨17,.data⟩ (by simp) rfl));obtain⟨q0,q1,q2⟩:=p0 (haf ⟨18,.data⟩ (by simp) rfl);obtain⟨y,z,hx,_⟩:=q2.out;have n0:=W7.bf (j:=0) hx;have n1:=W7.bf (j:=1) hx;have m0:=bc (j:=0) hx rfl;have m1:=bc (j:=1) hx rfl;have Hx:=hI hx;clear hx;go_wp2;rw[HC.o];exact⟨rfl,undef,⟨_,(e.b.setCell (p:=⟨ga,0,none⟩) q0 _).setCell (p:=⟨ga,1,none⟩) q0 _⟩,ga,rfl,fun _=>⟨q0,(by show ga<(World.setCell _ _ _).heap.size;simp[World.setCell];exact q1),hI ⟨.int .i64 ((k:Int)+1),.int .i64 ((tn:Int)+rv),(by show((e.w.setCell ⟨ga,0,none⟩ _).setCell ⟨ga,1,none⟩ _).heap[ga]? =_;rw[blk_set (blk_set Hx.o _) _];rfl),fun _=>⟨rfl,rfl⟩⟩⟩,fun _=>haf ⟨18,.data⟩ (by simp) rfl,h0,h1,h2,h3,h4,h5,h6,h7,h8,h9,h10,h11,h12,h13,h14,h15,h16,h17,h18,fun _=>rfl⟩
 rintro L V w' hL hInv;rw[HC.o] at hInv;obtain⟨e,ga,rfl,p0,p1,h0,h1,h2,h3,h4,h5,h6,h7,h8,h9,h10,h11,h12,h13,h14,h15,h16,h17,h18,h19⟩:=hInv;have k0:=h0 (hL 0 (by simp));have k1:=h1 (hL 1 (by simp));have k2:=h2 (hL 2 (by simp));have k3:=h3 (hL 3 (by simp));have k4:=h4 (hL 4 (by simp));have k5:=h5 (hL 5 (by simp));have k6:=h6 (hL 6 (by simp));have k7:=h7 (hL 7 (by simp));have k8:=h8 (hL 8 (by simp));have k9:=h9 (hL 9 (by simp));have k10:=h10 (hL 10 (by simp));have k11:=h11 (hL 11 (by simp));have k12:=h12 (hL 12 (by simp));have k13:=h13 (hL 13 (by simp));have k14:=h14 (hL 14 (by simp));have k15:=h15 (hL 15 (by simp));have k16:=h16 (hL 16 (by simp));have k17:=h17 (hL 17 (by simp));have k18:=h18 (hL 18 (by simp));have k19:=h19 (hL 19 (by simp));clear h0 h1 h2 h3 h4 h5 h6 h7 h8 h9 h10 h11 h12 h13 h14 h15 h16 h17 h18 h19 hL HC;obtain⟨g0,g1,g2⟩:=p0 (p1 k19);obtain⟨y0,y1,hxa,hy⟩:=g2.out
 obtain⟨rfl,rfl⟩:=hy k19;have HE4:=hI (show Bl W3 e.w from e.b);rw[Hzn.o] at hxa;generalize e.w=w4 at hxa HE4 g1;clear k0 k1 k2 k3 k4 k5 k6 k7 k8 k9 k10 k11 k12 k13 k14 k15 k16 k17 k19 p0 p1 hy g2;simp only[putAll];rw[k18];go_frame;have HB4:=hI (show Bl W0 w4 from HB3.o.trans (HE4.o.mono hs3));have HBw4:=hI (HU0.o w4 HB4.o);have hxl:=blk_lt hxa;have yg1:=later_cell (bc (j:=1) hxa rfl) hxl;have hznt:(zn:Int)=(tn:Int)+rv:=Hzn.o.symm;have hzb:tn<zn/\zn<=tn+1000:=by omega
 obtain⟨hzb1,hzb2⟩:=hzb
 have HOb:=hI (show onB l tab stops k (tn:Int)=(decide ((zn:Int)<=100000)&&(openB l tab stops k (tn:Int)&&roomB l tab stops (k+1) (zn:Int))) by
  unfold onB;rw[HRk.o,decide_eq_true (show k+1<stops.length by have:=Hsp.o;omega),Hzn.o]
  rfl)
 clear hznt
 by_cases hz:100000<zn
 ·have hd1:decide ((100000:Int)<(zn:Int))=true:=by simp;omega
  have HR:=hI (show onB l tab stops k (tn:Int)=false by rw[HOb.o,decide_eq_false (by omega)];rfl);go_upto_region 5 with fail;refine wp_region_later (by kernel_rfl) (by kernel_rfl) ?_
  repeat (any_goals (first | go_big_quiet_step ((fail)) | quiet_step ((fail))))
  refine wpQuiet_nil ?_;rintro w' ⟨e5,rfl⟩;obtain⟨W5,hW5⟩:∃W5,W5=e5.w:=⟨_,rfl⟩
  have HB5:=hI (show Bl W0 W5 by rw[hW5];exact HB4.o.trans (e5.b.mono HB4.o.size));rw[<- hW5];clear hW5 yg1;have hxF:=HX00.o W5 HB5.o;have hrF:=HX01.o W5 HB5.o;obtain⟨X1,hX1⟩:∃X1,(W5.setCell ⟨w.heap.size+1,0,none⟩ (.int .i64 (k:Int))).setCell ⟨w.heap.size+1,1,none⟩ (.int .i64 (tn:Int))=X1:=⟨_,rfl⟩
  have hG1:X1.heap[w.heap.size+1]? =some (.cells #[.int .i64 (k:Int),.int .i64 (tn:Int)] 136 (0,0)):=by rw[<- hX1,blk_set (blk_set hrF _)];rfl
  have HRr:=hI (show OnR l tab stops k (tn:Int) w (.returned (.tuple #[.agg #[.int .i64 (k:Int),.int .i64 (tn:Int)],.bool false])) X1 from⟨⟨k,(tn:Int),by rw[HR.o],fun z=>absurd (HR.o.symm.trans z) (by decide)⟩,by rw[<- hX1];exact((HU0.o W5 HB5.o).setCell (p:=⟨w.heap.size+1,0,none⟩) (by simp) _).setCell (p:=⟨w.heap.size+1,1,none⟩) (by simp) _⟩);have e0:=W7.bc (j:=0) hG1 rfl;have e1:=W7.bc (j:=1) hG1 rfl;have c0:=W7.bc (j:=0) hxF rfl;have c1:=W7.bc (j:=1) hxF rfl;have r0:=W7.bc (j:=0) hrF rfl;have r1:=W7.bc (j:=1) hrF rfl;have f0:=W7.bf (j:=0) hrF;have f1:=W7.bf (j:=1) hrF;have HX1:=hI hX1;clear hG1 hX1 hxF hrF;go_wp2;rw[HX1.o];refine bodyPost_ret (v:= .tuple #[.agg #[.int .i64 (k:Int),.int .i64 (tn:Int)],.bool false]) (by simp[results,Tryz.results91,go_sem,e0,e1]) rfl ?_;exact HRr.o
 have hd1:decide ((100000:Int)<(zn:Int))=false:=by simp;omega
 have H4:=hI (HS.o w4 HBw4.o);obtain⟨kab,hKA,hkab,k0⟩:=H4.o.seB (i:=kk) (by rw[H4.o.kl,Hr.o];exact hkr);have hmi:=H4.o.trk.se kk (by rw[H4.o.kl,Hr.o];exact hkr);obtain⟨pK,hpK⟩:∃x,d.kbs.getD kk 0=x:=⟨_,rfl⟩
 rw[hpK] at k0 hmi;have hsk4:=HK.o w4 HBw4.o;have htk4:=H4.o.trk.blk;rw[hg,hKA,H4.o.kl,Hr.o] at htk4;have y2:=later_cell (bc (j:=0) hsk4 rfl) (blk_lt hsk4);have y3:=later_cell (bc (j:=3) htk4 rfl) (blk_lt htk4);have y4:=later_cell k0 hkab;have y5:=later_cell (bc (j:=1) (HX00.o w4 HB4.o) rfl) (blk_lt (HX00.o w4 HB4.o));have hbs:=(tab_bounds H4.o.ok).2 kk;have hsl:=slice16 pK tn zn (by omega) (by omega);obtain⟨xs,hxs⟩:∃xs,xs=(List.range (zn-tn)).map (fun(j:Nat)=>seAll (kk:Int) ((tn:Int)+(j:Int)) tab):=⟨_,rfl⟩
 have hxl2:xs.length=zn-tn:=by rw[hxs];simp
 have HAn:=hI (show openB l tab stops k (tn:Int)= !xs.any (fun x=>decide (0<x)) by
  unfold openB;rw[HRk.o,HSk.o,show rv.toNat=zn-tn by have:=Hzn.o;omega,hxs,List.any_map,Bool.eq_iff_iff,List.all_eq_true,Bool.not_eq_true',List.any_eq_false];refine forall_congr' fun j=>imp_congr_right fun _=> ?_
  simp only[Function.comp,beq_iff_eq,decide_eq_true_eq];omega)
 have HCon:=hI (fun(e:Later w4) (c:Nat)=>conOn1_any (fun x=>decide (0<x)) xs (zn-tn) hxl2.symm (some ⟨pK,tn,none⟩) c e.w.heap.size e.w (fun h0=>⟨pK,tn,rfl,by have:=e.b.size;have:=hmi.lt;omega,fun i hi j v hv=>by
  have hj:j=0:=by
   cases j with
   | zero=>rfl
   | succ j=>simp[encU16] at hv
  subst hj;have hi2:i<zn-tn:=by omega
  have h5:=(hmi.kept (e.b.block _ hmi.lt)).cell (t:=tn+i) (by omega);rw[Nat.mul_one,Nat.add_zero,h5,<-hv,show xs[i]=seAll (kk:Int) ((tn:Int)+(i:Int)) tab by simp[hxs]]
  rfl⟩) (Nat.le_refl _) (by omega) (fun x _ W _=>on1_any x W))
 generalize xs.any (fun x=>decide (0<x))=an at HAn HCon;have Hxs:=hI hxs;clear hxs hxl2 hmi hKA hpK htk4 hsk4 k0;cases an;rotate_left
 ·have HR:=hI (show onB l tab stops k (tn:Int)=false by rw[HOb.o,HAn.o];simp);go_upto_region 5 with fail;refine wp_region_later (by kernel_rfl) (by kernel_rfl) ?_
  repeat (any_goals (first | go_big_quiet_step ((go_at_call 158;exact later_call _ (HCon.o _ _))) | quiet_step ((go_at_call 158;exact later_call _ (HCon.o _ _)))))
  refine wpQuiet_nil ?_;rintro w' ⟨e5,rfl⟩;obtain⟨W5,hW5⟩:∃W5,W5=e5.w:=⟨_,rfl⟩
  have HB5:=hI (show Bl W0 W5 by rw[hW5];exact HB4.o.trans (e5.b.mono HB4.o.size));rw[<- hW5];clear hW5 yg1 y2 y3 y4 y5;have hxF:=HX00.o W5 HB5.o;have hrF:=HX01.o W5 HB5.o;obtain⟨X1,hX1⟩:∃X1,(W5.setCell ⟨w.heap.size+1,0,none⟩ (.int .i64 (k:Int))).setCell ⟨w.heap.size+1,1,none⟩ (.int .i64 (tn:Int))=X1:=⟨_,rfl⟩
  have hG1:X1.heap[w.heap.size+1]? =some (.cells #[.int .i64 (k:Int),.int .i64 (tn:Int)] 136 (0,0)):=by rw[<- hX1,blk_set (blk_set hrF _)];rfl
  have HRr:=hI (show OnR l tab stops k (tn:Int) w (.returned (.tuple #[.agg #[.int .i64 (k:Int),.int .i64 (tn:Int)],.bool false])) X1 from⟨⟨k,(tn:Int),by rw[HR.o],fun z=>absurd (HR.o.symm.trans z) (by decide)⟩,by rw[<- hX1];exact((HU0.o W5 HB5.o).setCell (p:=⟨w.heap.size+1,0,none⟩) (by simp) _).setCell (p:=⟨w.heap.size+1,1,none⟩) (by simp) _⟩);have e0:=W7.bc (j:=0) hG1 rfl;have e1:=W7.bc (j:=1) hG1 rfl;have c0:=W7.bc (j:=0) hxF rfl;have c1:=W7.bc (j:=1) hxF rfl;have r0:=W7.bc (j:=0) hrF rfl;have r1:=W7.bc (j:=1) hrF rfl;have f0:=W7.bf (j:=0) hrF;have f1:=W7.bf (j:=1) hrF;have HX1:=hI hX1;clear hG1 hX1 hxF hrF;go_wp2;rw[HX1.o];refine bodyPost_ret (v:= .tuple #[.agg #[.int .i64 (k:Int),.int .i64 (tn:Int)],.bool false]) (by simp[results,Tryz.results91,go_sem,e0,e1]) rfl ?_;exact HRr.o
 have HO2:=hI (show onB l tab stops k (tn:Int)=roomB l tab stops (k+1) (zn:Int) by rw[HOb.o,HAn.o,decide_eq_true (show(zn:Int)<=100000 by omega)];rfl);go_upto_region 5 with fail;refine wp_region_later (by kernel_rfl) (by kernel_rfl) ?_
 repeat (any_goals (first | go_big_quiet_step ((go_at_call 158;exact later_call _ (HCon.o _ _))) | quiet_step ((go_at_call 158;exact later_call _ (HCon.o _ _)))))
 refine wpQuiet_nil ?_;rintro w' ⟨e5,rfl⟩;obtain⟨W5,hW5⟩:∃W5,W5=e5.w:=⟨_,rfl⟩
 have HB5:=hI (show Bl W0 W5 by rw[hW5];exact HB4.o.trans (e5.b.mono HB4.o.size));have hxa5:W5.heap[ga]? =some (.cells #[.int .i64 ((k:Int)+1),.int .i64 (zn:Int)] 136 (0,0)):=by rw[hW5];exact(e5.b.block _ hxl).trans hxa
 go_upto_region 7 with fail;rw[<- hW5];clear hW5 yg1 y2 y3 y4 y5;have HBw5:=hI (HU0.o W5 HB5.o);have hs5:=HBw5.o.size;have hgne:ga≠w.heap.size+1:=by omega
 have GA0:=hI (glater_cell (bc (j:=0) hxa5 rfl) (blk_lt hxa5) (row:=some (w.heap.size+1)) (by intro e;exact hgne (Option.some.inj e)));have GA1:=hI (glater_cell (bc (j:=1) hxa5 rfl) (blk_lt hxa5) (row:=some (w.heap.size+1)) (by intro e;exact hgne (Option.some.inj e)));have HR5:=hI (HX01.o W5 HB5.o);obtain⟨rm,hrm⟩:∃x,roomB l tab stops (k+1) (zn:Int)=x:=⟨_,rfl⟩
 have HRm:=hI (fun(e:GLater W5 (some (w.heap.size+1)))=>by
  have h5:=sroom_any d l tab stops (k+1) (zn:Int) e.w (HS.o e.w (HBw5.o.grown e.g (by omega) (fun kk hkk=>by cases hkk;omega))) (by have:=Hsp.o;omega);rw[hsg,hrm,show((k+1:Nat):Int)=(k:Int)+1 from rfl] at h5;exact h5)
 rw[hrm] at HO2;clear hrm;obtain⟨C,hC⟩:∃C:(Nat->Bool)->(Nat->Value)->World->Prop,C=fun L V w'=>∃(e:GLater W5 (some (w.heap.size+1))),w'=e.w/\Hid (∃y z:Value,e.w.heap[w.heap.size+1]? =some (.cells #[y,z] 136 (0,0))/\(L 4=true->y= .int .i64 ((k:Int)+1)/\z= .int .i64 (zn:Int)))/\(L 0=true->V 0= .agg #[.int .i64 ((k:Int)+1),.int .i64 (zn:Int)])/\(L 1=true->V 1= .pointer (some ⟨sg,0,none⟩))/\(L 2=true->V 2= .agg #[.int .i64 ((k:Int)+1),.int .i64 (zn:Int)])/\(L 3=true->V 3= .bool rm)/\(L 4=true->L 4=true)/\(L 5=true->V 4= .bool rm):=⟨_,rfl⟩
 have HC:=hI hC;clear hC;refine wp_region_opsA [78,79,80,81,5] C (by kernel_rfl) (by kernel_rfl) (by decide) (by kernel_rfl) (by kernel_rfl) ?_ ?_ ?_
 ·rw[HC.o];exact⟨⟨W5.drew,⟨rfl,rfl,rfl,Nat.le_refl _,fun _ _ _=>rfl⟩⟩,rfl,hI ⟨_,_,HR5.o,nff⟩,nff,nff,nff,nff,nff,nff⟩
 ·rintro L V w' ii o AA hii ho hLi haf hInv hAA hFF;rw[HC.o] at hInv;obtain⟨e,rfl,p0,h0,h1,h2,h3,h4,h5⟩:=hInv;rcases ii with _ | _ | _ | _ | _ | _ | ii;case succ.succ.succ.succ.succ.succ=>(simp at hii;try omega)
  all_goals (simp only[List.getElem?_cons_zero,List.getElem?_cons_succ,Option.some.injEq] at ho;subst ho)
  all_goals clear hii
  ·have f7:AA.tmps[7]?.getD undef= .pointer (some ⟨ga,0,none⟩):=hFF.out 7 (by decide);have z0:=GA0.out e;have z1:=GA1.out e;go_wp2;rw[HC.o];exact⟨_,rfl,e,rfl,p0,fun _=>rfl,h1,h2,h3,h4,h5⟩
  ·have f0:AA.tmps[0]?.getD undef= .pointer (some ⟨sg,0,none⟩):=hFF.out 0 (by decide);go_wp2;rw[HC.o];exact⟨_,rfl,e,rfl,p0,h0,fun _=>rfl,h2,h3,h4,h5⟩
  ·have f7:AA.tmps[7]?.getD undef= .pointer (some ⟨ga,0,none⟩):=hFF.out 7 (by decide);have z0:=GA0.out e;have z1:=GA1.out e;go_wp2;rw[HC.o];exact⟨_,rfl,e,rfl,p0,h0,h1,fun _=>rfl,h3,h4,h5⟩
  ·have a1:=(hAA.out 1 79 rfl).trans (h1 (haf ⟨1,.data⟩ (by simp) rfl));have a2:=(hAA.out 2 80 rfl).trans (h2 (haf ⟨2,.data⟩ (by simp) rfl));go_wp2_with (go_at_call 155;go_loud (refine(HRm.o e).mono ?_);rintro r' w5 ⟨rfl,hb5⟩);rw[HC.o];exact⟨_,rfl,⟨w5,grown_trans e.g (grown_of_below hb5 _)⟩,rfl,(by obtain⟨y,z,hx,hz⟩:=p0.out;exact hI ⟨y,z,(hb5.block _ (blk_lt hx)).trans hx,hz⟩),h0,h1,h2,fun _=>rfl,h4,h5⟩
  ·have a0:=(hAA.out 0 78 rfl).trans (h0 (haf ⟨0,.data⟩ (by simp) rfl));have f4:AA.tmps[4]?.getD undef= .pointer (some ⟨w.heap.size+1,0,none⟩):=hFF.out 4 (by decide);obtain⟨y,z,hx,hz⟩:=p0.out;have z0:=bc (j:=0) hx rfl;have z1:=bc (j:=1) hx rfl;have n0:=W7.bf (j:=0) hx;have n1:=W7.bf (j:=1) hx;have Hx:=hI hx;clear hx hz;go_wp2;rw[HC.o];exact⟨rfl,undef,⟨_,grown_trans (grown_trans e.g (grown_setM _ (w.heap.size+1) 0 _)) (grown_setM _ (w.heap.size+1) 1 _)⟩,rfl,hI ⟨.int .i64 ((k:Int)+1),.int .i64 (zn:Int),(by show((e.w.setCell ⟨w.heap.size+1,0,none⟩ _).setCell ⟨w.heap.size+1,1,none⟩ _).heap[w.heap.size+1]? =_;rw[blk_set (blk_set Hx.o _)];rfl),fun _=>⟨rfl,rfl⟩⟩,h0,h1,h2,h3,fun _=>rfl,h5⟩
  ·have a3:=(hAA.out 3 81 rfl).trans (h3 (haf ⟨3,.data⟩ (by simp) rfl));go_wp2;rw[HC.o];exact⟨_,rfl,e,rfl,p0,h0,h1,h2,h3,h4,fun _=>rfl⟩
 rintro L V w' hL hInv;rw[HC.o] at hInv;obtain⟨e,rfl,p0,h0,h1,h2,h3,h4,h5⟩:=hInv;have k0:=h0 (hL 0 (by simp));have k1:=h1 (hL 1 (by simp));have k2:=h2 (hL 2 (by simp));have k3:=h3 (hL 3 (by simp));have k4:=h4 (hL 4 (by simp));have k5:=h5 (hL 5 (by simp));clear h0 h1 h2 h3 h4 h5 hL HC;obtain⟨y0,y1,hxr,hy⟩:=p0.out;obtain⟨rfl,rfl⟩:=hy k4;have HE6:=hI (show W5.grownBy e.w (some (w.heap.size+1)) from e.g);generalize e.w=w6 at hxr HE6;clear k0 k1 k2 k3 k4 p0 hy;simp only[putAll];rw[k5];go_frame;have HRr:=hI (show OnR l tab stops k (tn:Int) w (.returned (.tuple #[.agg #[.int .i64 ((k:Int)+1),.int .i64 (zn:Int)],.bool rm])) w6 from⟨⟨(k:Int)+1,(zn:Int),by rw[HO2.o],fun _=>⟨rfl,by rw[HRk.o,Hzn.o]⟩⟩,HBw5.o.grown HE6.o (by omega) (fun kk hkk=>by cases hkk;omega)⟩);have e0:=W7.bc (j:=0) hxr rfl;have e1:=W7.bc (j:=1) hxr rfl;go_wp2
 refine bodyPost_ret (v:= .tuple #[.agg #[.int .i64 ((k:Int)+1),.int .i64 (zn:Int)],.bool rm]) (by simp[results,Tryz.results91,go_sem,e0,e1]) rfl ?_;exact HRr.o
end Go.Proofs.YtjpgnfekbojcaaaGreat
