/- Order of both sides;the specification's Length. -/
import Derived.Test.YtjpgnfekbojcaaaGreatWRKeep
import Derived.Test.YtjpgnfekbojcaaaGreatWDig
import Derived.Test.YtjpgnfekbojcaaaGreatWIns
set_option maxHeartbeats 8000000
set_option maxRecDepth 100000
namespace Go.Proofs.YtjpgnfekbojcaaaGreat
open Go.RowKit W7 W8
attribute [local go_sem] Oper.semAt_some
theorem reflength_any (j:Job) (st:List Int) (SA:Option Addr) (sc B:Nat) (w:World) (hj:JIn w B j) (hB:B<=w.heap.size) (hG:JGood j.p) (hst:st.length=j.tasks.length) (hT:∀i,0<=st.getD i 0/\st.getD i 0<=100000) (hS:Sl w B 1 encInt1 SA st) :
  Calls Tryz.prog 103 #[jobV j,.slice SA j.tasks.length sc] w fun e w'=>e= .returned (.int .i64 (lenOf j.p st))/\Bl w w':=by
 obtain⟨n,hn⟩:=eX j.tasks.length;obtain⟨TA,hTA⟩:=eX j.TA;have hjv:jobV j= .agg #[.slice TA n j.tc,.slice j.RA j.res.length j.rc]:=by unfold jobV;rw[hn,hTA]
 rw[hn] at hst;rw[hjv,hn];obtain⟨W0,HW0,hs0,HB0,HX00,HU0⟩:=boxes1 w (.cells #[.slice TA n j.tc,.slice j.RA j.res.length j.rc] 25);have h64:n<=64:=by have:=hG.nt;rw[j.nt] at this;omega
 have hlc:=hj.tl;have hc2:=hj.tc;rw[hn] at hlc;have HJ:=hI (show ∀X:World,Bl W0 X->JIn X B j/\Sl X B 1 encInt1 SA st from fun X hX=>⟨hj.below ((HU0.o X hX).mono hB),hS.below ((HU0.o X hX).mono hB)⟩);have HG:=hI hG;have Hn:=hI hn;have HTA:=hI hTA;have Hst:=hI hst;have HT:=hI hT;have HL:=hI (show lenOf j.p st=lenTo j.p st n by unfold lenOf;rw[j.nt,hn]);have q0:=kC 0 (HX00.o W0 (zX _ _)) rfl;have hmx:=max_run Tryz.prog;clear hj hG hn hTA hjv hst hS hT;go_enter Tryz.func103,Tryz.ntmps103;go_upto_region 1 with fail;rw[<- HW0.o];go_wp2;clear q0;go_loopw [5,6] (fun v5 v6 wr=>∃i:Nat,i<=n/\v6= .int .i64 i/\v5= .int .i64 (lenTo j.p st i)/\Hid (Bl W0 wr)) (fun _ v6 _=>n-(intOf v6).toNat);case atStart=>exact⟨0,by omega,rfl,rfl,hI (zX _ _)⟩
 case round=>
  obtain⟨i,hi,rfl,rfl,Hb⟩:=hrel;have hsr:=Hb.o.size
  by_cases hlt:i<n
  ·have hil:i<j.tasks.length:=by have:=Hn.o;omega
   obtain⟨hjn,hsn⟩:=HJ.o wr Hb.o;obtain⟨tb,off,hTb,htb⟩:=hjn.ta (by omega);have hTe:TA=some ⟨tb,off,none⟩:=by rw[<- HTA.o];exact hTb
   subst hTe;obtain⟨ub,uoff,hue,hub,hcs⟩:=hsn (by have:=Hst.o;omega);subst hue
   have s0:wr.cell? ⟨ub,uoff+i,none⟩=some (.int .i64 (st.getD i 0)):=by
    have hks:i<st.length:=by have:=Hst.o;omega
    have h:=hcs i hks 0 _ rfl;rw[Nat.mul_one,Nat.add_zero] at h;rw[h,zA,zB hks]
    rfl
   obtain⟨c0,c1,c2,c3⟩:=hjn.tcells hTb hil;have htk:=HG.o.takes _ (j.Tp_mem hil);have hst9:=HT.o i;have hlb:=lenTo_le HG.o HT.o i (by rw[j.nt];omega);have HSn:=hI (show lenTo j.p st (i+1)=max (lenTo j.p st i) (st.getD i 0+(j.T i).p.takes) by rw[<- j.pT];rfl);generalize j.T i=t at c0 c1 c2 c3 htk HSn;generalize st.getD i 0=s at s0 hst9 HSn;generalize lenTo j.p st i=L at hlb HSn;obtain⟨tk,htk'⟩:=eX t.p.takes;rw[htk'] at c1 htk HSn;clear hjn hsn hcs hTb htk';have q0:=kC 0 (HX00.o wr Hb.o) rfl;go_upto_region 5 with fail
   go_quiet (fail)
   go_wp2;go_roundw;case rel=>exact⟨i+1,by omega,by go_num,by rw[HSn.o],hI (zO Hb.o _)⟩
   case measure=>simp[intOf];omega
  ·have HE:=hI (show lenOf j.p st=lenTo j.p st i by rw[HL.o,show n=i by omega]);go_wp2;go_ret;exact⟨ret_int HE.o.symm,HU0.o _ Hb.o⟩
theorem refLength_any (j:Job) (st:List Int) (SA:Option Addr) (sn sc B:Nat) (w:World) (hj:JIn w B j) (hB:B<=w.heap.size) (hst:StIn w B SA sn sc st) (hr:∀i, -9223372036854775808<=st.getD i 0/\st.getD i 0<=9223372036854775807) :
  Calls Tryz.prog 40 #[jobV j,.slice SA sn sc] w fun e w'=>e= .returned (.tuple #[.int .i64 (lnV j.p st),.int .i64 (lnErr j.p st)])/\Bl w w':=by
 have hjv:jobV j= .agg #[.slice j.TA j.tasks.length j.tc,.slice j.RA j.res.length j.rc]:=rfl;obtain⟨n,hn⟩:=eX j.tasks.length;rw[hn] at hjv;obtain⟨W0,HW0,hs0,HB0,HX00,HU0⟩:=boxes1 w (.cells #[.slice j.TA n j.tc,.slice j.RA j.res.length j.rc] 25);have HJ:=hI (show ∀X:World,Bl W0 X->JIn X B j/\StIn X B SA sn sc st from fun X hX=>⟨hj.below ((HU0.o X hX).mono hB),hst.below ((HU0.o X hX).mono hB)⟩);have HC:=hI (refKeeps_any j st SA sn sc B W0 (HJ.o W0 (zX _ _)).1 (by omega) (HJ.o W0 (zX _ _)).2 hr);have Hlen:=hI hst.len;have Hn:=hI hn;have HKV:=hI (show kpV j.p st=(decide (kpErr j.p st=0)&&keepsV j.p st) from rfl)
 have HL:=hI (fun(X:World) (hX:Bl W0 X) (hk:kpErr j.p st=0) (hv:keepsV j.p st=true)=>
  have hje:jobErr j.p=0:=by
   unfold kpErr at hk
   by_cases h:jobErr j.p=0
   ·exact h
   ·rw[if_pos h] at hk;exact absurd hk h
  have hl:st.length=j.tasks.length:=by
   unfold kpErr at hk;rw[if_neg (by simpa using hje)] at hk
   by_cases h:st.length=j.p.tasks.length
   ·rw[h,j.nt]
   ·rw[if_neg h] at hk;cases hk
  (⟨hl,reflength_any j st SA sc B X (HJ.o X hX).1 (by have:=hX.size;omega) (good_of hje) hl (keepsV_time (by rw[j.nt];exact hl) hv) (HJ.o X hX).2.sl⟩:st.length=j.tasks.length/\_))
 have HE:=hI (show lnErr j.p st=if kpErr j.p st≠0 then kpErr j.p st else if keepsV j.p st then 0 else 8 from rfl);have HV:=hI (show lnV j.p st=if lnErr j.p st=0 then lenOf j.p st else 0 from rfl);rw[hjv] at HC HL ⊢;have q0:=kC 0 (HX00.o W0 (zX _ _)) rfl;have q1:=kC 1 (HX00.o W0 (zX _ _)) rfl;clear hj hst hn hjv hr;go_enter Tryz.func40,Tryz.ntmps40;go_upto_region 1 with fail;rw[<- HW0.o];go_upto_region 2 with(go_at_call 20;refine HC.o.mono ?_;rintro e w1 ⟨rfl,hb1⟩;have hs1:=hb1.size;have Hb1:=hI hb1;clear hb1)
 clear q0 q1;have q0:=kC 0 (HX00.o w1 Hb1.o) rfl;have q1:=kC 1 (HX00.o w1 Hb1.o) rfl;cases h0:(kpErr j.p st==0)
 ·have h0':(kpErr j.p st != 0)=true:=by simp[bne,h0]
  have hne:kpErr j.p st≠0:=fun h=>by rw[h] at h0;cases h0
  have H1:=hI (show lnErr j.p st=kpErr j.p st by rw[HE.o,if_pos hne]);have H2:=hI (show lnV j.p st=0 by rw[HV.o,H1.o,if_neg hne]);clear hne;go_wp2;go_ret2;rw[H1.o,H2.o];exact⟨rfl,HU0.o _ Hb1.o⟩
 have h0':(kpErr j.p st != 0)=false:=by simp[bne,h0]
 have hk0:kpErr j.p st=0:=eq_of_beq h0;have Hk0:=hI hk0;have HE1:=hI (show lnErr j.p st=if keepsV j.p st then 0 else 8 by rw[HE.o,if_neg (fun h=>h hk0)]);have HKV2:=hI (show kpV j.p st=keepsV j.p st by rw[HKV.o,hk0];simp);rw[HKV2.o];cases hv:keepsV j.p st
 ·have H1:=hI (show lnErr j.p st=8 by rw[HE1.o,hv];rfl);have H2:=hI (show lnV j.p st=0 by rw[HV.o,H1.o];rfl);clear hk0;go_wp2;go_ret2;rw[H1.o,H2.o];exact⟨rfl,HU0.o _ Hb1.o⟩
 ·have H1:=hI (show lnErr j.p st=0 by rw[HE1.o,hv];rfl);have H2:=hI (show lnV j.p st=lenOf j.p st by rw[HV.o,H1.o];rfl);obtain⟨hl9,hL9⟩:=HL.o w1 Hb1.o hk0 hv;have hsn:sn=n:=by rw[Hlen.o,hl9,Hn.o]
  rw[Hn.o] at hL9;have HL2:=hI hL9;subst hsn;clear hk0 hl9 hL9;go_wp2_with (go_at_call 103;refine HL2.o.mono ?_;rintro e w2 ⟨rfl,hb2⟩;have Hb2:=hI hb2;clear hb2);go_ret2;rw[H1.o,H2.o];exact⟨rfl,HU0.o _ (Hb1.o.trans (Hb2.o.mono (by omega)))⟩
def DIns (w:World) (g1 g2 b2:Nat):Prop:=
  Calls Tryz.prog 32 #[.agg #[.slice (some ⟨g1,0,none⟩) 1 1,.slice (some ⟨g2,0,none⟩) 2 2],.slice (some ⟨b2,0,none⟩) 1 1,.agg #[.int .i64 1,.int .i64 0,.int .i64 0]] w fun e w'=>∃g c,e= .returned (.tuple #[.slice (some ⟨g,0,none⟩) 2 c,.int .i64 0])/\2<=c/\c<=9223372036854775807/\(w'.cell? ⟨g,0,none⟩=some (.int .i64 1)/\w'.cell? ⟨g,1,none⟩=some (.int .i64 6)/\w'.cell? ⟨g,2,none⟩=some (.int .i64 6))/\(w'.cell? ⟨g,3,none⟩=some (.int .i64 0)/\w'.cell? ⟨g,4,none⟩=some (.int .i64 9)/\w'.cell? ⟨g,5,none⟩=some (.int .i64 9))/\Bl w w'
def DInsAll:Prop:=∀(w:World) (g1 g2 b1 b2:Nat),w.heap[g1]? =some (.cells #[.int .i64 3] 3 (0,0))->w.heap[g2]? =some (.cells #[.int .i64 1,.int .i64 1] 3 (0,0))->w.heap[b1]? =some (.cells #[.int .i64 0,.int .i64 0,.int .i64 0,.int .i64 1,.int .i64 3,.int .i64 5] 66 (0,0))->w.heap[b2]? =some (.cells #[.slice (some ⟨b1,0,none⟩) 2 2] 59 (0,0))->DIns w g1 g2 b2
theorem alloc_it (w:World) (o:Obj):∃W,W=w.alloc o/\Bl w W/\W.heap[w.heap.size]? =some o/\W.heap.size=w.heap.size+1:=
 ⟨_,rfl,(zX _ _).alloc (zm _) _,zW _ _,by simp⟩
theorem two_at (w:World) (a b:Obj):((w.alloc a).alloc b).heap[w.heap.size]? =some a/\((w.alloc a).alloc b).heap[w.heap.size+1]? =some b/\Below w.heap.size w ((w.alloc a).alloc b):=
 ⟨by have:=allocs_at [a,b] w 0 (by simp);rw[Nat.add_zero] at this;exact this,allocs_at [a,b] w 1 (by simp),(allocs_below [a,b] w).1⟩
theorem bchain {a b c:World} (h:Bl a b) (k:Bl b c):Bl a c:=h.trans (k.mono h.size)
theorem ba (w:World) (o:Obj):Below w.heap.size w (w.alloc o):=(zX _ _).alloc (zm _) _
theorem heap_in {a b:World} {i:Nat} {o:Obj} (h:Bl a b) (hi:a.heap[i]? =some o):b.heap[i]? =some o:=(h.block i (blk_lt hi)).trans hi
theorem cell_in {a b:World} {p:Addr} {v:Value} (h:Bl a b) (hi:a.cell? p=some v):b.cell? p=some v:=(h.cell (World.block_lt_of_cell? a _ hi)).trans hi
theorem sl_in {α:Type} {enc:α->List Value} {k:Nat} {a b:World} {A:Option Addr} {xs:List α} (h:Bl a b) (hs:Sl a a.heap.size k enc A xs):Sl b b.heap.size k enc A xs:=(hs.below h).mono h.size
theorem ins_at (HIns:DInsAll) (W6:World) (l0:Nat) (h0:W6.heap[l0]? =some (.cells #[.int .i64 3] 3 (0,0))) (h1:W6.heap[l0+1]? =some (.cells #[.int .i64 1,.int .i64 1] 3 (0,0))) (X:World)
  (hX:X=(W6.alloc (.cells #[.int .i64 0,.int .i64 0,.int .i64 0,.int .i64 1,.int .i64 3,.int .i64 5] 66)).alloc (.cells #[.slice (some ⟨W6.heap.size,0,none⟩) 2 2] 59)):DIns X l0 (l0+1) (W6.heap.size+1)/\Bl W6 X:=by
 obtain⟨x1,x2,x3⟩:=two_at W6 (.cells #[.int .i64 0,.int .i64 0,.int .i64 0,.int .i64 1,.int .i64 3,.int .i64 5] 66) (.cells #[.slice (some ⟨W6.heap.size,0,none⟩) 2 2] 59);rw[<- hX] at x1 x2 x3;exact⟨HIns X l0 (l0+1) W6.heap.size (W6.heap.size+1) (heap_in x3 h0) (heap_in x3 h1) x1 x2,x3⟩
theorem next_at (W8:World) (rb:Nat) (h:W8.heap[rb]? =some (.cells #[.int .i64 100,.int .i64 60,.int .i64 10] 89 (0,0))) (X:World) (hX:X=W8.alloc (.cells #[.string ⟨#[97,110,110]⟩,.int .i64 100,.int .i64 0,.int .i64 50,.int .i64 60] 84)) :
  Calls Tryz.prog 49 #[.agg #[.slice (some ⟨rb,0,none⟩) 1 1,.int .i64 30,.int .i64 100],.slice (some ⟨W8.heap.size,0,none⟩) 1 1,.string ⟨#[97,110,110]⟩,.int .i64 100,.int .i64 60,.int .i64 0] X (fun e w'=>e= .returned (.tuple #[.agg #[.string ⟨#[97,110,110]⟩,.int .i64 100,.int .i64 1390,.int .i64 1450,.int .i64 1460],.int .i64 0])/\Bl X w'):=by
 refine dNext rb W8.heap.size X ?_ ?_
 ·rw[hX];exact heap_in (ba W8 _) h
 ·rw[hX];exact zW _ _
theorem ints_at (W X:World) (a b c:Int) (A:Option Addr) (k:Nat) (hA:Sl W W.heap.size 1 encInt1 A [a,b,c]) (hX:X=W.alloc (.cells #[.int .i64 a,.int .i64 b,.int .i64 c] 3)) :
  Calls Tryz.prog 19 #[.slice A 3 k,.slice (some ⟨W.heap.size,0,none⟩) 3 3] X (fun e w'=>e= .returned (.bool true)/\Bl W w'):=by
 have hb:Bl W X:=by rw[hX];exact ba W _
 have hq:X.heap[W.heap.size]? =some (.cells #[.int .i64 a,.int .i64 b,.int .i64 c] 3 (0,0)):=by rw[hX];exact zW _ _
 refine(lawInts_any [a,b,c] A (some ⟨W.heap.size,0,none⟩) 3 k 3 X.heap.size X rfl (sl_in hb hA) (sl_blk (enc:=encInt1) (fun _=>rfl) hq rfl (blk_lt hq)) (zm _) (by decide)).mono ?_;rintro e w' ⟨rfl,h⟩;exact⟨rfl,bchain hb h⟩
theorem digs1_any (hIns:DInsAll) (w:World):Calls Tryz.prog 16 #[] w fun e w'=>e= .returned (.bool true)/\Bl w w':=by
 have HIns:=hI hIns;clear hIns;have HRig:=hI (rig_any w);go_enter Tryz.func16,Tryz.ntmps16;go_upto_region 2 with(go_at_call 57;go_loud (refine HRig.o.mono ?_);rintro e w1 ⟨rfl,hj,hb1⟩;have HJ:=hI (show ∀X,Bl w1 X->JIn X X.heap.size (rigJ w.heap.size) from fun X hX=>(hj.below hX).mono hX.size);have HB1:=hI hb1;clear hj hb1)
 obtain⟨W1,hW1,hb,hq,hs⟩:=alloc_it w1 (.cells #[.slice (some ⟨w.heap.size+6,0,none⟩) 3 3,.slice (some ⟨w.heap.size+3,0,none⟩) 1 1] 25);rw[<- hW1];obtain⟨jb,hjb⟩:=eX w1.heap.size;rw[hjb] at hq;rw[hjb];have HK1:=hI (show ∀X,Bl W1 X->X.heap[jb]? =some (.cells #[.slice (some ⟨w.heap.size+6,0,none⟩) 3 3,.slice (some ⟨w.heap.size+3,0,none⟩) 1 1] 25 (0,0))/\JIn X X.heap.size (rigJ w.heap.size) from fun X hX=>⟨heap_in hX hq,HJ.o X (bchain hb hX)⟩);have HB1':=hI (show Bl w W1 from bchain HB1.o hb);have hjl:=blk_lt hq;have j0:=kC 0 hq rfl;have j1:=kC 1 hq rfl;clear hW1 hb hq hs HB1 HJ hjb;go_upto_region 3 with(go_at_call 17;go_loud (refine(dSer w.heap.size W1.heap.size _ (HK1.o _ (ba _ _)).2 (zW _ _)).mono ?_);rintro e w2 ⟨A2,c2,rfl,q1,q2,q3,q4⟩;have HB2:=hI (bchain (ba W1 _) q4);have HA2:=hI q3;have hs2:=HB2.o.size;clear q3 q4)
 have hq:=(HK1.o w2 HB2.o).1;have HL:=hI (dLen w.heap.size c2 A2 w2 (HK1.o w2 HB2.o).2 HA2.o q1 q2);clear j0 j1;have j0:=kC 0 hq rfl;have j1:=kC 1 hq rfl;clear hq;go_upto_region 4 with(go_at_call 39;go_loud (refine HL.o.mono ?_);rintro e w3 ⟨rfl,q3⟩;have HB3:=hI q3;clear q3)
 have HB13:=hI (bchain HB2.o HB3.o);have hq:=(HK1.o w3 HB13.o).1;have HL4:=hI (dLeast w.heap.size w3 (HK1.o w3 HB13.o).2);clear j0 j1;have j0:=kC 0 hq rfl;have j1:=kC 1 hq rfl;clear hq;have hs3:=HB13.o.size;go_upto_region 5 with(go_at_call 51;go_loud (refine HL4.o.mono ?_);rintro e w4 ⟨A4,c4,rfl,q3⟩;have HB4:=hI q3;clear q3)
 obtain⟨W4,hW4,hb,hq4,hs4⟩:=alloc_it w4 (.cells #[.int .i64 9,.slice A4 0 c4,.int .i64 0] 92);rw[<- hW4];have HB34:=hI (bchain HB4.o hb);have HB14:=hI (bchain HB13.o HB34.o);obtain⟨fb,hfb⟩:=eX w4.heap.size;rw[hfb] at hq4;rw[hfb];have HQ4:=hI hq4;have hq:=(HK1.o W4 HB14.o).1;clear j0 j1 hW4 hb hq4 hs4 hfb;have j0:=kC 0 hq rfl;have j1:=kC 1 hq rfl;clear hq;have hs14:=HB14.o.size;have hfl:=blk_lt HQ4.o;go_upto_region 6 with(go_at_call 22;go_loud (refine(dFail w.heap.size W4.heap.size _ (HK1.o _ (bchain HB14.o (ba _ _))).2 (zW _ _)).mono ?_);rintro e w5 ⟨TA5,tn5,tc5,g5,h5,c5,oc5,A5,ac5,rfl,q3,q4,q5,q6,q7,q8,q9,q10,q11,q12,q13⟩;have HB5:=hI (bchain (ba W4 _) q13);have HA5:=hI q12;have HG5:=hI (And.intro q7 (And.intro q8 q9));clear q7 q8 q9 q12 q13)
 obtain⟨W5,hW5,hb5,hq5,hs5⟩:=alloc_it w5 (.cells #[.slice TA5 tn5 tc5,.slice (some ⟨g5,0,none⟩) 1 c5] 25);rw[<- hW5];obtain⟨ob,hob⟩:=eX w5.heap.size;rw[hob] at hq5;rw[hob];have HQ5:=hI hq5;have HB5':=hI hb5;clear hW5 hb5 hq5 hs5 hob j0 j1;have HBfb:=hI (bchain HB5.o HB5'.o);go_upto_region 7 with fail;obtain⟨W6,hW6⟩:=eY (((W5.alloc (.cells #[.int .i64 3] 3)).alloc (.cells #[.int .i64 1,.int .i64 1] 3)).alloc (.cells #[.slice (some ⟨W5.heap.size,0,none⟩) 1 1,.slice (some ⟨W5.heap.size+1,0,none⟩) 2 2] 52));have hb6:Bl W5 W6/\W6.heap.size=W5.heap.size+3:=by rw[hW6];exact allocs_below [.cells #[.int .i64 3] 3,.cells #[.int .i64 1,.int .i64 1] 3,.cells #[.slice (some ⟨W5.heap.size,0,none⟩) 1 1,.slice (some ⟨W5.heap.size+1,0,none⟩) 2 2] 52] W5
 have ha6:∀i,i<3->W6.heap[W5.heap.size+i]? =[Obj.cells #[.int .i64 3] 3 (0,0),.cells #[.int .i64 1,.int .i64 1] 3 (0,0),.cells #[.slice (some ⟨W5.heap.size,0,none⟩) 1 1,.slice (some ⟨W5.heap.size+1,0,none⟩) 2 2] 52 (0,0)][i]? :=by rw[hW6];exact allocs_at [.cells #[.int .i64 3] 3,.cells #[.int .i64 1,.int .i64 1] 3,.cells #[.slice (some ⟨W5.heap.size,0,none⟩) 1 1,.slice (some ⟨W5.heap.size+1,0,none⟩) 2 2] 52] W5
 have HL0:=hI (show W6.heap[W5.heap.size]? =some (.cells #[.int .i64 3] 3 (0,0)) from ha6 0 (by decide));have HL1:=hI (show W6.heap[W5.heap.size+1]? =some (.cells #[.int .i64 1,.int .i64 1] 3 (0,0)) from ha6 1 (by decide));have hl2:W6.heap[W5.heap.size+2]? =some (.cells #[.slice (some ⟨W5.heap.size,0,none⟩) 1 1,.slice (some ⟨W5.heap.size+1,0,none⟩) 2 2] 52 (0,0)):=ha6 2 (by decide);rw[<- hW6];have HB6:=hI hb6.1;obtain⟨lb,hl0⟩:=eX W5.heap.size;rw[hl0] at hl2 HL0 HL1;rw[hl0];have l0:=kC 0 hl2 rfl;have l1:=kC 1 hl2 rfl;have hll:=blk_lt hl2;clear hW6 ha6 hl2 hb6 hl0;have HI7:=hI (ins_at HIns.o W6 lb HL0.o HL1.o);go_upto_region 8 with(go_at_call 32;go_loud (refine(HI7.o _ rfl).1.mono ?_);rintro e w7 ⟨g7,c7,rfl,q7,q8,q9,q10,q11⟩;have HB7:=hI (bchain (HI7.o _ rfl).2 q11);have HG7:=hI (And.intro q9 q10);clear q9 q10 q11)
 go_upto_region 9 with fail;obtain⟨W8,hW8⟩:=eY ((w7.alloc (.cells #[.int .i64 100,.int .i64 60,.int .i64 10] 89)).alloc (.cells #[.slice (some ⟨w7.heap.size,0,none⟩) 1 1,.int .i64 30,.int .i64 100] 74));obtain⟨x1,x2,x3⟩:=two_at w7 (.cells #[.int .i64 100,.int .i64 60,.int .i64 10] 89) (.cells #[.slice (some ⟨w7.heap.size,0,none⟩) 1 1,.int .i64 30,.int .i64 100] 74);rw[<- hW8] at x1 x2 x3 ⊢;have HB8:=hI x3;obtain⟨rb,hrb⟩:=eX w7.heap.size;rw[hrb] at x1 x2;rw[hrb];have HR8:=hI x1;have r0:=kC 0 x2 rfl;have r1:=kC 1 x2 rfl;have r2:=kC 2 x2 rfl;have hrl:=blk_lt x2;clear hW8 x1 x2 x3 hrb;have HN9:=hI (next_at W8 rb HR8.o);go_upto_region 10 with(go_at_call 49;go_loud (refine(HN9.o _ rfl).mono ?_);rintro e w9 ⟨rfl,q9⟩;have HB9:=hI (bchain (ba W8 _) q9);clear q9)
 obtain⟨W9,hW9,hb9,hq9,hs9⟩:=alloc_it w9 (.cells #[.string ⟨#[97,110,110]⟩,.int .i64 100,.int .i64 1390,.int .i64 1450,.int .i64 1460] 84);rw[<- hW9];obtain⟨db,hdb⟩:=eX w9.heap.size;rw[hdb] at hq9;rw[hdb];have HD9:=hI hq9;have HB79:=hI (bchain HB8.o (bchain HB9.o hb9));have HB59:=hI (bchain HB6.o (bchain HB7.o HB79.o));have HB5w:=hI (bchain HB5'.o HB59.o);have HB49:=hI (bchain HB5.o HB5w.o);have HB29:=hI (bchain HB3.o (bchain HB34.o HB49.o));have HB9w:=hI (show Bl w W9 from bchain HB1'.o (bchain HB2.o HB29.o));have ho9:=heap_in HB59.o HQ5.o;have o1:=kC 1 ho9 rfl;have g2:=cell_in HB5w.o HG5.o.1;have y0:=cell_in HB79.o HG7.o.1.1;have y1:=cell_in HB79.o HG7.o.1.2.1;have y2:=cell_in HB79.o HG7.o.1.2.2;have y3:=cell_in HB79.o HG7.o.2.1;have y4:=cell_in HB79.o HG7.o.2.2.1;have y5:=cell_in HB79.o HG7.o.2.2.2;have hg5l:=World.block_lt_of_cell? W9 _ g2;have hg7l:=World.block_lt_of_cell? W9 _ y0;have hol:=blk_lt ho9
 clear hW9 hb9 hq9 hs9 hdb ho9;go_upto_region 14 with fail;have HI1:=hI (fun(X:World)=>ints_at W9 X 0 4 7 A2 c2 (sl_in HB29.o HA2.o));clear o1 g2 y0 y1 y2 y3 y4 y5;go_wp2_with (go_at_call 19;fail)
 go_loud (refine(HI1.o _ rfl).mono ?_)
 rintro e w10 ⟨rfl,q10⟩;have HB10:=hI q10;have hs10:=q10.size;have HA10:=hI (sl_in (bchain HB5w.o q10) HA5.o);have HI2:=hI (fun(X:World)=>ints_at w10 X 7 11 12 A5 ac5 HA10.o);have hf:=heap_in (bchain HB49.o q10) HQ4.o;have f0:=kC 0 hf rfl;have f1:=kC 1 hf rfl;have f2:=kC 2 hf rfl;clear hf q10;go_wp2_with (go_at_call 19;fail)
 go_loud (refine(HI2.o _ rfl).mono ?_)
 rintro e w11 ⟨rfl,q11⟩;have hs11:=q11.size;have HBe:=hI (bchain HB10.o q11);have hol11:ob<w11.heap.size:=by omega
 have hg511:g5<w11.heap.size:=by omega
 have o1:=kC 1 (heap_in HBe.o (heap_in HB59.o HQ5.o)) rfl;have g2:=cell_in HBe.o (cell_in HB5w.o HG5.o.1);have h0:=cell_in HBe.o (cell_in HB5w.o HG5.o.2.1);have h1:=cell_in HBe.o (cell_in HB5w.o HG5.o.2.2);have hd:=heap_in HBe.o HD9.o;have d0:=kC 0 hd rfl;have d1:=kC 1 hd rfl;have d2:=kC 2 hd rfl;have d3:=kC 3 hd rfl;have d4:=kC 4 hd rfl;clear hd q11;go_wp2;go_ret;exact⟨rfl,bchain HB9w.o HBe.o⟩
end Go.Proofs.YtjpgnfekbojcaaaGreat
namespace Go.Proofs.YtjpgnfekbojcaaaGreat
open Go.RowKit W7 W8
theorem dIns:DInsAll:=fun w g1 g2 b1 b2 h1 h2 h3 h4=>by
 show Calls Tryz.prog 32 _ w _
 have hl:LnIn w w.heap.size (lineX (some ⟨g1,0,none⟩) 1 (some ⟨g2,0,none⟩) 2):=⟨sl_blk (enc:=encInt1) (fun _=>rfl) h1 rfl (blk_lt h1),sl_blk (enc:=encInt1) (fun _=>rfl) h2 rfl (blk_lt h2),zM rfl,zM rfl,zM rfl,zM rfl⟩
 have ht:TabIn w w.heap.size (some ⟨b2,0,none⟩) 1 1 [⟨some ⟨b1,0,none⟩,2,[⟨0,0,0⟩,⟨1,3,5⟩]⟩]:=⟨rfl,zm _,by decide,sl_blk (enc:=encWay) (fun _=>rfl) h4 rfl (blk_lt h4),fun x hx=>by
  rw[zN.1 hx];exact⟨sl_blk (enc:=encCall) (fun _=>rfl) h3 rfl (blk_lt h3),zM rfl,zM rfl⟩⟩
 refine(Insert_any _ _ (some ⟨b2,0,none⟩) 1 1 w.heap.size ⟨1,0,0⟩ w hl ht (zm _)).mono ?_;rintro e w' ⟨⟨v,rfl,ho⟩,hbel⟩;have hV:insV (lineX (some ⟨g1,0,none⟩) 1 (some ⟨g2,0,none⟩) 2) (tabP [⟨some ⟨b1,0,none⟩,2,[⟨0,0,0⟩,⟨1,3,5⟩]⟩]) ⟨1,0,0⟩=[⟨1,6,6⟩,⟨0,9,9⟩]:=dig_insV _ _ _ _;have hE:insErr (lineX (some ⟨g1,0,none⟩) 1 (some ⟨g2,0,none⟩) 2) (tabP [⟨some ⟨b1,0,none⟩,2,[⟨0,0,0⟩,⟨1,3,5⟩]⟩]) ⟨1,0,0⟩=0:=dig_ins _ _ _ _;rw[hV] at ho;rw[hE];obtain⟨g,c,rfl,_⟩:=own_form ho (by show 0<2;decide);obtain⟨c1,c2⟩:=own_cap2 ho;exact⟨g,c,rfl,c1,c2,⟨ho.cellAt 0 (by show 0<2*3;decide),ho.cellAt 1 (by show 1<2*3;decide),ho.cellAt 2 (by show 2<2*3;decide)⟩,⟨ho.cellAt 3 (by show 3<2*3;decide),ho.cellAt 4 (by show 4<2*3;decide),ho.cellAt 5 (by show 5<2*3;decide)⟩,hbel⟩
theorem digs_any (w:World):Calls Tryz.prog 16 #[] w fun e w'=>e= .returned (.bool true)/\Bl w w':=digs1_any dIns w
end Go.Proofs.YtjpgnfekbojcaaaGreat
