/- Works: the closed examples of the law (digs). -/
import Derived.Test.YtjpgnfekbojcaaaGreatWDigV
set_option maxHeartbeats 8000000
set_option maxRecDepth 100000
namespace Go.Proofs.YtjpgnfekbojcaaaGreat
open Go.RowKit W7 W8
attribute [local go_sem] Oper.semAt_some
def DIns (w:World) (g1 g2 b2:Nat):Prop:=
  Calls Tryz.prog 32 #[.agg #[.slice (some ⟨g1,0,none⟩) 1 1,.slice (some ⟨g2,0,none⟩) 2 2],.slice (some ⟨b2,0,none⟩) 1 1,.agg #[.int .i64 1,.int .i64 0,.int .i64 0]] w fun e w'=>∃g c,e= .returned (.tuple #[.slice (some ⟨g,0,none⟩) 2 c,.int .i64 0])/\2<=c/\c<=9223372036854775807/\(w'.cell? ⟨g,0,none⟩=some (.int .i64 1)/\w'.cell? ⟨g,1,none⟩=some (.int .i64 6)/\w'.cell? ⟨g,2,none⟩=some (.int .i64 6))/\(w'.cell? ⟨g,3,none⟩=some (.int .i64 0)/\w'.cell? ⟨g,4,none⟩=some (.int .i64 9)/\w'.cell? ⟨g,5,none⟩=some (.int .i64 9))/\Bl w w'
def DInsAll:Prop:=∀(w:World) (g1 g2 b1 b2:Nat),w.heap[g1]? =some (.cells #[.int .i64 3] 3 (0,0))->w.heap[g2]? =some (.cells #[.int .i64 1,.int .i64 1] 3 (0,0))->w.heap[b1]? =some (.cells #[.int .i64 0,.int .i64 0,.int .i64 0,.int .i64 1,.int .i64 3,.int .i64 5] 66 (0,0))->w.heap[b2]? =some (.cells #[.slice (some ⟨b1,0,none⟩) 2 2] 59 (0,0))->DIns w g1 g2 b2
theorem alloc_it (w:World) (o:Obj):∃W,W=w.alloc o/\Bl w W/\W.heap[w.heap.size]? =some o/\W.heap.size=w.heap.size+1:=
 ⟨_,rfl,(Below.refl _ _).alloc (Nat.le_refl _) _,heap_alloc_new _ _,by simp⟩
theorem two_at (w:World) (a b:Obj):((w.alloc a).alloc b).heap[w.heap.size]? =some a/\((w.alloc a).alloc b).heap[w.heap.size+1]? =some b/\Below w.heap.size w ((w.alloc a).alloc b):=
 ⟨by have:=allocs_at [a,b] w 0 (by simp);rw[Nat.add_zero] at this;exact this,allocs_at [a,b] w 1 (by simp),(allocs_below [a,b] w).1⟩
theorem bchain {a b c:World} (h:Bl a b) (k:Bl b c):Bl a c:=h.trans (k.mono h.size)
theorem ba (w:World) (o:Obj):Below w.heap.size w (w.alloc o):=(Below.refl _ _).alloc (Nat.le_refl _) _
theorem heap_in {a b:World} {i:Nat} {o:Obj} (h:Bl a b) (hi:a.heap[i]? =some o):b.heap[i]? =some o:=(h.block i (blk_lt hi)).trans hi
theorem cell_in {a b:World} {p:Addr} {v:Value} (h:Bl a b) (hi:a.cell? p=some v):b.cell? p=some v:=(h.cell (World.block_lt_of_cell? a _ hi)).trans hi
theorem sl_in {α:Type} {enc:α->List Value} {k:Nat} {a b:World} {A:Option Addr} {xs:List α} (h:Bl a b) (hs:Sl a a.heap.size k enc A xs):Sl b b.heap.size k enc A xs:=(hs.below h).mono h.size
theorem ins_at (HIns:DInsAll) (W6:World) (l0:Nat) (h0:W6.heap[l0]? =some (.cells #[.int .i64 3] 3 (0,0))) (h1:W6.heap[l0+1]? =some (.cells #[.int .i64 1,.int .i64 1] 3 (0,0))) (X:World)
  (hX:X=(W6.alloc (.cells #[.int .i64 0,.int .i64 0,.int .i64 0,.int .i64 1,.int .i64 3,.int .i64 5] 66)).alloc (.cells #[.slice (some ⟨W6.heap.size,0,none⟩) 2 2] 59)):DIns X l0 (l0+1) (W6.heap.size+1)/\Bl W6 X:=by
 obtain⟨x1,x2,x3⟩:=two_at W6 (.cells #[.int .i64 0,.int .i64 0,.int .i64 0,.int .i64 1,.int .i64 3,.int .i64 5] 66) (.cells #[.slice (some ⟨W6.heap.size,0,none⟩) 2 2] 59);rw[<- hX] at x1 x2 x3;exact⟨HIns X l0 (l0+1) W6.heap.size (W6.heap.size+1) (heap_in x3 h0) (heap_in x3 h1) x1 x2,x3⟩
theorem next_at (W8:World) (rb:Nat) (h:W8.heap[rb]? =some (.cells #[.int .i64 100,.int .i64 60,.int .i64 10] 89 (0,0))) (X:World) (hX:X=W8.alloc (.cells #[.string ⟨#[97,110,110]⟩,.int .i64 100,.int .i64 0,.int .i64 50,.int .i64 60] 84)) :
  Calls Tryz.prog 49 #[.agg #[.slice (some ⟨rb,0,none⟩) 1 1,.int .i64 30,.int .i64 100],.slice (some ⟨W8.heap.size,0,none⟩) 1 1,.string ⟨#[97,110,110]⟩,.int .i64 100,.int .i64 60,.int .i64 0] X (fun e w'=>e= .returned (.tuple #[.agg #[.string ⟨#[97,110,110]⟩,.int .i64 100,.int .i64 1390,.int .i64 1450,.int .i64 1460],.int .i64 0])/\Bl X w'):=by
 refine dNext rb W8.heap.size X ?_ ?_
 ·rw[hX];exact heap_in (ba W8 _) h
 ·rw[hX];exact heap_alloc_new _ _
theorem ints_at (W X:World) (a b c:Int) (A:Option Addr) (k:Nat) (hA:Sl W W.heap.size 1 encInt1 A [a,b,c]) (hX:X=W.alloc (.cells #[.int .i64 a,.int .i64 b,.int .i64 c] 3)) :
  Calls Tryz.prog 19 #[.slice A 3 k,.slice (some ⟨W.heap.size,0,none⟩) 3 3] X (fun e w'=>e= .returned (.bool true)/\Bl W w'):=by
 have hb:Bl W X:=by rw[hX];exact ba W _
 have hq:X.heap[W.heap.size]? =some (.cells #[.int .i64 a,.int .i64 b,.int .i64 c] 3 (0,0)):=by rw[hX];exact heap_alloc_new _ _
 refine(lawInts_any [a,b,c] A (some ⟨W.heap.size,0,none⟩) 3 k 3 X.heap.size X rfl (sl_in hb hA) (sl_blk (enc:=encInt1) (fun _=>rfl) hq rfl (blk_lt hq)) (Nat.le_refl _) (by decide)).mono ?_;rintro e w' ⟨rfl,h⟩;exact⟨rfl,bchain hb h⟩
theorem digs1_any (hIns:DInsAll) (w:World):Calls Tryz.prog 16 #[] w fun e w'=>e= .returned (.bool true)/\Bl w w':=by
 have HIns:=hI hIns;clear hIns;have HRig:=hI (rig_any w);go_enter Tryz.func16,Tryz.ntmps16;go_upto_region 2 with(go_at_call 57;go_loud (refine HRig.o.mono ?_);rintro e w1 ⟨rfl,hj,hb1⟩;have HJ:=hI (show ∀X,Bl w1 X->JIn X X.heap.size (rigJ w.heap.size) from fun X hX=>(hj.below hX).mono hX.size);have HB1:=hI hb1;clear hj hb1)
 obtain⟨W1,hW1,hb,hq,hs⟩:=alloc_it w1 (.cells #[.slice (some ⟨w.heap.size+6,0,none⟩) 3 3,.slice (some ⟨w.heap.size+3,0,none⟩) 1 1] 25);rw[<- hW1];obtain⟨jb,hjb⟩:∃x,w1.heap.size=x:=⟨_,rfl⟩
 rw[hjb] at hq;rw[hjb];have HK1:=hI (show ∀X,Bl W1 X->X.heap[jb]? =some (.cells #[.slice (some ⟨w.heap.size+6,0,none⟩) 3 3,.slice (some ⟨w.heap.size+3,0,none⟩) 1 1] 25 (0,0))/\JIn X X.heap.size (rigJ w.heap.size) from fun X hX=>⟨heap_in hX hq,HJ.o X (bchain hb hX)⟩);have HB1':=hI (show Bl w W1 from bchain HB1.o hb);have hjl:=blk_lt hq;have j0:=W7.bc (j:=0) hq rfl;have j1:=W7.bc (j:=1) hq rfl;clear hW1 hb hq hs HB1 HJ hjb;go_upto_region 3 with(go_at_call 17;go_loud (refine(dSer w.heap.size W1.heap.size _ (HK1.o _ (ba _ _)).2 (heap_alloc_new _ _)).mono ?_);rintro e w2 ⟨A2,c2,rfl,q1,q2,q3,q4⟩;have HB2:=hI (bchain (ba W1 _) q4);have HA2:=hI q3;have hs2:=HB2.o.size;clear q3 q4)
 have hq:=(HK1.o w2 HB2.o).1;have HL:=hI (dLen w.heap.size c2 A2 w2 (HK1.o w2 HB2.o).2 HA2.o q1 q2);clear j0 j1;have j0:=W7.bc (j:=0) hq rfl;have j1:=W7.bc (j:=1) hq rfl;clear hq;go_upto_region 4 with(go_at_call 39;go_loud (refine HL.o.mono ?_);rintro e w3 ⟨rfl,q3⟩;have HB3:=hI q3;clear q3)
 have HB13:=hI (bchain HB2.o HB3.o);have hq:=(HK1.o w3 HB13.o).1;have HL4:=hI (dLeast w.heap.size w3 (HK1.o w3 HB13.o).2);clear j0 j1;have j0:=W7.bc (j:=0) hq rfl;have j1:=W7.bc (j:=1) hq rfl;clear hq;have hs3:=HB13.o.size;go_upto_region 5 with(go_at_call 51;go_loud (refine HL4.o.mono ?_);rintro e w4 ⟨A4,c4,rfl,q3⟩;have HB4:=hI q3;clear q3)
 obtain⟨W4,hW4,hb,hq4,hs4⟩:=alloc_it w4 (.cells #[.int .i64 9,.slice A4 0 c4,.int .i64 0] 92);rw[<- hW4];have HB34:=hI (bchain HB4.o hb);have HB14:=hI (bchain HB13.o HB34.o);obtain⟨fb,hfb⟩:∃x,w4.heap.size=x:=⟨_,rfl⟩
 rw[hfb] at hq4;rw[hfb];have HQ4:=hI hq4;have hq:=(HK1.o W4 HB14.o).1;clear j0 j1 hW4 hb hq4 hs4 hfb;have j0:=W7.bc (j:=0) hq rfl;have j1:=W7.bc (j:=1) hq rfl;clear hq;have hs14:=HB14.o.size;have hfl:=blk_lt HQ4.o;go_upto_region 6 with(go_at_call 22;go_loud (refine(dFail w.heap.size W4.heap.size _ (HK1.o _ (bchain HB14.o (ba _ _))).2 (heap_alloc_new _ _)).mono ?_);rintro e w5 ⟨TA5,tn5,tc5,g5,h5,c5,oc5,A5,ac5,rfl,q3,q4,q5,q6,q7,q8,q9,q10,q11,q12,q13⟩;have HB5:=hI (bchain (ba W4 _) q13);have HA5:=hI q12;have HG5:=hI (And.intro q7 (And.intro q8 q9));clear q7 q8 q9 q12 q13)
 obtain⟨W5,hW5,hb5,hq5,hs5⟩:=alloc_it w5 (.cells #[.slice TA5 tn5 tc5,.slice (some ⟨g5,0,none⟩) 1 c5] 25);rw[<- hW5];obtain⟨ob,hob⟩:∃x,w5.heap.size=x:=⟨_,rfl⟩
 rw[hob] at hq5;rw[hob];have HQ5:=hI hq5;have HB5':=hI hb5;clear hW5 hb5 hq5 hs5 hob j0 j1;have HBfb:=hI (bchain HB5.o HB5'.o);go_upto_region 7 with fail;obtain⟨W6,hW6⟩:∃W6,W6=((W5.alloc (.cells #[.int .i64 3] 3)).alloc (.cells #[.int .i64 1,.int .i64 1] 3)).alloc (.cells #[.slice (some ⟨W5.heap.size,0,none⟩) 1 1,.slice (some ⟨W5.heap.size+1,0,none⟩) 2 2] 52):=⟨_,rfl⟩
 have hb6:Bl W5 W6/\W6.heap.size=W5.heap.size+3:=by rw[hW6];exact allocs_below [.cells #[.int .i64 3] 3,.cells #[.int .i64 1,.int .i64 1] 3,.cells #[.slice (some ⟨W5.heap.size,0,none⟩) 1 1,.slice (some ⟨W5.heap.size+1,0,none⟩) 2 2] 52] W5
 have ha6:∀i,i<3->W6.heap[W5.heap.size+i]? =[Obj.cells #[.int .i64 3] 3 (0,0),.cells #[.int .i64 1,.int .i64 1] 3 (0,0),.cells #[.slice (some ⟨W5.heap.size,0,none⟩) 1 1,.slice (some ⟨W5.heap.size+1,0,none⟩) 2 2] 52 (0,0)][i]? :=by rw[hW6];exact allocs_at [.cells #[.int .i64 3] 3,.cells #[.int .i64 1,.int .i64 1] 3,.cells #[.slice (some ⟨W5.heap.size,0,none⟩) 1 1,.slice (some ⟨W5.heap.size+1,0,none⟩) 2 2] 52] W5
 have HL0:=hI (show W6.heap[W5.heap.size]? =some (.cells #[.int .i64 3] 3 (0,0)) from ha6 0 (by decide));have HL1:=hI (show W6.heap[W5.heap.size+1]? =some (.cells #[.int .i64 1,.int .i64 1] 3 (0,0)) from ha6 1 (by decide));have hl2:W6.heap[W5.heap.size+2]? =some (.cells #[.slice (some ⟨W5.heap.size,0,none⟩) 1 1,.slice (some ⟨W5.heap.size+1,0,none⟩) 2 2] 52 (0,0)):=ha6 2 (by decide);rw[<- hW6];have HB6:=hI hb6.1;obtain⟨lb,hl0⟩:∃x,W5.heap.size=x:=⟨_,rfl⟩
 rw[hl0] at hl2 HL0 HL1;rw[hl0];have l0:=W7.bc (j:=0) hl2 rfl;have l1:=W7.bc (j:=1) hl2 rfl;have hll:=blk_lt hl2;clear hW6 ha6 hl2 hb6 hl0;have HI7:=hI (ins_at HIns.o W6 lb HL0.o HL1.o);go_upto_region 8 with(go_at_call 32;go_loud (refine(HI7.o _ rfl).1.mono ?_);rintro e w7 ⟨g7,c7,rfl,q7,q8,q9,q10,q11⟩;have HB7:=hI (bchain (HI7.o _ rfl).2 q11);have HG7:=hI (And.intro q9 q10);clear q9 q10 q11)
 go_upto_region 9 with fail;obtain⟨W8,hW8⟩:∃W8,W8=(w7.alloc (.cells #[.int .i64 100,.int .i64 60,.int .i64 10] 89)).alloc (.cells #[.slice (some ⟨w7.heap.size,0,none⟩) 1 1,.int .i64 30,.int .i64 100] 74):=⟨_,rfl⟩
 obtain⟨x1,x2,x3⟩:=two_at w7 (.cells #[.int .i64 100,.int .i64 60,.int .i64 10] 89) (.cells #[.slice (some ⟨w7.heap.size,0,none⟩) 1 1,.int .i64 30,.int .i64 100] 74);rw[<- hW8] at x1 x2 x3 ⊢;have HB8:=hI x3;obtain⟨rb,hrb⟩:∃x,w7.heap.size=x:=⟨_,rfl⟩
 rw[hrb] at x1 x2;rw[hrb];have HR8:=hI x1;have r0:=W7.bc (j:=0) x2 rfl;have r1:=W7.bc (j:=1) x2 rfl;have r2:=W7.bc (j:=2) x2 rfl;have hrl:=blk_lt x2;clear hW8 x1 x2 x3 hrb;have HN9:=hI (next_at W8 rb HR8.o);go_upto_region 10 with(go_at_call 49;go_loud (refine(HN9.o _ rfl).mono ?_);rintro e w9 ⟨rfl,q9⟩;have HB9:=hI (bchain (ba W8 _) q9);clear q9)
 obtain⟨W9,hW9,hb9,hq9,hs9⟩:=alloc_it w9 (.cells #[.string ⟨#[97,110,110]⟩,.int .i64 100,.int .i64 1390,.int .i64 1450,.int .i64 1460] 84);rw[<- hW9];obtain⟨db,hdb⟩:∃x,w9.heap.size=x:=⟨_,rfl⟩
 rw[hdb] at hq9;rw[hdb];have HD9:=hI hq9;have HB79:=hI (bchain HB8.o (bchain HB9.o hb9));have HB59:=hI (bchain HB6.o (bchain HB7.o HB79.o));have HB5w:=hI (bchain HB5'.o HB59.o);have HB49:=hI (bchain HB5.o HB5w.o);have HB29:=hI (bchain HB3.o (bchain HB34.o HB49.o));have HB9w:=hI (show Bl w W9 from bchain HB1'.o (bchain HB2.o HB29.o));have ho9:=heap_in HB59.o HQ5.o;have o1:=bc (j:=1) ho9 rfl;have g2:=cell_in HB5w.o HG5.o.1;have y0:=cell_in HB79.o HG7.o.1.1;have y1:=cell_in HB79.o HG7.o.1.2.1;have y2:=cell_in HB79.o HG7.o.1.2.2;have y3:=cell_in HB79.o HG7.o.2.1;have y4:=cell_in HB79.o HG7.o.2.2.1;have y5:=cell_in HB79.o HG7.o.2.2.2;have hg5l:=World.block_lt_of_cell? W9 _ g2;have hg7l:=World.block_lt_of_cell? W9 _ y0;have hol:=blk_lt ho9;clear hW9 hb9 hq9 hs9 hdb ho9;go_upto_region 14 with fail;have HI1:=hI (fun(X:World)=>ints_at W9 X 0 4 7 A2 c2 (sl_in HB29.o HA2.o));clear o1 g2 y0 y1 y2 y3 y4 y5
 go_wp2_with (go_at_call 19;fail)
 go_loud (refine(HI1.o _ rfl).mono ?_)
 rintro e w10 ⟨rfl,q10⟩;have HB10:=hI q10;have hs10:=q10.size;have HA10:=hI (sl_in (bchain HB5w.o q10) HA5.o);have HI2:=hI (fun(X:World)=>ints_at w10 X 7 11 12 A5 ac5 HA10.o);have hf:=heap_in (bchain HB49.o q10) HQ4.o;have f0:=W7.bc (j:=0) hf rfl;have f1:=W7.bc (j:=1) hf rfl;have f2:=W7.bc (j:=2) hf rfl;clear hf q10;go_wp2_with (go_at_call 19;fail)
 go_loud (refine(HI2.o _ rfl).mono ?_)
 rintro e w11 ⟨rfl,q11⟩;have hs11:=q11.size;have HBe:=hI (bchain HB10.o q11);have hol11:ob<w11.heap.size:=by omega
 have hg511:g5<w11.heap.size:=by omega
 have o1:=bc (j:=1) (heap_in HBe.o (heap_in HB59.o HQ5.o)) rfl;have g2:=cell_in HBe.o (cell_in HB5w.o HG5.o.1);have h0:=cell_in HBe.o (cell_in HB5w.o HG5.o.2.1);have h1:=cell_in HBe.o (cell_in HB5w.o HG5.o.2.2);have hd:=heap_in HBe.o HD9.o;have d0:=W7.bc (j:=0) hd rfl;have d1:=W7.bc (j:=1) hd rfl;have d2:=W7.bc (j:=2) hd rfl;have d3:=W7.bc (j:=3) hd rfl;have d4:=W7.bc (j:=4) hd rfl;clear hd q11;go_wp2;go_ret;exact⟨rfl,bchain HB9w.o HBe.o⟩
end Go.Proofs.YtjpgnfekbojcaaaGreat
namespace Go.Proofs.YtjpgnfekbojcaaaGreat
open Go.RowKit W7 W8
theorem section_any (a b:Int) (w:World):Calls Tryz.prog 147 #[.int .i64 a,.int .i64 b] w fun e w'=>e= .returned (.int .i64 (min a b))/\w=w':=by
 have hmn:=min_run Tryz.prog;go_enter Tryz.func147,Tryz.ntmps147;go_wp2;go_ret;exact⟨rfl,rfl⟩
end Go.Proofs.YtjpgnfekbojcaaaGreat
