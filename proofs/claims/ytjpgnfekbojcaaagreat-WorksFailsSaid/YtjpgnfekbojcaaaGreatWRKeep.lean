/- The specification's test whether a schedule keeps a job: Keeps. -/
import Derived.Test.YtjpgnfekbojcaaaGreatWJLaw4
import Derived.Test.YtjpgnfekbojcaaaGreatWDig2
import Derived.Test.YtjpgnfekbojcaaaGreatWIns
import Derived.Test.YtjpgnfekbojcaaaGreatRows
import Derived.JoinedOf
import Derived.ProofKit
set_option maxHeartbeats 8000000
set_option maxRecDepth 100000
namespace W8
open W7
theorem no_self {j:JobP} (h:jobErr j=0):∀n,n<j.tasks.length->∀q∈(j.tasks.getD n default).needs,q.toNat≠n:=fun n hn q hq e=>by
 have:=rank_needs h hn hq;rw[e] at this;omega
theorem keep_times {j:JobP} {st:List Int} (hl:st.length=j.tasks.length) (h:∀i,i<j.tasks.length->isTm (st.getD i 0)=true):∀i,0<=st.getD i 0/\st.getD i 0<=100000:=fun i=>by
 by_cases hi:i<j.tasks.length
 ·exact isTm_true.1 (h i hi)
 ·rw[List.getD_eq_getElem?_getD,List.getElem?_eq_none (by omega)];exact⟨by decide,by decide⟩
theorem keepsX_iff {j:JobP} (h:jobErr j=0) {st:List Int} (hl:st.length=j.tasks.length):(∀i,i<j.tasks.length->fitsX j ⟨st,butB i j.tasks.length⟩ i (st.getD i 0)=true)↔keepsV j st=true:=by
 have hG:=good_of h;rw[keepsV_iff hG,<-keepsR_iff hG (no_self h)];unfold keepsR;rw[List.all_eq_true];simp only[List.mem_range]
 constructor
 ·intro h1 i hi
  have ht:=keep_times hl (fun k hk=>by
   have h2:=h1 k hk;unfold fitsX at h2;simp only[Bool.and_eq_true] at h2;exact h2.1.1.1)
  rw[<- fitsX_eq hG (b:=⟨st,butB i j.tasks.length⟩) ht hi];exact h1 i hi
 ·intro h1 i hi;have ht:=keep_times hl (fun k hk=>(fitsR_iff.1 (h1 k hk)).1);rw[fitsX_eq hG (b:=⟨st,butB i j.tasks.length⟩) ht hi];exact h1 i hi
theorem kfirstB_zero (n:Nat):firstB 0 n=List.replicate n false:=by
 apply List.ext_getElem
 ·simp[firstB]
 ·intro i h1 h2;simp[firstB]
theorem kfirstB_full (n:Nat):firstB n n=List.replicate n true:=by
 apply List.ext_getElem
 ·simp[firstB]
 ·intro i h1 h2;simp[firstB] at h1 ⊢;exact h1
theorem kfirstB_step {i n:Nat}:(firstB i n).set i true=firstB (i+1) n:=by
 apply List.ext_getElem
 ·simp[firstB]
 ·intro k h1 h2;simp[firstB,List.getElem_set] at h1 ⊢
  by_cases e:i=k
  ·simp[e]
  ·simp[e];omega
theorem kbutB_out {i n:Nat}:(List.replicate n true).set i false=butB i n:=by
 apply List.ext_getElem
 ·simp[butB]
 ·intro k h1 h2;simp[butB,List.getElem_set] at h1 ⊢
  by_cases e:i=k
  ·simp[e]
  ·simp[e];exact fun h=>e h.symm
theorem kbutB_in {i n:Nat}:(butB i n).set i true=List.replicate n true:=by
 apply List.ext_getElem
 ·simp[butB]
 ·intro k h1 h2;simp[butB,List.getElem_set] at h1 ⊢
  by_cases e:i=k
  ·simp[e]
  ·simp[e];exact fun h=>e h.symm
theorem kfirstB_length (i n:Nat):(firstB i n).length=n:=by simp[firstB]
theorem kbutB_length (i n:Nat):(butB i n).length=n:=by simp[butB]
end W8
namespace Go.Proofs.YtjpgnfekbojcaaaGreat
open Go.RowKit W7 W8
attribute [local go_sem] Oper.semAt_some
theorem arr_setB (l:List Bool) (i:Nat) (x:Bool):(l.map Value.bool).toArray.setIfInBounds i (.bool x)=((l.set i x).map Value.bool).toArray:=by simp[List.map_set]
theorem refkeeps_any (j:Job) (st:List Int) (SA:Option Addr) (sc n B:Nat) (w:World) (hj:JIn w B j) (hB:B<=w.heap.size) (hS:Sl w B 1 encInt1 SA st) (hn:j.tasks.length=n) (hl:st.length=n) (h0:jobErr j.p=0)
  (hr:∀i, -9223372036854775808<=st.getD i 0/\st.getD i 0<=9223372036854775807) :
  Calls Tryz.prog 68 #[jobV j,.slice SA n sc] w fun e w'=>e= .returned (.bool (keepsV j.p st))/\Bl w w':=by
 have hG:=good_of h0;have hn64:n<=64:=by have:=hG.nt;rw[j.nt,hn] at this;exact this
 obtain⟨TA,hTA⟩:∃x,j.TA=x:=⟨_,rfl⟩
 have htl:=hj.tl;have htc:=hj.tc;rw[hn] at htl;have hjv:jobV j= .agg #[.slice TA n j.tc,.slice j.RA j.res.length j.rc]:=by unfold jobV;rw[hn,hTA]
 have hjn:j.p.tasks.length=n:=by rw[j.nt,hn]
 obtain⟨kv,hkv⟩:∃x,keepsV j.p st=x:=⟨_,rfl⟩
 rw[hkv];obtain⟨W0,HW0,hs0,HB0,HX00,HU0⟩:=boxes1 w (.cells #[.slice TA n j.tc,.slice j.RA j.res.length j.rc] 25)
 have HFt:=hI (fun(X:World) (hX:Bl W0 X) (pb i:Nat) (hi:i<n) (hp:X.heap[pb]? =some (.cells ((butB i n).map Value.bool).toArray 4 (0,0)))=>show Calls Tryz.prog 137 #[.agg #[.slice TA n j.tc,.slice j.RA j.res.length j.rc],.slice SA n sc,.slice (some ⟨pb,0,none⟩) n n,.int .i64 (i:Int),.int .i64 (st.getD i 0)] X fun e w'=>e= .returned (.bool (fitsX j.p ⟨st,butB i n⟩ i (st.getD i 0)))/\Bl X w' from by
  have h:=refFitsX_any j ⟨st,butB i n⟩ SA sc pb n i (st.getD i 0) B X (hj.below ((HU0.o X hX).mono hB)) (by have:=hX.size;omega) ⟨(hS.below ((HU0.o X hX).mono hB)).mono (by have:=hX.size;omega),hp,hl,kbutB_length i n⟩ hn hG hr hi;rw[hjv] at h;exact h)
 have HSc:=hI (show ∀X:World,Bl W0 X->∀i,i<n->∃sb so,SA=some ⟨sb,so,none⟩/\sb<W0.heap.size/\X.cell? ⟨sb,so+i,none⟩=some (.int .i64 (st.getD i 0)) from fun X hX i hi=>by
  obtain⟨sb,so,h1,h2,h3⟩:=(hS.below ((HU0.o X hX).mono hB)) (by omega)
  have h:=h3 i (by omega) 0 _ rfl;rw[Nat.mul_one,Nat.add_zero] at h;refine⟨sb,so,h1,by omega,?_⟩;rw[h,List.getD_eq_getElem?_getD,List.getElem?_eq_getElem (by omega)]
  rfl)
 have HYes:=hI (fun(h:∀i,i<n->fitsX j.p ⟨st,butB i n⟩ i (st.getD i 0)=true)=>show kv=true from by
  rw[<- hkv];refine(keepsX_iff h0 (by rw[hl,hjn])).1 (fun i hi=> ?_);rw[hjn] at hi ⊢;exact h i hi)
 have HNo:=hI (fun(i:Nat) (hi:i<n) (h:fitsX j.p ⟨st,butB i n⟩ i (st.getD i 0)=false)=>show kv=false from by
  rw[<- hkv,Bool.eq_false_iff];intro hk;have h9:=(keepsX_iff h0 (by rw[hl,hjn])).2 hk i (by rw[hjn];exact hi);rw[hjn,h] at h9;cases h9)
 obtain⟨i2,hi2,hi2a,hi2b,hi2c⟩:=info_parts (show(Tryz.prog.info? 4).map (fun i=>(i.zero,i.size,i.bytes))=some (some (.bool false),1,1) by kernel_rfl);have HX:=HX00;have q0:=W7.bc (j:=0) (HX00.o W0 (Below.refl _ _)) rfl;rw[hjv];clear hj hS hn hl h0 hG hTA hjv hjn hkv hr;go_enter Tryz.func68,Tryz.ntmps68;go_upto_region 1 with fail;rw[<- HW0.o];go_wp2_with (at_make;refine wpList_make_full _ rfl _ _ 113 rfl W0.heap.size 4 _ (.bool false) 1 Tryz.underlying113 hi2 hi2a hi2b .i64 .i64 _ _ n rfl rfl rfl rfl (by rw[hi2c];omega) (by unfold maxLen;omega) (Nat.le_refl _) ?_;intro w1 hown1 hg1;have Hb1:=hI ((Below.refl W0.heap.size W0).grown hg1 (Nat.le_refl _) (fun k hk=>by cases hk));have Hn1:=hI (made_blk (Nat.le_refl _) hown1);clear hown1 hg1);obtain⟨pb,hpb⟩:∃pb,w.heap.size+1=pb:=⟨_,rfl⟩
 have HP1:=hI (show w1.heap[pb]? =some (.cells ((firstB 0 n).map Value.bool).toArray 4 (0,0)) by
  have h:=Hn1.o.2;rw[hs0,hpb] at h;rw[kfirstB_zero,List.map_replicate];exact h)
 have hpg:W0.heap.size<=pb:=by omega
 rw[hpb];clear q0 Hn1 hpb;go_loopw [6] (fun v6 wr=>∃i:Nat,i<=n/\v6= .int .i64 i/\Hid (wr.heap[pb]? =some (.cells ((firstB i n).map Value.bool).toArray 4 (0,0)))/\Hid (Bl W0 wr)) (fun v6 _=>n-(intOf v6).toNat);case atStart=>exact⟨0,by omega,rfl,HP1,Hb1⟩
 case round=>
  obtain⟨i,hi,rfl,HP,Hb⟩:=hrel;have hsr:=Hb.o.size;have q0:=W7.bc (j:=0) (HX.o wr Hb.o) rfl
  by_cases hlt:i<n
  ·have g1:=HP.o;have f1:=W7.bf (j:=i) g1;have x1:wr.cell? ⟨pb,i,none⟩=some (.bool ((firstB i n).getD i false)):=bc g1 (map_getD (by rw[kfirstB_length];exact hlt));have HP2:=hI (show(wr.setCell ⟨pb,i,none⟩ (.bool true)).heap[pb]? =some (.cells ((firstB (i+1) n).map Value.bool).toArray 4 (0,0)) by rw[blk_set g1,arr_setB,kfirstB_step]);have HB2:=hI (show Below W0.heap.size W0 (wr.setCell ⟨pb,i,none⟩ (.bool true)) from Hb.o.setCell (p:=⟨pb,i,none⟩) (by simp;omega) _);clear g1;go_wp2;go_roundw;case rel=>exact⟨i+1,by omega,by go_num,HP2,HB2⟩
   case measure=>simp[intOf];omega
  ·have HP2:=hI (show wr.heap[pb]? =some (.cells ((List.replicate n true).map Value.bool).toArray 4 (0,0)) by rw[<- kfirstB_full];have h:=HP.o;rwa [show i=n by omega] at h);have Hb0:=hI Hb.o;go_wp2;clear q0 HP Hb;go_loopw [7] (fun v7 wr=>∃i:Nat,i<=n/\v7= .int .i64 i/\Hid (wr.heap[pb]? =some (.cells ((List.replicate n true).map Value.bool).toArray 4 (0,0)))/\Hid (Bl W0 wr)/\Hid (∀k,k<i->fitsX j.p ⟨st,butB k n⟩ k (st.getD k 0)=true)) (fun v7 _=>n-(intOf v7).toNat);case atStart=>exact⟨0,by omega,rfl,HP2,Hb0,hI (fun k hk=>absurd hk (by omega))⟩
   case round=>
    obtain⟨i3,hi3,rfl,HP,Hb,HA⟩:=hrel;clear HP2 Hb0;have hsr:=Hb.o.size;have q0:=W7.bc (j:=0) (HX.o wr Hb.o) rfl
    by_cases hlt3:i3<n
    rotate_left
    ·have HE:=hI (HYes.o (fun k hk=>HA.o k (by omega)));have HUx:=hI (HU0.o _ Hb.o);go_wp2;go_ret;exact⟨ret_bool HE.o.symm,HUx.o⟩
    have g1:=HP.o;have hpl:=blk_lt g1;have f1:=W7.bf (j:=i3) g1;have x1:wr.cell? ⟨pb,i3,none⟩=some (.bool ((List.replicate n true).getD i3 false)):=bc g1 (map_getD (by rw[List.length_replicate];exact hlt3));obtain⟨X1,hX1⟩:∃X1,X1=wr.setCell ⟨pb,i3,none⟩ (.bool false):=⟨_,rfl⟩
    have hsX:X1.heap.size=wr.heap.size:=by rw[hX1];simp[World.setCell]
    have HP1:=hI (show X1.heap[pb]? =some (.cells ((butB i3 n).map Value.bool).toArray 4 (0,0)) by rw[hX1,blk_set g1,arr_setB,kbutB_out]);have HB1:=hI (show Bl W0 X1 by rw[hX1];exact Hb.o.setCell (p:=⟨pb,i3,none⟩) (by simp;omega) _);have HX1:=hI hX1;clear hX1 g1 HP;go_upto_region 10 with fail;rw[<- HX1.o];clear q0 f1 x1;obtain⟨sb,so,hSA,hsb,s0⟩:=HSc.o X1 HB1.o i3 hlt3;have HFc:=hI (fun(e:Later X1)=>HFt.o e.w (HB1.o.trans (e.b.mono (by omega))) pb i3 hlt3 ((e.b.block _ (by omega)).trans HP1.o));have Hno:=hI (HNo.o i3 hlt3)
    have Hst:=hI (fun(h:fitsX j.p ⟨st,butB i3 n⟩ i3 (st.getD i3 0)=true)=>show ∀k,k<i3+1->fitsX j.p ⟨st,butB k n⟩ k (st.getD k 0)=true from fun k hk=>by
     by_cases e:k=i3
     ·rw[e];exact h
     ·exact HA.o k (by omega))
    generalize fitsX j.p ⟨st,butB i3 n⟩ i3 (st.getD i3 0)=fv at HFc Hno Hst;generalize st.getD i3 0=sv at s0 HFc;have hbx:=HX.o X1 HB1.o;have y0:=later_cell (bc (j:=0) hbx rfl) (by omega);have y1:=later_cell (bc (j:=1) hbx rfl) (by omega);have ys:=later_cell s0 (by omega);subst hSA;clear hbx s0;cases fv
    ·have HE:=hI (Hno.o rfl);refine wp_region_later (by kernel_rfl) (by kernel_rfl) ?_
     repeat (any_goals (first | go_big_quiet_step ((go_at_call 137;exact later_call _ (HFc.o _))) | quiet_step ((go_at_call 137;exact later_call _ (HFc.o _)))))
     refine wpQuiet_nil ?_;rintro w' ⟨e5,rfl⟩;have Hb5:=hI (HU0.o _ (HB1.o.trans (e5.b.mono (by omega))));go_wp2;go_ret;exact⟨ret_bool HE.o.symm,Hb5.o⟩
    have HV:=hI (Hst.o rfl);refine wp_region_later (by kernel_rfl) (by kernel_rfl) ?_
    repeat (any_goals (first | go_big_quiet_step ((go_at_call 137;exact later_call _ (HFc.o _))) | quiet_step ((go_at_call 137;exact later_call _ (HFc.o _)))))
    refine wpQuiet_nil ?_;rintro w' ⟨e5,rfl⟩;have Hb5:=hI (HB1.o.trans (e5.b.mono (by omega)));have hs5:=Hb5.o.size;have HP5:=hI ((e5.b.block _ (by omega)).trans HP1.o);clear y0 y1 ys HFc;generalize e5.w=w5 at Hb5 hs5 HP5;have g1:=HP5.o;have f1:=W7.bf (j:=i3) g1;have x1:w5.cell? ⟨pb,i3,none⟩=some (.bool ((butB i3 n).getD i3 false)):=bc g1 (map_getD (by rw[kbutB_length];exact hlt3));have HP6:=hI (show(w5.setCell ⟨pb,i3,none⟩ (.bool true)).heap[pb]? =some (.cells ((List.replicate n true).map Value.bool).toArray 4 (0,0)) by rw[blk_set g1,arr_setB,kbutB_in]);have HB6:=hI (show Below W0.heap.size W0 (w5.setCell ⟨pb,i3,none⟩ (.bool true)) from Hb5.o.setCell (p:=⟨pb,i3,none⟩) (by simp;omega) _);clear g1;go_wp2;go_roundw;case rel=>exact⟨i3+1,by omega,by go_num,HP6,HB6,HV⟩
    case measure=>simp[intOf];omega
theorem refKeeps_any (j:Job) (st:List Int) (SA:Option Addr) (sn sc B:Nat) (w:World) (hj:JIn w B j) (hB:B<=w.heap.size) (hst:StIn w B SA sn sc st) (hr:∀i, -9223372036854775808<=st.getD i 0/\st.getD i 0<=9223372036854775807) :
  Calls Tryz.prog 20 #[jobV j,.slice SA sn sc] w fun e w'=>e= .returned (.tuple #[.bool (kpV j.p st),.int .i64 (kpErr j.p st)])/\Bl w w':=by
 obtain⟨n,hn⟩:∃n,j.tasks.length=n:=⟨_,rfl⟩
 have hjv:jobV j= .agg #[.slice j.TA n j.tc,.slice j.RA j.res.length j.rc]:=by unfold jobV;rw[hn]
 obtain⟨W0,HW0,hs0,HB0,HX00,HU0⟩:=boxes1 w (.cells #[.slice j.TA n j.tc,.slice j.RA j.res.length j.rc] 25);have HJ:=hI (show ∀X:World,Bl W0 X->JIn X B j/\StIn X B SA sn sc st from fun X hX=>⟨hj.below ((HU0.o X hX).mono hB),hst.below ((HU0.o X hX).mono hB)⟩);have HC:=hI (refCheck_any j B W0 (HJ.o W0 (Below.refl _ _)).1 (by omega));have hsc:=hst.le;have hsc2:=hst.cap;have HK:=hI (fun(X:World) (hX:Bl W0 X) (h0:jobErr j.p=0) (hl:st.length=n)=>refkeeps_any j st SA sc n B X (HJ.o X hX).1 (by have:=hX.size;omega) (HJ.o X hX).2.sl hn hl h0 hr);have HE:=hI (show kpErr j.p st=if jobErr j.p≠0 then jobErr j.p else if st.length=n then 0 else 1 by unfold kpErr;rw[j.nt,hn]);have HV:=hI (show kpV j.p st=(decide (kpErr j.p st=0)&&keepsV j.p st) from rfl);have hsm:=hst.small;have hlc:=hj.tl;have hc2:=hj.tc;rw[hn] at hlc;have Hlen:=hI hst.len;have Hn:=hI hn;rw[hjv] at HC HK ⊢
 obtain⟨je,hje⟩:∃x,jobErr j.p=x:=⟨_,rfl⟩
 rw[hje] at HC HE;have Hje:=hI hje;have q0:=W7.bc (j:=0) (HX00.o W0 (Below.refl _ _)) rfl;have q1:=W7.bc (j:=1) (HX00.o W0 (Below.refl _ _)) rfl;clear hj hst hn hjv hje hr;go_enter Tryz.func20,Tryz.ntmps20;go_upto_region 1 with fail;rw[<- HW0.o];go_upto_region 2 with(go_at_call 38;refine HC.o.mono ?_;rintro e w1 ⟨rfl,hb1⟩;have hs1:=hb1.size;have Hb1:=hI hb1;clear hb1)
 clear q0 q1;have q0:=W7.bc (j:=0) (HX00.o w1 Hb1.o) rfl;have q1:=W7.bc (j:=1) (HX00.o w1 Hb1.o) rfl;cases h0:(je==0)
 ·have h0':(je != 0)=true:=by simp[bne,h0]
  have hne:je≠0:=fun h=>by rw[h] at h0;cases h0
  have H1:=hI (show kpErr j.p st=je by rw[HE.o,if_pos hne]);have H2:=hI (show kpV j.p st=false by rw[HV.o,H1.o,decide_eq_false hne];rfl);clear hne;go_wp2;go_ret2;rw[H1.o,H2.o];exact⟨rfl,HU0.o _ Hb1.o⟩
 have h0':(je != 0)=false:=by simp[bne,h0]
 have HE1:=hI (show kpErr j.p st=if st.length=n then 0 else 1 by rw[HE.o,if_neg (fun h=>h (eq_of_beq h0))]);have HJ0:=hI (show jobErr j.p=0 by rw[Hje.o];exact eq_of_beq h0)
 by_cases hsn:sn=n
 ·have H1:=hI (show kpErr j.p st=0 by rw[HE1.o,if_pos (by rw[<- Hlen.o];exact hsn)]);have H2:=hI (show kpV j.p st=keepsV j.p st by rw[HV.o,H1.o];simp);have HK2:=hI (HK.o w1 Hb1.o HJ0.o (by rw[<- Hlen.o];exact hsn));subst hsn;go_wp2_with (go_at_call 68;refine HK2.o.mono ?_;rintro e w2 ⟨rfl,hb2⟩;have Hb2:=hI hb2;clear hb2);go_ret2;rw[H1.o,H2.o];exact⟨rfl,HU0.o _ (Hb1.o.trans (Hb2.o.mono (by omega)))⟩
 ·have H1:=hI (show kpErr j.p st=1 by rw[HE1.o,if_neg (by rw[<- Hlen.o];exact hsn)]);have H2:=hI (show kpV j.p st=false by rw[HV.o,H1.o];rfl);go_wp2;go_ret2;rw[H1.o,H2.o];exact⟨rfl,HU0.o _ Hb1.o⟩
theorem reflength_any (j:Job) (st:List Int) (SA:Option Addr) (sc B:Nat) (w:World) (hj:JIn w B j) (hB:B<=w.heap.size) (hG:JGood j.p) (hst:st.length=j.tasks.length) (hT:∀i,0<=st.getD i 0/\st.getD i 0<=100000) (hS:Sl w B 1 encInt1 SA st) :
  Calls Tryz.prog 103 #[jobV j,.slice SA j.tasks.length sc] w fun e w'=>e= .returned (.int .i64 (lenOf j.p st))/\Bl w w':=by
 obtain⟨n,hn⟩:∃n,j.tasks.length=n:=⟨_,rfl⟩
 obtain⟨TA,hTA⟩:∃x,j.TA=x:=⟨_,rfl⟩
 have hjv:jobV j= .agg #[.slice TA n j.tc,.slice j.RA j.res.length j.rc]:=by unfold jobV;rw[hn,hTA]
 rw[hn] at hst;rw[hjv,hn];obtain⟨W0,HW0,hs0,HB0,HX00,HU0⟩:=boxes1 w (.cells #[.slice TA n j.tc,.slice j.RA j.res.length j.rc] 25);have h64:n<=64:=by have:=hG.nt;rw[j.nt] at this;omega
 have hlc:=hj.tl;have hc2:=hj.tc;rw[hn] at hlc;have HJ:=hI (show ∀X:World,Bl W0 X->JIn X B j/\Sl X B 1 encInt1 SA st from fun X hX=>⟨hj.below ((HU0.o X hX).mono hB),hS.below ((HU0.o X hX).mono hB)⟩);have HG:=hI hG;have Hn:=hI hn;have HTA:=hI hTA;have Hst:=hI hst;have HT:=hI hT;have HL:=hI (show lenOf j.p st=lenTo j.p st n by unfold lenOf;rw[j.nt,hn]);have q0:=W7.bc (j:=0) (HX00.o W0 (Below.refl _ _)) rfl;have hmx:=max_run Tryz.prog;clear hj hG hn hTA hjv hst hS hT;go_enter Tryz.func103,Tryz.ntmps103;go_upto_region 1 with fail;rw[<- HW0.o];go_wp2;clear q0;go_loopw [5,6] (fun v5 v6 wr=>∃i:Nat,i<=n/\v6= .int .i64 i/\v5= .int .i64 (lenTo j.p st i)/\Hid (Bl W0 wr)) (fun _ v6 _=>n-(intOf v6).toNat);case atStart=>exact⟨0,by omega,rfl,rfl,hI (Below.refl _ _)⟩
 case round=>
  obtain⟨i,hi,rfl,rfl,Hb⟩:=hrel;have hsr:=Hb.o.size
  by_cases hlt:i<n
  ·have hil:i<j.tasks.length:=by have:=Hn.o;omega
   obtain⟨hjn,hsn⟩:=HJ.o wr Hb.o;obtain⟨tb,off,hTb,htb⟩:=hjn.ta (by omega);have hTe:TA=some ⟨tb,off,none⟩:=by rw[<- HTA.o];exact hTb
   subst hTe;obtain⟨ub,uoff,hue,hub,hcs⟩:=hsn (by have:=Hst.o;omega);subst hue
   have s0:wr.cell? ⟨ub,uoff+i,none⟩=some (.int .i64 (st.getD i 0)):=by
    have hks:i<st.length:=by have:=Hst.o;omega
    have h:=hcs i hks 0 _ rfl;rw[Nat.mul_one,Nat.add_zero] at h;rw[h,List.getD_eq_getElem?_getD,List.getElem?_eq_getElem hks]
    rfl
   obtain⟨c0,c1,c2,c3⟩:=hjn.tcells hTb hil;have htk:=HG.o.takes _ (j.Tp_mem hil);have hst9:=HT.o i;have hlb:=lenTo_le HG.o HT.o i (by rw[j.nt];omega);have HSn:=hI (show lenTo j.p st (i+1)=max (lenTo j.p st i) (st.getD i 0+(j.T i).p.takes) by rw[<- j.pT];rfl);generalize j.T i=t at c0 c1 c2 c3 htk HSn;generalize st.getD i 0=s at s0 hst9 HSn;generalize lenTo j.p st i=L at hlb HSn;obtain⟨tk,htk'⟩:∃x,t.p.takes=x:=⟨_,rfl⟩
   rw[htk'] at c1 htk HSn;clear hjn hsn hcs hTb htk';have q0:=W7.bc (j:=0) (HX00.o wr Hb.o) rfl;go_upto_region 5 with fail
   go_quiet (fail)
   go_wp2;go_roundw;case rel=>exact⟨i+1,by omega,by go_num,by rw[HSn.o],hI (below_drewN Hb.o _)⟩
   case measure=>simp[intOf];omega
  ·have HE:=hI (show lenOf j.p st=lenTo j.p st i by rw[HL.o,show n=i by omega]);go_wp2;go_ret;exact⟨ret_int HE.o.symm,HU0.o _ Hb.o⟩
theorem refLength_any (j:Job) (st:List Int) (SA:Option Addr) (sn sc B:Nat) (w:World) (hj:JIn w B j) (hB:B<=w.heap.size) (hst:StIn w B SA sn sc st) (hr:∀i, -9223372036854775808<=st.getD i 0/\st.getD i 0<=9223372036854775807) :
  Calls Tryz.prog 40 #[jobV j,.slice SA sn sc] w fun e w'=>e= .returned (.tuple #[.int .i64 (lnV j.p st),.int .i64 (lnErr j.p st)])/\Bl w w':=by
 have hjv:jobV j= .agg #[.slice j.TA j.tasks.length j.tc,.slice j.RA j.res.length j.rc]:=rfl;obtain⟨n,hn⟩:∃n,j.tasks.length=n:=⟨_,rfl⟩
 rw[hn] at hjv;obtain⟨W0,HW0,hs0,HB0,HX00,HU0⟩:=boxes1 w (.cells #[.slice j.TA n j.tc,.slice j.RA j.res.length j.rc] 25);have HJ:=hI (show ∀X:World,Bl W0 X->JIn X B j/\StIn X B SA sn sc st from fun X hX=>⟨hj.below ((HU0.o X hX).mono hB),hst.below ((HU0.o X hX).mono hB)⟩);have HC:=hI (refKeeps_any j st SA sn sc B W0 (HJ.o W0 (Below.refl _ _)).1 (by omega) (HJ.o W0 (Below.refl _ _)).2 hr);have Hlen:=hI hst.len;have Hn:=hI hn;have HKV:=hI (show kpV j.p st=(decide (kpErr j.p st=0)&&keepsV j.p st) from rfl)
 have HL:=hI (fun(X:World) (hX:Bl W0 X) (hk:kpErr j.p st=0) (hv:keepsV j.p st=true)=>
  have hje:jobErr j.p=0:=by
   unfold kpErr at hk
   by_cases h:jobErr j.p=0
   ·exact h
   ·rw[if_pos h] at hk;exact absurd hk h
  have hl:st.length=j.tasks.length:=by
   unfold kpErr at hk;rw[if_neg (by simpa using hje)] at hk
   by_cases h:st.length=j.p.tasks.length
   ·rw[h,j.nt]
   ·rw[if_neg h] at hk;cases hk
  (⟨hl,reflength_any j st SA sc B X (HJ.o X hX).1 (by have:=hX.size;omega) (good_of hje) hl (keepsV_time (by rw[j.nt];exact hl) hv) (HJ.o X hX).2.sl⟩:st.length=j.tasks.length/\_))
 have HE:=hI (show lnErr j.p st=if kpErr j.p st≠0 then kpErr j.p st else if keepsV j.p st then 0 else 8 from rfl);have HV:=hI (show lnV j.p st=if lnErr j.p st=0 then lenOf j.p st else 0 from rfl);rw[hjv] at HC HL ⊢;have q0:=W7.bc (j:=0) (HX00.o W0 (Below.refl _ _)) rfl;have q1:=W7.bc (j:=1) (HX00.o W0 (Below.refl _ _)) rfl;clear hj hst hn hjv hr;go_enter Tryz.func40,Tryz.ntmps40;go_upto_region 1 with fail;rw[<- HW0.o];go_upto_region 2 with(go_at_call 20;refine HC.o.mono ?_;rintro e w1 ⟨rfl,hb1⟩;have hs1:=hb1.size;have Hb1:=hI hb1;clear hb1)
 clear q0 q1;have q0:=W7.bc (j:=0) (HX00.o w1 Hb1.o) rfl;have q1:=W7.bc (j:=1) (HX00.o w1 Hb1.o) rfl;cases h0:(kpErr j.p st==0)
 ·have h0':(kpErr j.p st != 0)=true:=by simp[bne,h0]
  have hne:kpErr j.p st≠0:=fun h=>by rw[h] at h0;cases h0
  have H1:=hI (show lnErr j.p st=kpErr j.p st by rw[HE.o,if_pos hne]);have H2:=hI (show lnV j.p st=0 by rw[HV.o,H1.o,if_neg hne]);clear hne;go_wp2;go_ret2;rw[H1.o,H2.o];exact⟨rfl,HU0.o _ Hb1.o⟩
 have h0':(kpErr j.p st != 0)=false:=by simp[bne,h0]
 have hk0:kpErr j.p st=0:=eq_of_beq h0;have Hk0:=hI hk0;have HE1:=hI (show lnErr j.p st=if keepsV j.p st then 0 else 8 by rw[HE.o,if_neg (fun h=>h hk0)]);have HKV2:=hI (show kpV j.p st=keepsV j.p st by rw[HKV.o,hk0];simp);rw[HKV2.o];cases hv:keepsV j.p st
 ·have H1:=hI (show lnErr j.p st=8 by rw[HE1.o,hv];rfl);have H2:=hI (show lnV j.p st=0 by rw[HV.o,H1.o];rfl);clear hk0;go_wp2;go_ret2;rw[H1.o,H2.o];exact⟨rfl,HU0.o _ Hb1.o⟩
 ·have H1:=hI (show lnErr j.p st=0 by rw[HE1.o,hv];rfl);have H2:=hI (show lnV j.p st=lenOf j.p st by rw[HV.o,H1.o];rfl);obtain⟨hl9,hL9⟩:=HL.o w1 Hb1.o hk0 hv;have hsn:sn=n:=by rw[Hlen.o,hl9,Hn.o]
  rw[Hn.o] at hL9;have HL2:=hI hL9;subst hsn;clear hk0 hl9 hL9;go_wp2_with (go_at_call 103;refine HL2.o.mono ?_;rintro e w2 ⟨rfl,hb2⟩;have Hb2:=hI hb2;clear hb2);go_ret2;rw[H1.o,H2.o];exact⟨rfl,HU0.o _ (Hb1.o.trans (Hb2.o.mono (by omega)))⟩
end Go.Proofs.YtjpgnfekbojcaaaGreat
namespace Go.Proofs.YtjpgnfekbojcaaaGreat
open Go.RowKit W7 W8
theorem dIns:DInsAll:=fun w g1 g2 b1 b2 h1 h2 h3 h4=>by
 show Calls Tryz.prog 32 _ w _
 have hl:LnIn w w.heap.size (lineX (some ⟨g1,0,none⟩) 1 (some ⟨g2,0,none⟩) 2):=⟨sl_blk (enc:=encInt1) (fun _=>rfl) h1 rfl (blk_lt h1),sl_blk (enc:=encInt1) (fun _=>rfl) h2 rfl (blk_lt h2),Nat.le_of_ble_eq_true rfl,Nat.le_of_ble_eq_true rfl,Nat.le_of_ble_eq_true rfl,Nat.le_of_ble_eq_true rfl⟩
 have ht:TabIn w w.heap.size (some ⟨b2,0,none⟩) 1 1 [⟨some ⟨b1,0,none⟩,2,[⟨0,0,0⟩,⟨1,3,5⟩]⟩]:=⟨rfl,Nat.le_refl _,by decide,sl_blk (enc:=encWay) (fun _=>rfl) h4 rfl (blk_lt h4),fun x hx=>by
  rw[List.mem_singleton.1 hx];exact⟨sl_blk (enc:=encCall) (fun _=>rfl) h3 rfl (blk_lt h3),Nat.le_of_ble_eq_true rfl,Nat.le_of_ble_eq_true rfl⟩⟩
 refine(Insert_any _ _ (some ⟨b2,0,none⟩) 1 1 w.heap.size ⟨1,0,0⟩ w hl ht (Nat.le_refl _)).mono ?_;rintro e w' ⟨⟨v,rfl,ho⟩,hbel⟩;have hV:insV (lineX (some ⟨g1,0,none⟩) 1 (some ⟨g2,0,none⟩) 2) (tabP [⟨some ⟨b1,0,none⟩,2,[⟨0,0,0⟩,⟨1,3,5⟩]⟩]) ⟨1,0,0⟩=[⟨1,6,6⟩,⟨0,9,9⟩]:=dig_insV _ _ _ _;have hE:insErr (lineX (some ⟨g1,0,none⟩) 1 (some ⟨g2,0,none⟩) 2) (tabP [⟨some ⟨b1,0,none⟩,2,[⟨0,0,0⟩,⟨1,3,5⟩]⟩]) ⟨1,0,0⟩=0:=dig_ins _ _ _ _;rw[hV] at ho;rw[hE];obtain⟨g,c,rfl,_⟩:=own_form ho (by show 0<2;decide);obtain⟨c1,c2⟩:=own_cap2 ho;exact⟨g,c,rfl,c1,c2,⟨ho.cellAt 0 (by show 0<2*3;decide),ho.cellAt 1 (by show 1<2*3;decide),ho.cellAt 2 (by show 2<2*3;decide)⟩,⟨ho.cellAt 3 (by show 3<2*3;decide),ho.cellAt 4 (by show 4<2*3;decide),ho.cellAt 5 (by show 5<2*3;decide)⟩,hbel⟩
theorem digs_any (w:World):Calls Tryz.prog 16 #[] w fun e w'=>e= .returned (.bool true)/\Bl w w':=digs1_any dIns w
end Go.Proofs.YtjpgnfekbojcaaaGreat
namespace Go.Proofs.YtjpgnfekbojcaaaGreat
open Go.ChangeShapes Go.WideShapes Go.ChangeAt Go.RowKit
theorem k_laid:laidOutB Tryz.pinned.checked.prog=true:=by kernel_rfl
theorem k_maps:mapsRowed Tryz.pinned.checked.prog=true:=by kernel_rfl
theorem k_stops:(Tryz.pinned.checked.prog.stops==[])=true:=by kernel_rfl
theorem k_knobs:(Tryz.pinned.checked.prog.stopKnobs==[])=true:=by kernel_rfl
theorem k_plain:Tryz.pinned.checked.prog.plainKeys=false:=by kernel_rfl
theorem k_heard:Tryz.pinned.checked.prog.stopsHeard=true:=by kernel_rfl
theorem k_enter:Tryz.pinned.checked.prog.mayEnter=true:=by kernel_rfl
theorem k_lift:(false==Tryz.pinned.checked.prog.liftsFinal)=true:=by kernel_rfl
theorem k_make:(Tryz.pinned.checked.prog.make==some Rows.worksAirRow.make)=true:=by kernel_rfl
end Go.Proofs.YtjpgnfekbojcaaaGreat
