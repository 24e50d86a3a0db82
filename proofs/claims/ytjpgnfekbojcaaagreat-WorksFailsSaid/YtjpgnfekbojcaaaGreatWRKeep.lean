/- The specification's test whether a schedule keeps a job: Keeps. -/
import Derived.Test.YtjpgnfekbojcaaaGreatWJLaw4
import Derived.Test.YtjpgnfekbojcaaaGreatWSrch
set_option maxHeartbeats 8000000
set_option maxRecDepth 100000
namespace W8
open W7
theorem no_self {j:JobP} (h:jobErr j=0):∀n,n<j.tasks.length->∀q∈(j.tasks.getD n default).needs,q.toNat≠n:=fun n hn q hq e=>by
 have:=rank_needs h hn hq;rw[e] at this;omega
theorem keep_times {j:JobP} {st:List Int} (hl:st.length=j.tasks.length) (h:∀i,i<j.tasks.length->isTm (st.getD i 0)=true):∀i,0<=st.getD i 0/\st.getD i 0<=100000:=fun i=>by
 by_cases hi:i<j.tasks.length
 ·exact isTm_true.1 (h i hi)
 ·rw[zA,List.getElem?_eq_none (by omega)];exact⟨by decide,by decide⟩
theorem keepsX_iff {j:JobP} (h:jobErr j=0) {st:List Int} (hl:st.length=j.tasks.length):(∀i,i<j.tasks.length->fitsX j ⟨st,butB i j.tasks.length⟩ i (st.getD i 0)=true)↔keepsV j st=true:=by
 have hG:=good_of h;rw[keepsV_iff hG,<-keepsR_iff hG (no_self h)];unfold keepsR;rw[List.all_eq_true];simp only[List.mem_range]
 constructor
 ·intro h1 i hi
  have ht:=keep_times hl (fun k hk=>by
   have h2:=h1 k hk;unfold fitsX at h2;simp only[zY] at h2;exact h2.1.1.1)
  rw[<- fitsX_eq hG (b:=⟨st,butB i j.tasks.length⟩) ht hi];exact h1 i hi
 ·intro h1 i hi;have ht:=keep_times hl (fun k hk=>(fitsR_iff.1 (h1 k hk)).1);rw[fitsX_eq hG (b:=⟨st,butB i j.tasks.length⟩) ht hi];exact h1 i hi
theorem kfirstB_zero (n:Nat):firstB 0 n=List.replicate n false:=by
 apply List.ext_getElem
 ·simp[firstB]
 ·intro i h1 h2;simp[firstB]
theorem kfirstB_full (n:Nat):firstB n n=List.replicate n true:=by
 apply List.ext_getElem
 ·simp[firstB]
 ·intro i h1 h2;simp[firstB] at h1 ⊢;exact h1
theorem kfirstB_step {i n:Nat}:(firstB i n).set i true=firstB (i+1) n:=by
 apply List.ext_getElem
 ·simp[firstB]
 ·intro k h1 h2;simp[firstB,List.getElem_set] at h1 ⊢
  by_cases e:i=k
  ·simp[e]
  ·simp[e];omega
theorem kbutB_out {i n:Nat}:(List.replicate n true).set i false=butB i n:=by
 apply List.ext_getElem
 ·simp[butB]
 ·intro k h1 h2;simp[butB,List.getElem_set] at h1 ⊢
  by_cases e:i=k
  ·simp[e]
  ·simp[e];exact fun h=>e h.symm
theorem kbutB_in {i n:Nat}:(butB i n).set i true=List.replicate n true:=by
 apply List.ext_getElem
 ·simp[butB]
 ·intro k h1 h2;simp[butB,List.getElem_set] at h1 ⊢
  by_cases e:i=k
  ·simp[e]
  ·simp[e];exact fun h=>e h.symm
theorem kfirstB_length (i n:Nat):(firstB i n).length=n:=by simp[firstB]
theorem kbutB_length (i n:Nat):(butB i n).length=n:=by simp[butB]
end W8
namespace Go.Proofs.YtjpgnfekbojcaaaGreat
open Go.RowKit W7 W8
attribute [local go_sem] Oper.semAt_some
theorem arr_setB (l:List Bool) (i:Nat) (x:Bool):(l.map Value.bool).toArray.setIfInBounds i (.bool x)=((l.set i x).map Value.bool).toArray:=by simp[List.map_set]
theorem refkeeps_any (j:Job) (st:List Int) (SA:Option Addr) (sc n B:Nat) (w:World) (hj:JIn w B j) (hB:B<=w.heap.size) (hS:Sl w B 1 encInt1 SA st) (hn:j.tasks.length=n) (hl:st.length=n) (h0:jobErr j.p=0)
  (hr:∀i, -9223372036854775808<=st.getD i 0/\st.getD i 0<=9223372036854775807) :
  Calls Tryz.prog 68 #[jobV j,.slice SA n sc] w fun e w'=>e= .returned (.bool (keepsV j.p st))/\Bl w w':=by
 have hG:=good_of h0;have hn64:n<=64:=by have:=hG.nt;rw[j.nt,hn] at this;exact this
 obtain⟨TA,hTA⟩:=eX j.TA;have htl:=hj.tl;have htc:=hj.tc;rw[hn] at htl;have hjv:jobV j= .agg #[.slice TA n j.tc,.slice j.RA j.res.length j.rc]:=by unfold jobV;rw[hn,hTA]
 have hjn:j.p.tasks.length=n:=by rw[j.nt,hn]
 obtain⟨kv,hkv⟩:=eX (keepsV j.p st);rw[hkv];obtain⟨W0,HW0,hs0,HB0,HX00,HU0⟩:=boxes1 w (.cells #[.slice TA n j.tc,.slice j.RA j.res.length j.rc] 25)
 have HFt:=hI (fun(X:World) (hX:Bl W0 X) (pb i:Nat) (hi:i<n) (hp:X.heap[pb]? =some (.cells ((butB i n).map Value.bool).toArray 4 (0,0)))=>show Calls Tryz.prog 137 #[.agg #[.slice TA n j.tc,.slice j.RA j.res.length j.rc],.slice SA n sc,.slice (some ⟨pb,0,none⟩) n n,.int .i64 (i:Int),.int .i64 (st.getD i 0)] X fun e w'=>e= .returned (.bool (fitsX j.p ⟨st,butB i n⟩ i (st.getD i 0)))/\Bl X w' from by
  have h:=refFitsX_any j ⟨st,butB i n⟩ SA sc pb n i (st.getD i 0) B X (hj.below ((HU0.o X hX).mono hB)) (by have:=hX.size;omega) ⟨(hS.below ((HU0.o X hX).mono hB)).mono (by have:=hX.size;omega),hp,hl,kbutB_length i n⟩ hn hG hr hi;rw[hjv] at h;exact h)
 have HSc:=hI (show ∀X:World,Bl W0 X->∀i,i<n->∃sb so,SA=some ⟨sb,so,none⟩/\sb<W0.heap.size/\X.cell? ⟨sb,so+i,none⟩=some (.int .i64 (st.getD i 0)) from fun X hX i hi=>by
  obtain⟨sb,so,h1,h2,h3⟩:=(hS.below ((HU0.o X hX).mono hB)) (by omega)
  have h:=h3 i (by omega) 0 _ rfl;rw[Nat.mul_one,Nat.add_zero] at h;refine⟨sb,so,h1,by omega,?_⟩;rw[h,zA,zB (by omega)]
  rfl)
 have HYes:=hI (fun(h:∀i,i<n->fitsX j.p ⟨st,butB i n⟩ i (st.getD i 0)=true)=>show kv=true from by
  rw[<- hkv];refine(keepsX_iff h0 (by rw[hl,hjn])).1 (fun i hi=> ?_);rw[hjn] at hi ⊢;exact h i hi)
 have HNo:=hI (fun(i:Nat) (hi:i<n) (h:fitsX j.p ⟨st,butB i n⟩ i (st.getD i 0)=false)=>show kv=false from by
  rw[<- hkv,Bool.eq_false_iff];intro hk;have h9:=(keepsX_iff h0 (by rw[hl,hjn])).2 hk i (by rw[hjn];exact hi);rw[hjn,h] at h9;cases h9)
 obtain⟨i2,hi2,hi2a,hi2b,hi2c⟩:=info_parts (show(Tryz.prog.info? 4).map (fun i=>(i.zero,i.size,i.bytes))=some (some (.bool false),1,1) by kernel_rfl);have HX:=HX00;have q0:=kC 0 (HX00.o W0 (zX _ _)) rfl;rw[hjv];clear hj hS hn hl h0 hG hTA hjv hjn hkv hr;go_enter Tryz.func68,Tryz.ntmps68;go_upto_region 1 with fail;rw[<- HW0.o];go_wp2_with (at_make;refine wpList_make_full _ rfl _ _ 113 rfl W0.heap.size 4 _ (.bool false) 1 Tryz.underlying113 hi2 hi2a hi2b .i64 .i64 _ _ n rfl rfl rfl rfl (by rw[hi2c];omega) (by unfold maxLen;omega) (zm _) ?_;intro w1 hown1 hg1;have Hb1:=hI ((zX W0.heap.size W0).grown hg1 (zm _) (fun k hk=>by cases hk));have Hn1:=hI (made_blk (zm _) hown1);clear hown1 hg1);obtain⟨pb,hpb⟩:=eX (w.heap.size+1)
 have HP1:=hI (show w1.heap[pb]? =some (.cells ((firstB 0 n).map Value.bool).toArray 4 (0,0)) by
  have h:=Hn1.o.2;rw[hs0,hpb] at h;rw[kfirstB_zero,List.map_replicate];exact h)
 have hpg:W0.heap.size<=pb:=by omega
 rw[hpb];clear q0 Hn1 hpb;go_loopw [6] (fun v6 wr=>∃i:Nat,i<=n/\v6= .int .i64 i/\Hid (wr.heap[pb]? =some (.cells ((firstB i n).map Value.bool).toArray 4 (0,0)))/\Hid (Bl W0 wr)) (fun v6 _=>n-(intOf v6).toNat);case atStart=>exact⟨0,by omega,rfl,HP1,Hb1⟩
 case round=>
  obtain⟨i,hi,rfl,HP,Hb⟩:=hrel;have hsr:=Hb.o.size;have q0:=kC 0 (HX.o wr Hb.o) rfl
  by_cases hlt:i<n
  ·have g1:=HP.o;have f1:=W7.bf (j:=i) g1;have x1:wr.cell? ⟨pb,i,none⟩=some (.bool ((firstB i n).getD i false)):=bc g1 (map_getD (by rw[kfirstB_length];exact hlt));have HP2:=hI (show(wr.setCell ⟨pb,i,none⟩ (.bool true)).heap[pb]? =some (.cells ((firstB (i+1) n).map Value.bool).toArray 4 (0,0)) by rw[blk_set g1,arr_setB,kfirstB_step]);have HB2:=hI (show Below W0.heap.size W0 (wr.setCell ⟨pb,i,none⟩ (.bool true)) from Hb.o.setCell (p:=⟨pb,i,none⟩) (by simp;omega) _);clear g1;go_wp2;go_roundw;case rel=>exact⟨i+1,by omega,by go_num,HP2,HB2⟩
   case measure=>simp[intOf];omega
  ·have HP2:=hI (show wr.heap[pb]? =some (.cells ((List.replicate n true).map Value.bool).toArray 4 (0,0)) by rw[<- kfirstB_full];have h:=HP.o;rwa [show i=n by omega] at h);have Hb0:=hI Hb.o;go_wp2;clear q0 HP Hb;go_loopw [7] (fun v7 wr=>∃i:Nat,i<=n/\v7= .int .i64 i/\Hid (wr.heap[pb]? =some (.cells ((List.replicate n true).map Value.bool).toArray 4 (0,0)))/\Hid (Bl W0 wr)/\Hid (∀k,k<i->fitsX j.p ⟨st,butB k n⟩ k (st.getD k 0)=true)) (fun v7 _=>n-(intOf v7).toNat);case atStart=>exact⟨0,by omega,rfl,HP2,Hb0,hI (fun k hk=>absurd hk (by omega))⟩
   case round=>
    obtain⟨i3,hi3,rfl,HP,Hb,HA⟩:=hrel;clear HP2 Hb0;have hsr:=Hb.o.size;have q0:=kC 0 (HX.o wr Hb.o) rfl
    by_cases hlt3:i3<n
    rotate_left
    ·have HE:=hI (HYes.o (fun k hk=>HA.o k (by omega)));have HUx:=hI (HU0.o _ Hb.o);go_wp2;go_ret;exact⟨ret_bool HE.o.symm,HUx.o⟩
    have g1:=HP.o;have hpl:=blk_lt g1;have f1:=W7.bf (j:=i3) g1;have x1:wr.cell? ⟨pb,i3,none⟩=some (.bool ((List.replicate n true).getD i3 false)):=bc g1 (map_getD (by rw[List.length_replicate];exact hlt3));obtain⟨X1,hX1⟩:=eY (wr.setCell ⟨pb,i3,none⟩ (.bool false));have hsX:X1.heap.size=wr.heap.size:=by rw[hX1];simp[World.setCell]
    have HP1:=hI (show X1.heap[pb]? =some (.cells ((butB i3 n).map Value.bool).toArray 4 (0,0)) by rw[hX1,blk_set g1,arr_setB,kbutB_out]);have HB1:=hI (show Bl W0 X1 by rw[hX1];exact Hb.o.setCell (p:=⟨pb,i3,none⟩) (by simp;omega) _);have HX1:=hI hX1;clear hX1 g1 HP;go_upto_region 10 with fail;rw[<- HX1.o];clear q0 f1 x1;obtain⟨sb,so,hSA,hsb,s0⟩:=HSc.o X1 HB1.o i3 hlt3;have HFc:=hI (fun(e:Later X1)=>HFt.o e.w (HB1.o.trans (e.b.mono (by omega))) pb i3 hlt3 ((e.b.block _ (by omega)).trans HP1.o));have Hno:=hI (HNo.o i3 hlt3)
    have Hst:=hI (fun(h:fitsX j.p ⟨st,butB i3 n⟩ i3 (st.getD i3 0)=true)=>show ∀k,k<i3+1->fitsX j.p ⟨st,butB k n⟩ k (st.getD k 0)=true from fun k hk=>by
     by_cases e:k=i3
     ·rw[e];exact h
     ·exact HA.o k (by omega))
    generalize fitsX j.p ⟨st,butB i3 n⟩ i3 (st.getD i3 0)=fv at HFc Hno Hst;generalize st.getD i3 0=sv at s0 HFc;have hbx:=HX.o X1 HB1.o;have y0:=zV (kC 0 hbx rfl) (by omega);have y1:=zV (kC 1 hbx rfl) (by omega);have ys:=zV s0 (by omega);subst hSA;clear hbx s0;cases fv
    ·have HE:=hI (Hno.o rfl);refine wp_region_later (by kernel_rfl) (by kernel_rfl) ?_
     repeat (any_goals (first | go_big_quiet_step ((go_at_call 137;exact later_call _ (HFc.o _))) | quiet_step ((go_at_call 137;exact later_call _ (HFc.o _)))))
     refine wpQuiet_nil ?_;rintro w' ⟨e5,rfl⟩;have Hb5:=hI (HU0.o _ (HB1.o.trans (e5.b.mono (by omega))));go_wp2;go_ret;exact⟨ret_bool HE.o.symm,Hb5.o⟩
    have HV:=hI (Hst.o rfl);refine wp_region_later (by kernel_rfl) (by kernel_rfl) ?_
    repeat (any_goals (first | go_big_quiet_step ((go_at_call 137;exact later_call _ (HFc.o _))) | quiet_step ((go_at_call 137;exact later_call _ (HFc.o _)))))
    refine wpQuiet_nil ?_;rintro w' ⟨e5,rfl⟩;have Hb5:=hI (HB1.o.trans (e5.b.mono (by omega)));have hs5:=Hb5.o.size;have HP5:=hI ((e5.b.block _ (by omega)).trans HP1.o);clear y0 y1 ys HFc;generalize e5.w=w5 at Hb5 hs5 HP5;have g1:=HP5.o;have f1:=W7.bf (j:=i3) g1;have x1:w5.cell? ⟨pb,i3,none⟩=some (.bool ((butB i3 n).getD i3 false)):=bc g1 (map_getD (by rw[kbutB_length];exact hlt3));have HP6:=hI (show(w5.setCell ⟨pb,i3,none⟩ (.bool true)).heap[pb]? =some (.cells ((List.replicate n true).map Value.bool).toArray 4 (0,0)) by rw[blk_set g1,arr_setB,kbutB_in]);have HB6:=hI (show Below W0.heap.size W0 (w5.setCell ⟨pb,i3,none⟩ (.bool true)) from Hb5.o.setCell (p:=⟨pb,i3,none⟩) (by simp;omega) _);clear g1;go_wp2;go_roundw;case rel=>exact⟨i3+1,by omega,by go_num,HP6,HB6,HV⟩
    case measure=>simp[intOf];omega
theorem refKeeps_any (j:Job) (st:List Int) (SA:Option Addr) (sn sc B:Nat) (w:World) (hj:JIn w B j) (hB:B<=w.heap.size) (hst:StIn w B SA sn sc st) (hr:∀i, -9223372036854775808<=st.getD i 0/\st.getD i 0<=9223372036854775807) :
  Calls Tryz.prog 20 #[jobV j,.slice SA sn sc] w fun e w'=>e= .returned (.tuple #[.bool (kpV j.p st),.int .i64 (kpErr j.p st)])/\Bl w w':=by
 obtain⟨n,hn⟩:=eX j.tasks.length;have hjv:jobV j= .agg #[.slice j.TA n j.tc,.slice j.RA j.res.length j.rc]:=by unfold jobV;rw[hn]
 obtain⟨W0,HW0,hs0,HB0,HX00,HU0⟩:=boxes1 w (.cells #[.slice j.TA n j.tc,.slice j.RA j.res.length j.rc] 25);have HJ:=hI (show ∀X:World,Bl W0 X->JIn X B j/\StIn X B SA sn sc st from fun X hX=>⟨hj.below ((HU0.o X hX).mono hB),hst.below ((HU0.o X hX).mono hB)⟩);have HC:=hI (refCheck_any j B W0 (HJ.o W0 (zX _ _)).1 (by omega));have hsc:=hst.le;have hsc2:=hst.cap;have HK:=hI (fun(X:World) (hX:Bl W0 X) (h0:jobErr j.p=0) (hl:st.length=n)=>refkeeps_any j st SA sc n B X (HJ.o X hX).1 (by have:=hX.size;omega) (HJ.o X hX).2.sl hn hl h0 hr);have HE:=hI (show kpErr j.p st=if jobErr j.p≠0 then jobErr j.p else if st.length=n then 0 else 1 by unfold kpErr;rw[j.nt,hn]);have HV:=hI (show kpV j.p st=(decide (kpErr j.p st=0)&&keepsV j.p st) from rfl);have hsm:=hst.small;have hlc:=hj.tl;have hc2:=hj.tc;rw[hn] at hlc;have Hlen:=hI hst.len;have Hn:=hI hn;rw[hjv] at HC HK ⊢;obtain⟨je,hje⟩:=eX (jobErr j.p)
 rw[hje] at HC HE;have Hje:=hI hje;have q0:=kC 0 (HX00.o W0 (zX _ _)) rfl;have q1:=kC 1 (HX00.o W0 (zX _ _)) rfl;clear hj hst hn hjv hje hr;go_enter Tryz.func20,Tryz.ntmps20;go_upto_region 1 with fail;rw[<- HW0.o];go_upto_region 2 with(go_at_call 38;refine HC.o.mono ?_;rintro e w1 ⟨rfl,hb1⟩;have hs1:=hb1.size;have Hb1:=hI hb1;clear hb1)
 clear q0 q1;have q0:=kC 0 (HX00.o w1 Hb1.o) rfl;have q1:=kC 1 (HX00.o w1 Hb1.o) rfl;cases h0:(je==0)
 ·have h0':(je != 0)=true:=by simp[bne,h0]
  have hne:je≠0:=fun h=>by rw[h] at h0;cases h0
  have H1:=hI (show kpErr j.p st=je by rw[HE.o,if_pos hne]);have H2:=hI (show kpV j.p st=false by rw[HV.o,H1.o,zE hne];rfl);clear hne;go_wp2;go_ret2;rw[H1.o,H2.o];exact⟨rfl,HU0.o _ Hb1.o⟩
 have h0':(je != 0)=false:=by simp[bne,h0]
 have HE1:=hI (show kpErr j.p st=if st.length=n then 0 else 1 by rw[HE.o,if_neg (fun h=>h (eq_of_beq h0))]);have HJ0:=hI (show jobErr j.p=0 by rw[Hje.o];exact eq_of_beq h0)
 by_cases hsn:sn=n
 ·have H1:=hI (show kpErr j.p st=0 by rw[HE1.o,if_pos (by rw[<- Hlen.o];exact hsn)]);have H2:=hI (show kpV j.p st=keepsV j.p st by rw[HV.o,H1.o];simp);have HK2:=hI (HK.o w1 Hb1.o HJ0.o (by rw[<- Hlen.o];exact hsn));subst hsn;go_wp2_with (go_at_call 68;refine HK2.o.mono ?_;rintro e w2 ⟨rfl,hb2⟩;have Hb2:=hI hb2;clear hb2);go_ret2;rw[H1.o,H2.o];exact⟨rfl,HU0.o _ (Hb1.o.trans (Hb2.o.mono (by omega)))⟩
 ·have H1:=hI (show kpErr j.p st=1 by rw[HE1.o,if_neg (by rw[<- Hlen.o];exact hsn)]);have H2:=hI (show kpV j.p st=false by rw[HV.o,H1.o];rfl);go_wp2;go_ret2;rw[H1.o,H2.o];exact⟨rfl,HU0.o _ Hb1.o⟩
def encMo (m:Nat×Int):List Value:=[.int .i64 (m.1:Int),.int .i64 m.2]
def QRow (X:World) (base:Nat) (v:Value) (ms:List (Nat×Int)):Prop:=
 (v= .slice none 0 0/\ms=[])\/∃(g off cap:Nat) (cur:Array Value),v= .slice (some ⟨g,off,none⟩) ms.length cap/\base<=g/\X.heap[g]? =some (.cells cur 136 (0,0))/\ms.length<=cap/\cap<=maxLen/\off+cap*2<=cur.size ∧
  ∀i,i<ms.length->cur[off+i*2]? =some (.int .i64 ((ms.getD i default).1:Int))/\cur[off+i*2+1]? =some (.int .i64 (ms.getD i default).2)
theorem QRow.kept {X Y:World} {base:Nat} {v:Value} {ms:List (Nat×Int)} (h:QRow X base v ms) (hk:∀g,v.ownBlock=some g->Y.heap[g]? =X.heap[g]?):QRow Y base v ms:=by
 rcases h with h | ⟨g,off,cap,cur,h1,h2,h3,h4⟩
 ·exact .inl h
 ·exact .inr ⟨g,off,cap,cur,h1,h2,(hk g (by rw[h1];rfl)).trans h3,h4⟩
theorem QRow.lt {X:World} {base:Nat} {v:Value} {ms:List (Nat×Int)} (h:QRow X base v ms) {g:Nat} (hg:v.ownBlock=some g):base<=g/\g<X.heap.size/\∃cs,X.heap[g]? =some (.cells cs 136 (0,0)):=by
 rcases h with⟨h,_⟩ | ⟨g',off,cap,cur,h1,h2,h3,h4⟩
 ·rw[h] at hg;cases hg
 ·rw[h1] at hg;cases hg;exact⟨h2,blk_lt h3,_,h3⟩
theorem elemMo:Elem Tryz.prog 202 136 (.agg #[.int .i64 0,.int .i64 0]) 2 16:=Elem.mk' Tryz.underlying202 (by kernel_rfl) rfl (by decide) (by decide)
theorem add0 {b o j:Nat}:(⟨b,o,none⟩:Addr).add j=⟨b,o+j,none⟩:=by unfold Addr.add;split<;>simp_all
theorem run_qput (base ty p:Nat) (v:Value) (ms:List (Nat×Int)) (k:Nat) (t:Int) (c:Nat) (W:World) (h:QRow W base v ms) (hl:ms.length<=100000000) (hbW:base<=W.heap.size) (hp:W.heap[p]? =some (.cells #[.int .i64 (k:Int),.int .i64 t] 136 (0,0))) :
  ∃v' w',(Builtin.append_ #[202,202] ty #[v,.slice (some ⟨p,0,none⟩) 1 c]).run Tryz.prog W= .ok v' w'/\QRow w' base v' (ms++[(k,t)])/\W.grownBy w' v.ownBlock/\(v'.ownBlock=v.ownBlock\/∃g,v'.ownBlock=some g/\W.heap.size<=g):=by
 obtain⟨ht,⟨i,hi,hz,hsz,hby⟩,_⟩:=elemMo;have hWg:∀row,W.grownBy W row:=fun row=>World.grownBy.refl _ _
 have hnew:∀j u,[Value.int .i64 (k:Int),.int .i64 t][j]? =some u->W.cell? ((⟨p,0,none⟩:Addr).add j)=some u:=fun j u hu=>by
  rw[add0,Nat.zero_add];exact bc hp (by simpa using hu)
 have h1:∀u∈[Value.int .i64 (k:Int),.int .i64 t],u.oneCell'=true:=by simp[Value.oneCell']
 have hlen:[Value.int .i64 (k:Int),.int .i64 t].length=1*i.size:=by rw[hsz];rfl
 have hww:W.heap.size<=W.heap.size:=zm _;have hA:∀(o:Obj) (row:Option Nat),W.grownBy (W.drew.alloc o) row:=fun o row=>⟨(hWg none).os,(hWg none).tape,(hWg none).output,Nat.le_trans hww (by simp),fun j hj _=>(zP W.drew o j (Nat.lt_of_lt_of_le hj hww)).trans ((hWg none).block j hj (by simp))⟩
 have hgetD:∀ {j:Nat},j<ms.length->(ms++[(k,t)]).getD j default=ms.getD j default:=fun{j} hj=>by simp[zA,List.getElem?_append_left hj]
 have hgetL:(ms++[(k,t)]).getD ms.length default=(k,t):=by simp[zA]
 rcases h with⟨rfl,rfl⟩ | ⟨g,off,cap,cur,rfl,h2,h3,h4,h5,h6,h7⟩
 ·have hr:=run_append_nil (P:=Tryz.prog) W 202 ty 136 i _ ht hi hz ⟨p,0,none⟩ 1 c _ hlen hnew (by decide) (by decide) (by rw[hby];decide);refine⟨_,_,hr,.inr ⟨W.heap.size,0,_,_,rfl,hbW,zW W.drew _,grownCap_ge _ _ _ _,grownCap_le_maxLen _ _ _ _ (by rw[show maxLen=9223372036854775807 from rfl];omega),?_,?_⟩,hA _ _,.inr ⟨_,rfl,hww⟩⟩
  ·have:=grownCap_ge W 1 0 136;rw[Array.size_append,size_zeroCells];simp[Value.cells];omega
  ·intro j hj;obtain rfl:j=0:=by simpa using hj
   exact⟨(Array.getElem?_append_left (by simp)).trans rfl,(Array.getElem?_append_left (by simp)).trans rfl⟩
 ·by_cases hroom:ms.length+1<=cap
  ·have hg:W.heap[g]? =some (.cells cur 136 (0,0)):=((hWg none).block g (blk_lt h3) (by simp)).trans h3;have hf:=run_firstCells_some (P:=Tryz.prog) W i.size 1 ⟨p,0,none⟩ 1 c _ hlen hnew;have hfit:off+ms.length*2+0+[Value.int .i64 (k:Int),.int .i64 t].length<=cur.size:=by simp;omega
   have hst:=run_storeCells_at Tryz.prog g (off+ms.length*2) 136 _ 0 cur W hg hfit h1;simp only[Nat.add_zero] at hst
   have hr:(Builtin.append_ #[202,202] ty #[.slice (some ⟨g,off,none⟩) ms.length cap,.slice (some ⟨p,0,none⟩) 1 c]).run Tryz.prog W= .ok (.slice (some ⟨g,off,none⟩) (ms.length+1) cap) (W.setRow g (cur.toList.take (off+ms.length*2)++[Value.int .i64 (k:Int),.int .i64 t]++cur.toList.drop (off+ms.length*2+[Value.int .i64 (k:Int),.int .i64 t].length)).toArray):=by
    rw[hsz] at hf;simp[Builtin.append_,run_underlying ht,sizeOf,typeInfo,hi,Builtin.lenOf,hroom,hf,hsz,add0];simp at hst;rw[hst]
    rfl
   have hsizes:off+ms.length*2<=cur.size:=by omega
   refine⟨_,_,hr,.inr ⟨g,off,cap,_,by rw[zF];rfl,h2,setRow_heap W g cur _ _ _ hg,by rw[zF];exact hroom,h5,?_,?_⟩,⟨(hWg none).os,(hWg none).tape,(hWg none).output,by show W.heap.size<=(W.setRow _ _).heap.size;simp,fun j hj hne=>(setRow_other W g j _ (fun e=>hne (by simp[Value.ownBlock,e]))).trans ((hWg none).block j hj (by simp))⟩,.inl rfl⟩
   ·have htl:(cur.toList.take (off+ms.length*2)).length=off+ms.length*2:=by rw[List.length_take,show cur.toList.length=cur.size from Array.length_toList];omega
    have hdl:(cur.toList.drop (off+ms.length*2+[Value.int .i64 (k:Int),.int .i64 t].length)).length=cur.size-(off+ms.length*2+2):=by rw[List.length_drop,show cur.toList.length=cur.size from Array.length_toList];rfl
    rw[List.size_toArray,zF,zF,htl,hdl];simp only[List.length_cons,List.length_nil];omega
   ·intro j hj;rw[zF] at hj;simp only[List.length_cons,List.length_nil] at hj;simp only[List.getElem?_toArray,List.append_assoc];have htl:(cur.toList.take (off+ms.length*2)).length=off+ms.length*2:=by rw[List.length_take,show cur.toList.length=cur.size from Array.length_toList];omega
    by_cases hjl:j<ms.length
    ·rw[List.getElem?_append_left (by omega),List.getElem?_append_left (by omega),List.getElem?_take,List.getElem?_take,if_pos (by omega),if_pos (by omega),hgetD hjl];have:=h7 j hjl
     simpa using this
    ·obtain rfl:j=ms.length:=by omega
     have e0:∀(L N D:List Value) (n r:Nat),L.length=n->r<N.length->(L++(N++D))[n+r]? =N[r]? :=fun L N D n r hL hr=>by
      rw[List.getElem?_append_right (by omega),List.getElem?_append_left (by omega),hL,Nat.add_sub_cancel_left]
     rw[hgetL];exact⟨(e0 _ _ _ _ 0 htl (by simp)).trans rfl,(e0 _ _ _ _ 1 htl (by simp)).trans rfl⟩
  ·have holds:∀j u,(ms.flatMap encMo)[j]? =some u->W.cell? ((⟨g,off,none⟩:Addr).add j)=some u:=fun j u hu=>by
    rw[add0];have hg:W.heap[g]? =some (.cells cur 136 (0,0)):=((hWg none).block g (blk_lt h3) (by simp)).trans h3
    have hj:j<ms.length*2:=by
     have h8:=(List.getElem?_eq_some_iff.1 hu).1
     have h9:(ms.flatMap encMo).length=ms.length*2:=by
      clear h7 h4 hroom hgetD hgetL hu h8 h6 hl
      induction ms with
      | nil=>rfl
      | cons a r ih=>rw[List.flatMap_cons,zF,ih,List.length_cons];simp[encMo];omega
     omega
    have h10:=flat_get (enc:=encMo) (k:=2) (fun _=>rfl) ms (j/2) (j%2) (by omega) (by omega);rw[show j/2*2+j%2=j by omega] at h10;have h11:=h7 (j/2) (by omega);rw[zA,zB (by omega),Option.getD_some] at h11;refine bc hg ?_;rw[<- hu,h10];rcases Nat.mod_two_eq_zero_or_one j with h12 | h12
    ·rw[h12,show off+j=off+j/2*2 by omega,h11.1];rfl
    ·rw[h12,show off+j=off+j/2*2+1 by omega,h11.2];rfl
   have hlo:(ms.flatMap encMo).length=ms.length*i.size:=by
    rw[hsz];clear holds h7 h4 hroom hgetD hgetL h6 hl
    induction ms with
    | nil=>rfl
    | cons a r ih=>rw[List.flatMap_cons,zF,ih,List.length_cons];simp[encMo];omega
   have hr:=run_append_grow (P:=Tryz.prog) W 202 ty 136 i _ ht hi hz ⟨g,off,none⟩ ms.length cap (ms.flatMap encMo) hlo holds ⟨p,0,none⟩ 1 c _ hlen hnew (by omega) (by omega) (growslice_fits (by omega) (by rw[hby];omega));have hcg:=grownCap_ge W (ms.length+1) cap 136;refine⟨_,_,hr,.inr ⟨W.heap.size,0,_,_,by rw[zF];rfl,hbW,zW W.drew _,by rw[zF];exact hcg,grownCap_le_maxLen _ _ _ _ (by rw[show maxLen=9223372036854775807 from rfl];omega),?_,?_⟩,hA _ _,.inr ⟨_,rfl,hww⟩⟩
   ·rw[Array.size_append,Array.size_append,size_zeroCells,List.size_toArray,hlo,hsz];simp[Value.cells];omega
   ·intro j hj;rw[zF] at hj;simp only[List.length_cons,List.length_nil] at hj;rw[hsz] at hlo
    by_cases hjl:j<ms.length
    ·have h10:=fun m hm=>flat_get (enc:=encMo) (k:=2) (fun _=>rfl) ms j m hjl hm
     rw[hgetD hjl,zA,zB hjl,Option.getD_some,Nat.zero_add,Array.append_assoc,Array.getElem?_append_left (by simp[hlo];omega),Array.getElem?_append_left (by simp[hlo];omega),List.getElem?_toArray,List.getElem?_toArray];exact⟨(h10 0 (by omega)).trans rfl,(h10 1 (by omega)).trans rfl⟩
    ·obtain rfl:j=ms.length:=by omega
     have e0:∀(L N D:Array Value) (n r:Nat),L.size=n->r<N.size->(L++N++D)[n+r]? =N[r]? :=fun L N D n r hL hr=>by
      rw[Array.append_assoc,Array.getElem?_append_right (by omega),Array.getElem?_append_left (by omega),hL,Nat.add_sub_cancel_left]
     have hsz1:(ms.flatMap encMo).toArray.size=0+ms.length*2:=by rw[List.size_toArray,hlo];omega
     rw[hgetL];exact⟨(e0 _ _ _ _ 0 hsz1 (by simp)).trans rfl,(e0 _ _ _ _ 1 hsz1 (by simp)).trans rfl⟩
structure KeptS (X Y:World) (S:Nat->Prop):Prop where
 os:Y.os=X.os
 tape:Y.tape=X.tape
 output:Y.output=X.output
 size:X.heap.size<=Y.heap.size
 block:∀i,i<X.heap.size-> ¬S i->Y.heap[i]? =X.heap[i]?
theorem KeptS.refl (X:World) (S:Nat->Prop):KeptS X X S:=⟨rfl,rfl,rfl,zm _,fun _ _ _=>rfl⟩
theorem KeptS.trans {X Y Z:World} {S:Nat->Prop} (h:KeptS X Y S) (k:KeptS Y Z S):KeptS X Z S:=
 ⟨k.os.trans h.os,k.tape.trans h.tape,k.output.trans h.output,Nat.le_trans h.size k.size,fun i hi hn=>(k.block i (Nat.lt_of_lt_of_le hi h.size) hn).trans (h.block i hi hn)⟩
theorem KeptS.of_below {X Y:World} {S:Nat->Prop} (h:Bl X Y):KeptS X Y S:=⟨h.os,h.tape,h.output,h.size,fun i hi _=>h.block i hi⟩
theorem KeptS.of_grown {X Y:World} {S:Nat->Prop} {row:Option Nat} (h:X.grownBy Y row) (hr:∀i,row=some i->S i):KeptS X Y S:=⟨h.os,h.tape,h.output,h.size,fun i hi hn=>h.block i hi (fun e=>hn (hr i e.symm))⟩
theorem KeptS.mono {X Y:World} {S T:Nat->Prop} (h:KeptS X Y S) (hs:∀i,S i->T i):KeptS X Y T:=⟨h.os,h.tape,h.output,h.size,fun i hi hn=>h.block i hi (fun e=>hn (hs i e))⟩
def SLater (w:World) (S:Nat->Prop):Type:={ W:World // KeptS w W S }
def SLater.w {w:World} {S:Nat->Prop} (e:SLater w S):World:=e.1
theorem SLater.k {w:World} {S:Nat->Prop} (e:SLater w S):KeptS w e.w S:=e.2
structure QIn (X:World) (base qb:Nat) (v:Value) (ms:List (Nat×Int)):Prop where
 blk:X.heap[qb]? =some (.cells #[v] 204 (0,0))
 row:QRow X base v ms
theorem QIn.ne {X:World} {base qb:Nat} {v:Value} {ms:List (Nat×Int)} (h:QIn X base qb v ms) {g:Nat} (hg:v.ownBlock=some g):g≠qb:=fun e=>by
 obtain⟨_,_,cs,hc⟩:=h.row.lt hg;rw[e,h.blk] at hc;cases hc
theorem slice1 (g off n cap:Nat) (hn:n+1<=cap) (hc:cap<=9223372036854775807) (w:World) :
  (Instr.sliceAt 202 (.slice (some ⟨g,off,none⟩) (n+1) cap) (some (.int .i64 1)) none none).run Tryz.prog w= .ok (.slice (some ⟨g,if cap=1 then off else off+2,none⟩) n (cap-1)) w:=by
 have hel:Tryz.prog.elem 202=136:=by kernel_rfl
 have hu:Tryz.prog.underlying 202=some (.slice (Tryz.prog.elem 202)):=by rw[hel];exact Tryz.underlying202
 rw[run_sliceAt_slice w _ _ _ _ _ hu,run_slice_l w _ _ _ _ hu .i64 1 (by decide) (by omega),hel,Tryz.sizeOf136]
 show Result.ok (sliced _ _ _ _ _) w=_
 unfold sliced
 by_cases h1:cap=1
 ·subst h1;simp
 ·have h2: ¬cap=Int.toNat 1:=by simpa using h1
  rw[if_neg h2,if_neg h1];simp[add0]
end Go.Proofs.YtjpgnfekbojcaaaGreat
