/- Keeps,length,Length,Order. -/
import Derived.Test.YtjpgnfekbojcaaaGreatWFai0
import Derived.RangeFuncBound
import Derived.RangeFuncLeaves
import Derived.Shelf.Abstract
import Derived.OwnWalkIn
import Derived.TacticsInMore
import Derived.LoopNIn
import Derived.LoopIn
set_option maxHeartbeats 4000000
set_option maxRecDepth 100000
namespace W8
open W7
theorem lenTo_le {j:JobP} (hG:JGood j) {st:List Int} (hs:∀i,0<=st.getD i 0/\st.getD i 0<=100000):∀i,i<=j.tasks.length->0<=lenTo j st i/\lenTo j st i<=200000
 | 0,_=>by simp[lenTo]
 | i+1,hi=>by
  have h1:=lenTo_le hG hs i (by omega);have h2:=hG.takes (j.tasks.getD i default) (by rw[getD_of (by omega)];exact List.getElem_mem _);have h3:=hs i;simp only[lenTo];omega
theorem keepsV_time {j:JobP} {st:List Int} (hn:st.length=j.tasks.length) (h:keepsV j st=true):∀i,0<=st.getD i 0/\st.getD i 0<=100000:=by
 unfold keepsV at h;simp only[Bool.and_eq_true] at h;exact keepsAt_time hn h.1
end W8
namespace Go.Proofs.YtjpgnfekbojcaaaGreat
open Go.RowKit W7 W8
attribute [local go_sem] Oper.semAt_some
structure StIn (w:World) (B:Nat) (SA:Option Addr) (sn sc:Nat) (st:List Int):Prop where
 len:sn=st.length
 small:sn<=1000
 le:sn<=sc
 cap:sc<=9223372036854775807
 sl:Sl w B 1 encInt1 SA st
theorem StIn.below {w w':World} {B:Nat} {SA:Option Addr} {sn sc:Nat} {st:List Int} (h:StIn w B SA sn sc st) (hb:Below B w w'):StIn w' B SA sn sc st:=⟨h.len,h.small,h.le,h.cap,h.sl.below hb⟩
theorem StIn.mono {w:World} {B B':Nat} {SA:Option Addr} {sn sc:Nat} {st:List Int} (h:StIn w B SA sn sc st) (hb:B<=B'):StIn w B' SA sn sc st:=⟨h.len,h.small,h.le,h.cap,h.sl.mono hb⟩
theorem Keeps_any (j:Job) (st:List Int) (SA:Option Addr) (sn sc B:Nat) (w:World) (hj:JIn w B j) (hB:B<=w.heap.size) (hS:Slim j) (hst:StIn w B SA sn sc st) :
  Calls Tryz.prog 21 #[jobV j,.slice SA sn sc] w fun e w'=>e= .returned (.tuple #[.bool (kpV j.p st),.int .i64 (kpErr j.p st)])/\Bl w w':=by
 obtain⟨n,hn⟩:∃n,j.tasks.length=n:=⟨_,rfl⟩
 have hjv:jobV j= .agg #[.slice j.TA n j.tc,.slice j.RA j.res.length j.rc]:=by unfold jobV;rw[hn]
 obtain⟨W0,HW0,hs0,HB0,HX00,HU0⟩:=boxes1 w (.cells #[.slice j.TA n j.tc,.slice j.RA j.res.length j.rc] 25);have HJ:=hI (show ∀X:World,Bl W0 X->JIn X B j/\StIn X B SA sn sc st from fun X hX=>⟨hj.below ((HU0.o X hX).mono hB),hst.below ((HU0.o X hX).mono hB)⟩);have HC:=hI (Check_any j B W0 (HJ.o W0 (Below.refl _ _)).1 (by omega) hS);have HK:=hI (fun(X:World) (hX:Bl W0 X) (hG:JGood j.p) (hl:st.length=j.tasks.length)=>keeps_any j st SA sc B X (HJ.o X hX).1 (by have:=hX.size;omega) hG hl (HJ.o X hX).2.sl);have HE:=hI (show kpErr j.p st=if jobErr j.p≠0 then jobErr j.p else if st.length=n then 0 else 1 by unfold kpErr;rw[j.nt,hn]);have HV:=hI (show kpV j.p st=(decide (kpErr j.p st=0)&&keepsV j.p st) from rfl);have hsm:=hst.small;have hsc:=hst.le;have hsc2:=hst.cap;have hnt:=hS.nt;have hlc:=hj.tl;have hc2:=hj.tc;rw[hn] at hlc hnt;have Hlen:=hI hst.len;have Hn:=hI hn;rw[hjv] at HC HK ⊢
 obtain⟨je,hje⟩:∃x,jobErr j.p=x:=⟨_,rfl⟩
 rw[hje] at HC HE;have Hje:=hI hje;have q0:=W7.bc (j:=0) (HX00.o W0 (Below.refl _ _)) rfl;have q1:=W7.bc (j:=1) (HX00.o W0 (Below.refl _ _)) rfl;clear hj hS hst hn hjv hje;go_enter Tryz.func21,Tryz.ntmps21;go_upto_region 1 with fail;rw[<- HW0.o];go_upto_region 2 with(go_at_call 37;refine HC.o.mono ?_;rintro e w1 ⟨rfl,hb1⟩;have hs1:=hb1.size;have Hb1:=hI hb1;clear hb1)
 clear q0 q1;have q0:=W7.bc (j:=0) (HX00.o w1 Hb1.o) rfl;have q1:=W7.bc (j:=1) (HX00.o w1 Hb1.o) rfl;cases h0:(je==0)
 ·have h0':(je != 0)=true:=by simp[bne,h0]
  have hne:je≠0:=fun h=>by rw[h] at h0;cases h0
  have H1:=hI (show kpErr j.p st=je by rw[HE.o,if_pos hne]);have H2:=hI (show kpV j.p st=false by rw[HV.o,H1.o,decide_eq_false hne];rfl);clear hne;go_wp2;go_ret2;rw[H1.o,H2.o];exact⟨rfl,HU0.o _ Hb1.o⟩
 have h0':(je != 0)=false:=by simp[bne,h0]
 have HE1:=hI (show kpErr j.p st=if st.length=n then 0 else 1 by rw[HE.o,if_neg (fun h=>h (eq_of_beq h0))]);have HG:=hI (good_of (show jobErr j.p=0 by rw[Hje.o];exact eq_of_beq h0))
 by_cases hsn:sn=n
 ·have H1:=hI (show kpErr j.p st=0 by rw[HE1.o,if_pos (by rw[<- Hlen.o];exact hsn)]);have H2:=hI (show kpV j.p st=keepsV j.p st by rw[HV.o,H1.o];simp);have HK2:=hI (HK.o w1 Hb1.o HG.o (by rw[<- Hlen.o,Hn.o];exact hsn));rw[Hn.o] at HK2;subst hsn;go_wp2_with (go_at_call 69;refine HK2.o.mono ?_;rintro e w2 ⟨rfl,hb2⟩;have Hb2:=hI hb2;clear hb2);go_ret2;rw[H1.o,H2.o];exact⟨rfl,HU0.o _ (Hb1.o.trans (Hb2.o.mono (by omega)))⟩
 ·have H1:=hI (show kpErr j.p st=1 by rw[HE1.o,if_neg (by rw[<- Hlen.o];exact hsn)]);have H2:=hI (show kpV j.p st=false by rw[HV.o,H1.o];rfl);go_wp2;go_ret2;rw[H1.o,H2.o];exact⟨rfl,HU0.o _ Hb1.o⟩
theorem length_any (j:Job) (st:List Int) (SA:Option Addr) (sc B:Nat) (w:World) (hj:JIn w B j) (hB:B<=w.heap.size) (hG:JGood j.p) (hst:st.length=j.tasks.length) (hT:∀i,0<=st.getD i 0/\st.getD i 0<=100000) (hS:Sl w B 1 encInt1 SA st) :
  Calls Tryz.prog 102 #[jobV j,.slice SA j.tasks.length sc] w fun e w'=>e= .returned (.int .i64 (lenOf j.p st))/\Bl w w':=by
 obtain⟨n,hn⟩:∃n,j.tasks.length=n:=⟨_,rfl⟩
 obtain⟨TA,hTA⟩:∃x,j.TA=x:=⟨_,rfl⟩
 have hjv:jobV j= .agg #[.slice TA n j.tc,.slice j.RA j.res.length j.rc]:=by unfold jobV;rw[hn,hTA]
 rw[hn] at hst;rw[hjv,hn];obtain⟨W0,HW0,hs0,HB0,HX00,HU0⟩:=boxes1 w (.cells #[.slice TA n j.tc,.slice j.RA j.res.length j.rc] 25);have h64:n<=64:=by have:=hG.nt;rw[j.nt] at this;omega
 have hlc:=hj.tl;have hc2:=hj.tc;rw[hn] at hlc;have HJ:=hI (show ∀X:World,Bl W0 X->JIn X B j/\Sl X B 1 encInt1 SA st from fun X hX=>⟨hj.below ((HU0.o X hX).mono hB),hS.below ((HU0.o X hX).mono hB)⟩);have HG:=hI hG;have Hn:=hI hn;have HTA:=hI hTA;have Hst:=hI hst;have HT:=hI hT;have HL:=hI (show lenOf j.p st=lenTo j.p st n by unfold lenOf;rw[j.nt,hn]);have q0:=W7.bc (j:=0) (HX00.o W0 (Below.refl _ _)) rfl;have hmx:=max_run Tryz.prog;clear hj hG hn hTA hjv hst hS hT;go_enter Tryz.func102,Tryz.ntmps102;go_upto_region 1 with fail;rw[<- HW0.o];go_wp2;clear q0;go_loopw [5,11] (fun v5 v11 wr=>∃i:Nat,i<=n/\v11= .int .i64 i/\v5= .int .i64 (lenTo j.p st i)/\Hid (Bl W0 wr)) (fun _ v11 _=>n-(intOf v11).toNat);case atStart=>exact⟨0,by omega,rfl,rfl,hI (Below.refl _ _)⟩
 case round=>
  obtain⟨i,hi,rfl,rfl,Hb⟩:=hrel;have hsr:=Hb.o.size
  by_cases hlt:i<n
  ·have hil:i<j.tasks.length:=by have:=Hn.o;omega
   obtain⟨hjn,hsn⟩:=HJ.o wr Hb.o;obtain⟨tb,off,hTb,htb⟩:=hjn.ta (by omega);have hTe:TA=some ⟨tb,off,none⟩:=by rw[<- HTA.o];exact hTb
   subst hTe;obtain⟨ub,uoff,hue,hub,hcs⟩:=hsn (by have:=Hst.o;omega);subst hue
   have s0:wr.cell? ⟨ub,uoff+i,none⟩=some (.int .i64 (st.getD i 0)):=by
    have hks:i<st.length:=by have:=Hst.o;omega
    have h:=hcs i hks 0 _ rfl;rw[Nat.mul_one,Nat.add_zero] at h;rw[h,List.getD_eq_getElem?_getD,List.getElem?_eq_getElem hks]
    rfl
   obtain⟨c0,c1,c2,c3⟩:=hjn.tcells hTb hil;have htk:=HG.o.takes _ (j.Tp_mem hil);have hst9:=HT.o i;have hlb:=lenTo_le HG.o HT.o i (by rw[j.nt];omega);have HSn:=hI (show lenTo j.p st (i+1)=max (lenTo j.p st i) (st.getD i 0+(j.T i).p.takes) by rw[<- j.pT];rfl);generalize j.T i=t at c0 c1 c2 c3 htk HSn;generalize st.getD i 0=s at s0 hst9 HSn;generalize lenTo j.p st i=L at hlb HSn;obtain⟨tk,htk'⟩:∃x,t.p.takes=x:=⟨_,rfl⟩
   rw[htk'] at c1 htk HSn;obtain⟨W4,hW4⟩:∃W4,W4=wr.alloc (.cells #[.string t.p.name,.int .i64 tk,.slice t.NA t.p.needs.length t.nc,.slice t.UA t.p.uses.length t.uc] 46):=⟨_,rfl⟩
   have HB4:=hI (show Bl W0 W4 by rw[hW4];exact Hb.o.alloc hsr _);have r1:W4.cell? ⟨wr.heap.size,1,none⟩=some (.int .i64 tk):=by rw[hW4];exact alloc_cell rfl
   have s1:W4.cell? ⟨ub,uoff+i,none⟩=some (.int .i64 s):=by rw[hW4];exact(World.cell?_alloc_lt _ _ _ (by simp;omega)).trans s0
   clear hjn hsn hcs hTb htk';go_upto_region 5 with fail;rw[<- hW4];clear hW4 c0 c1 c2 c3 s0
   go_quiet (fail)
   go_wp2;go_roundw;case rel=>exact⟨i+1,by omega,by go_num,by rw[HSn.o],hI (below_drewN HB4.o _)⟩
   case measure=>simp[intOf];omega
  ·have HE:=hI (show lenOf j.p st=lenTo j.p st i by rw[HL.o,show n=i by omega]);go_wp2;go_ret;exact⟨ret_int HE.o.symm,HU0.o _ Hb.o⟩
theorem Length_any (j:Job) (st:List Int) (SA:Option Addr) (sn sc B:Nat) (w:World) (hj:JIn w B j) (hB:B<=w.heap.size) (hS:Slim j) (hst:StIn w B SA sn sc st) :
  Calls Tryz.prog 39 #[jobV j,.slice SA sn sc] w fun e w'=>e= .returned (.tuple #[.int .i64 (lnV j.p st),.int .i64 (lnErr j.p st)])/\Bl w w':=by
 have hjv:jobV j= .agg #[.slice j.TA j.tasks.length j.tc,.slice j.RA j.res.length j.rc]:=rfl;obtain⟨n,hn⟩:∃n,j.tasks.length=n:=⟨_,rfl⟩
 rw[hn] at hjv;obtain⟨W0,HW0,hs0,HB0,HX00,HU0⟩:=boxes1 w (.cells #[.slice j.TA n j.tc,.slice j.RA j.res.length j.rc] 25);have HJ:=hI (show ∀X:World,Bl W0 X->JIn X B j/\StIn X B SA sn sc st from fun X hX=>⟨hj.below ((HU0.o X hX).mono hB),hst.below ((HU0.o X hX).mono hB)⟩);have HC:=hI (Keeps_any j st SA sn sc B W0 (HJ.o W0 (Below.refl _ _)).1 (by omega) hS (HJ.o W0 (Below.refl _ _)).2);have Hlen:=hI hst.len;have Hn:=hI hn;have HKV:=hI (show kpV j.p st=(decide (kpErr j.p st=0)&&keepsV j.p st) from rfl)
 have HL:=hI (fun(X:World) (hX:Bl W0 X) (hk:kpErr j.p st=0) (hv:keepsV j.p st=true)=>
  have hje:jobErr j.p=0:=by
   unfold kpErr at hk
   by_cases h:jobErr j.p=0
   ·exact h
   ·rw[if_pos h] at hk;exact absurd hk h
  have hl:st.length=j.tasks.length:=by
   unfold kpErr at hk;rw[if_neg (by simpa using hje)] at hk
   by_cases h:st.length=j.p.tasks.length
   ·rw[h,j.nt]
   ·rw[if_neg h] at hk;cases hk
  (⟨hl,length_any j st SA sc B X (HJ.o X hX).1 (by have:=hX.size;omega) (good_of hje) hl (keepsV_time (by rw[j.nt];exact hl) hv) (HJ.o X hX).2.sl⟩:st.length=j.tasks.length/\_))
 have HE:=hI (show lnErr j.p st=if kpErr j.p st≠0 then kpErr j.p st else if keepsV j.p st then 0 else 8 from rfl);have HV:=hI (show lnV j.p st=if lnErr j.p st=0 then lenOf j.p st else 0 from rfl);rw[hjv] at HC HL ⊢;have q0:=W7.bc (j:=0) (HX00.o W0 (Below.refl _ _)) rfl;have q1:=W7.bc (j:=1) (HX00.o W0 (Below.refl _ _)) rfl;clear hj hS hst hn hjv;go_enter Tryz.func39,Tryz.ntmps39;go_upto_region 1 with fail;rw[<- HW0.o];go_upto_region 2 with(go_at_call 21;refine HC.o.mono ?_;rintro e w1 ⟨rfl,hb1⟩;have hs1:=hb1.size;have Hb1:=hI hb1;clear hb1)
 clear q0 q1;have q0:=W7.bc (j:=0) (HX00.o w1 Hb1.o) rfl;have q1:=W7.bc (j:=1) (HX00.o w1 Hb1.o) rfl;cases h0:(kpErr j.p st==0)
 ·have h0':(kpErr j.p st != 0)=true:=by simp[bne,h0]
  have hne:kpErr j.p st≠0:=fun h=>by rw[h] at h0;cases h0
  have H1:=hI (show lnErr j.p st=kpErr j.p st by rw[HE.o,if_pos hne]);have H2:=hI (show lnV j.p st=0 by rw[HV.o,H1.o,if_neg hne]);clear hne;go_wp2;go_ret2;rw[H1.o,H2.o];exact⟨rfl,HU0.o _ Hb1.o⟩
 have h0':(kpErr j.p st != 0)=false:=by simp[bne,h0]
 have hk0:kpErr j.p st=0:=eq_of_beq h0;have Hk0:=hI hk0;have HE1:=hI (show lnErr j.p st=if keepsV j.p st then 0 else 8 by rw[HE.o,if_neg (fun h=>h hk0)]);have HKV2:=hI (show kpV j.p st=keepsV j.p st by rw[HKV.o,hk0];simp);rw[HKV2.o];cases hv:keepsV j.p st
 ·have H1:=hI (show lnErr j.p st=8 by rw[HE1.o,hv];rfl);have H2:=hI (show lnV j.p st=0 by rw[HV.o,H1.o];rfl);clear hk0;go_wp2;go_ret2;rw[H1.o,H2.o];exact⟨rfl,HU0.o _ Hb1.o⟩
 ·have H1:=hI (show lnErr j.p st=0 by rw[HE1.o,hv];rfl);have H2:=hI (show lnV j.p st=lenOf j.p st by rw[HV.o,H1.o];rfl);obtain⟨hl9,hL9⟩:=HL.o w1 Hb1.o hk0 hv;have hsn:sn=n:=by rw[Hlen.o,hl9,Hn.o]
  rw[Hn.o] at hL9;have HL2:=hI hL9;subst hsn;clear hk0 hl9 hL9;go_wp2_with (go_at_call 102;refine HL2.o.mono ?_;rintro e w2 ⟨rfl,hb2⟩;have Hb2:=hI hb2;clear hb2);go_ret2;rw[H1.o,H2.o];exact⟨rfl,HU0.o _ (Hb1.o.trans (Hb2.o.mono (by omega)))⟩
end Go.Proofs.YtjpgnfekbojcaaaGreat
namespace Go.Proofs.YtjpgnfekbojcaaaGreat
open Go.RowKit Go.Shelf Go.Sort W7 W8
attribute [local go_sem] Oper.semAt_some
def clampI (m:Nat) (x:Int):Int:=if 0<=x/\x<m then x else 0
theorem clampI_in {m:Nat} (h:0<m) (x:Int):∃q:Nat,clampI m x=(q:Int)/\q<m:=by
 unfold clampI
 split
 ·exact⟨x.toNat,by omega,by omega⟩
 ·exact⟨0,rfl,h⟩
theorem clampI_eq {m:Nat} {x:Int} (h:0<=x/\x<m):clampI m x=x:=if_pos h
def encC (m:Nat) (x:Int):Value:= .int .i64 (clampI m x)
theorem fail2_any (p q pb sn sc B:Nat) (SA:Option Addr) (st:List Int) (w:World) (hS:Sl w B 1 encInt1 SA st) (hsn:sn=st.length) (_hsl:sn<=sc) (_hsc:sc<=9223372036854775807) (hp:p<sn) (hq:q<sn) (hT:∀i,0<=st.getD i 0/\st.getD i 0<=100000) (hpb:w.cell? ⟨pb,0,none⟩=some (.slice SA sn sc)) :
  Calls Tryz.prog 76 #[.int .i64 (p:Int),.int .i64 (q:Int),.pointer (some ⟨pb,0,none⟩)] w fun e w'=>e= .returned (.int .i64 (st.getD p 0-st.getD q 0))/\∃k os,w'=grow (w.drewN k) os:=by
 obtain⟨ub,uoff,hue,hub,hcs⟩:=hS (by omega);subst hue
 have hc:∀k,k<sn->w.cell? ⟨ub,uoff+k,none⟩=some (.int .i64 (st.getD k 0)):=fun k hk=>by
  have h:=hcs k (by omega) 0 _ rfl;rw[Nat.mul_one,Nat.add_zero] at h;rw[h,List.getD_eq_getElem?_getD,List.getElem?_eq_getElem (by omega)]
  rfl
 have c0:=hc p hp;have c1:=hc q hq;have h0:=hT p;have h1:=hT q;generalize st.getD p 0=a at c0 h0 ⊢;generalize st.getD q 0=b at c1 h1 ⊢;clear hS hcs hc hT hsn;go_enter Tryz.func76,Tryz.ntmps76;go_upto_region 1 with fail
 go_quiet (fail)
 go_wp2;go_ret;exact⟨ret_int (by go_num),_,#[],(grow_empty _).symm⟩
theorem putRow_congr {enc enc':Int->Value} {w:World} {blk off:Nat} {d:Array Int} (h:∀x∈d,enc x=enc' x):putRow enc w blk off d=putRow enc' w blk off d:=by
 unfold putRow
 congr 1
 funext c
 unfold putCells
 congr 1
 funext k x
 split
 ·rename_i hk
  have hk2:k-off<d.size:=by omega
  rw[getElem!_pos d _ hk2];exact h _ (Array.getElem_mem _)
 ·rfl
def SortS (st l:List Int) (base g cap:Nat) (w:World) (e:Ending) (w':World):Prop:=
 e= .returned (.tuple #[])/\w'.ownsRow base 3 1 (.slice (some ⟨g,0,none⟩) l.length cap) l.length ((sortO st l).map (Value.int .i64))/\w.grownBy w' (some g)
theorem insInt_any (st l:List Int) (base g cap pb sn sc B:Nat) (SA:Option Addr) (w:World) (hown:w.ownsRow base 3 1 (.slice (some ⟨g,0,none⟩) l.length cap) l.length (l.map (Value.int .i64))) (hl:l.length<=1000)
  (hS:Sl w B 1 encInt1 SA st) (hsn:sn=st.length) (hsl:sn<=sc) (hsc:sc<=9223372036854775807) (hT:∀i,0<=st.getD i 0/\st.getD i 0<=100000) (hpb:w.cell? ⟨pb,0,none⟩=some (.slice SA sn sc)) (hBg:B<=g) (hpg:pb≠g) (hpl:pb<w.heap.size)
  (hasc:l.Pairwise (· < ·)) (hin:∀x∈l,0<=x/\x<sn) (h0:0<sn) :
  Calls Tryz.prog 188 #[.slice (some ⟨g,0,none⟩) l.length cap,.int .i64 0,.int .i64 l.length,.func (.func 76) #[] #[.pointer (some ⟨pb,0,none⟩)]] w (SortS st l base g cap w):=by
 have eg:∀args w,(callFunc 76 args).run Tryz.prog w= .ok (.enter 76 args) w:=enters_of Tryz.func76 (by kernel_rfl) rfl;have hgl:=(hown.lt g rfl).2;have henc:∀x∈l,encC sn x=Value.int .i64 x:=fun x hx=>by unfold encC;rw[clampI_eq (hin x hx)]
 have hH:Holds (encC sn) w g 0 l.toArray:=fun j hj=>by
  have h:=holds_own1 hown j hj;have hj':j<l.length:=by simpa using hj
  refine⟨?_,h.2⟩;rw[h.1,getElem!_pos _ j hj];simp only[List.getElem_toArray];rw[henc _ (List.getElem_mem hj')]
 have hcmp:CmpLays1 Tryz.prog 76 #[.pointer (some ⟨pb,0,none⟩)] (encC sn) (fun x y=>st.getD (clampI sn x).toNat 0-st.getD (clampI sn y).toNat 0) g 0 l.toArray.size w:=fun m os dk hs x y=>by
  obtain⟨p,hp,hpl2⟩:=clampI_in h0 x;obtain⟨q,hq,hql2⟩:=clampI_in h0 y
  have hgr:w.grownBy (sortWorld (encC sn) w g 0 m dk os) (some g):=by
   refine⟨rfl,rfl,rfl,by simp[sortWorld,putRow,mapBlock,Sort.ahead,grow],fun i hi hne=> ?_⟩;unfold sortWorld;rw[heap_grow_old _ _ (by simpa [putRow,mapBlock,Sort.ahead] using hi)];have:g≠i:=fun e=>hne (by rw[e])
   simp[putRow,mapBlock,Sort.ahead,Array.getElem?_modify,this]
  have hbl:Below B w (sortWorld (encC sn) w g 0 m dk os):=⟨hgr.os,hgr.tape,hgr.output,hgr.size,fun i hi=>hgr.block i (by omega) (by simp;omega)⟩
  have hc:=fail2_any p q pb sn sc B SA st (sortWorld (encC sn) w g 0 m dk os) (hS.below hbl) hsn hsl hsc hpl2 hql2 hT ((World.cell?_of_block (a:=⟨pb,0,none⟩) (hgr.block pb hpl (by simpa using hpg))).trans hpb)
  show Calls Tryz.prog 76 #[.int .i64 (clampI sn x),.int .i64 (clampI sn y),.pointer (some ⟨pb,0,none⟩)] (sortWorld (encC sn) w g 0 m dk os) fun e w'=>e= .returned (.int .i64 (st.getD (clampI sn x).toNat 0-st.getD (clampI sn y).toNat 0))/\∃q os',w'=grow ((sortWorld (encC sn) w g 0 m dk os).drewN q) os'
  rw[hp,hq];exact hc
 have hcon:=Any.insertionSortCmpFunc_s Tryz.insInt (encC sn) (fun x y=>st.getD (clampI sn x).toNat 0-st.getD (clampI sn y).toNat 0) 76 #[.pointer (some ⟨pb,0,none⟩)] g 0 cap 0 l.length l.toArray l.toArray w w eg hcmp ⟨fun x=>by simp[encC,Value.oneCell'],hH,hgl⟩ rfl (SW.start hH) (Nat.zero_le _) (by simp) (by rw[List.size_toArray];omega)
 change Calls Tryz.prog 188 _ _ _ at hcon
 rw[List.size_toArray] at hcon;refine hcon.mono fun e w' ⟨he,hsw⟩=>⟨he,?_⟩
 have hE:(insertionSort (ltOf fun x y:Int=>st.getD (clampI sn x).toNat 0-st.getD (clampI sn y).toNat 0) l.toArray 0 l.length)=(sortO st l).toArray:=by
  have h1:insertionSort (ltOf fun x y:Int=>st.getD (clampI sn x).toNat 0-st.getD (clampI sn y).toNat 0) l.toArray 0 l.toArray.size=insertionSort (ltS st) l.toArray 0 l.toArray.size:=ins_congr (fun p q hpq hq=>by
   have hq':q<l.length:=by simpa using hq
   have hp':p<l.length:=by omega
   rw[getElem!_pos _ q hq,getElem!_pos _ p (by simpa using hp')];have e1:=clampI_eq (hin _ (List.getElem_mem hq'));have e2:=clampI_eq (hin _ (List.getElem_mem hp'))
   show decide (st.getD (clampI sn l[q]).toNat 0-st.getD (clampI sn l[p]).toNat 0<0)=decide (st.getD l[q].toNat 0<st.getD l[p].toNat 0)
   rw[decide_eq_decide,e1,e2];omega)
  rw[List.size_toArray] at h1;have h2:=stable_eq st hasc;rw[List.size_toArray] at h2;rw[h1,<-h2]
 rw[hE] at hsw;obtain⟨n,os,hw⟩:=hsw;have hp:=(sortO_ok st hasc).1;unfold sortWorld at hw;rw[putRow_congr (enc':=Value.int .i64) (fun x hx=>henc x (hp.mem_iff.1 (by simpa using hx)))] at hw;rw[hw];exact⟨sorted_own1 hown hp.length_eq,grown_sorted1⟩
theorem insNone_any (v f:Value) (w:World) :
  Calls Tryz.prog 188 #[v,.int .i64 0,.int .i64 0,f] w (fun e w'=>e= .returned (.tuple #[])/\w'=w):=by
 go_enter Tryz.func188,Tryz.ntmps188;go_wp2;refine wp_loop_rounds 1 ?_;rw[rounds_succ];go_wp2;go_end0;exact⟨rfl,rfl⟩
theorem stableOne_any (v f:Value) (n:Nat) (w:World) (R:Ending->World->Prop) (hn:n<=19) (H:Calls Tryz.prog 188 #[v,.int .i64 0,.int .i64 (n:Int),f] w fun e w'=>e= .returned (.tuple #[])/\R e w') :
  Calls Tryz.prog 146 #[v,.int .i64 (n:Int),f] w R:=by
 have H:=hI H;have h1:decide ((20:Int)<=(n:Int))=false:=by simp;omega
 have h2:decide ((20:Int)<(n:Int))=false:=by simp;omega
 go_enter Tryz.func146,Tryz.ntmps146;go_wp2;refine wp_loop_rounds 1 ?_;rw[rounds_succ];go_wp2_with (go_at_call 188;refine H.o.mono ?_;rintro e w1 ⟨rfl,hs⟩;have Hs:=hI hs;clear hs);refine wp_loop_rounds 1 ?_;rw[rounds_succ];go_wp2;go_end0;exact Hs.o
def SortT (st l:List Int) (base:Nat) (v:Value) (w:World) (e:Ending) (w':World):Prop:=
 e= .returned (.tuple #[])/\w'.ownsRow base 3 1 v l.length ((sortO st l).map (Value.int .i64))/\w.grownBy w' v.ownBlock
theorem stableI_any (st l:List Int) (base pb sn sc B:Nat) (v:Value) (SA:Option Addr) (w:World) (hown:w.ownsRow base 3 1 v l.length (l.map (Value.int .i64))) (hl:l.length<=19)
  (hS:Sl w B 1 encInt1 SA st) (hsn:sn=st.length) (hsl:sn<=sc) (hsc:sc<=9223372036854775807) (hT:∀i,0<=st.getD i 0/\st.getD i 0<=100000) (hpb:w.cell? ⟨pb,0,none⟩=some (.slice SA sn sc)) (hBb:B<=base) (hpg:pb<base) (hpl:pb<w.heap.size)
  (hasc:l.Pairwise (· < ·)) (hin:∀x∈l,0<=x/\x<sn) :
  Calls Tryz.prog 75 #[v,.func (.func 76) #[] #[.pointer (some ⟨pb,0,none⟩)]] w (SortT st l base v w):=by
 obtain⟨A,c,hv,hc1,hc2⟩:=own_cap' hown
 have H:Calls Tryz.prog 146 #[v,.int .i64 (l.length:Int),.func (.func 76) #[] #[.pointer (some ⟨pb,0,none⟩)]] w (SortT st l base v w):=by
  refine stableOne_any _ _ _ _ _ hl ?_;rcases hown.2 with⟨e0,h0⟩ | ⟨g,cap,cur,e0,hb,hg,_⟩
  ·have hl0:l=[]:=List.eq_nil_of_length_eq_zero h0;subst hl0;refine(insNone_any v _ w).mono ?_;rintro e w' ⟨rfl,rfl⟩;exact⟨rfl,rfl,hown,World.grownBy.refl _ _⟩
  ·subst e0
   by_cases h0:l=[]
   ·subst h0;refine(insNone_any _ _ w).mono ?_;rintro e w' ⟨rfl,rfl⟩;exact⟨rfl,rfl,hown,World.grownBy.refl _ _⟩
   ·have h0s:0<sn:=by
     obtain⟨x,hx⟩:=List.exists_mem_of_ne_nil l h0;have:=hin x hx;omega
    refine(insInt_any st l base g cap pb sn sc B SA w hown (by omega) hS hsn hsl hsc hT hpb (by omega) (by omega) hpl hasc hin h0s).mono ?_;rintro e w' ⟨h1,h2,h3⟩;exact⟨h1,h1,h2,h3⟩
 have H:=hI H;subst hv;generalize l.length=n at H hc1;clear hown hS hsn hT hpb hasc hin hl;go_enter Tryz.func75,Tryz.ntmps75;go_wp2_with (go_at_call 146;refine H.o.mono ?_;rintro e w1 ⟨rfl,hs⟩;have Hs:=hI hs;clear hs);go_end0;exact⟨rfl,Hs.o⟩
end Go.Proofs.YtjpgnfekbojcaaaGreat
namespace Go.Proofs.YtjpgnfekbojcaaaGreat
open Go.RowKit W7 W8
attribute [local go_sem] Oper.semAt_some
theorem values_seq (zs:List Int) (A:Option Addr) (Bs n0 n cap:Nat) (w0:World) (hn:n=zs.length) (hBs:Bs<w0.heap.size) (hn0:n0<=w0.heap.size) (hc:w0.cell? ⟨Bs,0,none⟩=some (.slice A n cap)) (hS:Sl w0 n0 1 encInt1 A zs) (hl:n<=100000) :
  SeqR Tryz.prog 131 #[.pointer (some ⟨Bs,0,none⟩)] (fun x:Int=> #[Value.int .i64 x]) (fun _ _=>True) (Below n0) (fun ys=>ys=zs) (fun pre=>pre <+: zs) zs.length w0:=by
 subst hn;intro l J Jx W hW hJ hJx hY h0;have hc':=(hW.cell (p:=⟨Bs,0,none⟩) hBs).trans hc;have HS:=hI (hS.below (hW.mono hn0));clear hc hS;refine(callsIn_wide (n:=1)).1 ?_;refine callsIn_of_wp Tryz.func131 rfl trivial ?_ rfl;simp only[Tryz.ntmps131,List.size_toArray,List.length_cons,List.length_nil,Nat.reduceAdd,Nat.reduceSub,Array.replicate_succ,Array.replicate_zero,List.push_toArray,List.append_toArray,List.nil_append,List.cons_append]
 gi_wp2
 gi_loopw [7] (fun i wr=>∃k:Nat,k<=zs.length/\i= .int .i64 k/\Hid (J (zs.take k) wr)/\Hid (Below n0 W wr)) (fun i _=>zs.length-(intOf i).toNat)
 case atStart=>exact⟨0,Nat.zero_le _,rfl,hI h0,hI (Below.refl _ _)⟩
 case round=>
  obtain⟨k,hk,rfl,HJ,Hb⟩:=hrel
  by_cases hlt:k<zs.length
  ·obtain⟨b,off,rfl,hbB,hcells⟩:=(HS.o.below Hb.o) (by omega)
   have c0:wr.cell? ⟨b,off+k,none⟩=some (.int .i64 zs[k]):=by have h:=hcells k hlt 0 _ rfl;rwa [Nat.mul_one,Nat.add_zero] at h
   obtain⟨fn,tmps,assign,body,hy,hR⟩:=hY 0 (zs.take k) zs[k] wr HJ.o (by rw[List.length_take];omega) trivial;have HT:=hI (show zs.take (k+1)=zs.take k++[zs[k]] from List.take_succ_eq_append_getElem hlt);generalize zs[k]=x at c0 hy hR HT;clear hcells
   gi_wp2
   refine hR.mono ?_;rintro e W3 (⟨rfl,hJ3,hk3⟩ | ⟨rfl,hJx3⟩)
   ·gi_wp2
    go_roundw;case rel=>exact⟨k+1,by omega,by simp,hI (by rw[HT.o];exact hJ3),hI (Hb.o.trans hk3)⟩
    case measure=>simp[intOf];omega
   ·gi_wp2
    refine bodyPost_ret (results_none rfl _ _ _) rfl ?_;exact⟨⟨_,rfl⟩,.inr ⟨_,by rw[<- HT.o];exact List.take_prefix _ _,hJx3⟩⟩
  ·have HE:=hI (show zs.take k=zs from List.take_of_length_le (by omega))
   gi_wp2
   go_end0;exact⟨⟨_,rfl⟩,.inl ⟨_,rfl,by rw[HE.o] at HJ;exact HJ.o⟩⟩
def SeqI (B0:Nat) (W0:World) (pre:List Int) (W:World):Prop:=
 (∃v,W.cell? ⟨B0,0,none⟩=some v/\W.frozen? ⟨B0,0,none⟩=false/\W.ownsRow W0.heap.size 3 1 v pre.length (pre.map (Value.int .i64)))/\Below B0 W0 W
theorem seqI_own {B:Nat} {W0:World} (hB:B<W0.heap.size):OwnFrom W0.heap.size (SeqI B W0):=by
 rintro ys W W' row ⟨⟨v,h1,h2,h3⟩,hb⟩ hg hr;have hsz:=hb.size;have hne:some B≠row:=fun e=>by have:=(hr B e.symm).1;omega
 have hblk:=hg.block B (by omega) hne;refine⟨⟨v,by simp only[World.cell?] at h1 ⊢;rw[hblk];exact h1,by simp only[World.frozen?] at h2 ⊢;rw[hblk];exact h2,h3.kept hg ?_⟩,⟨hg.os.trans hb.os,hg.tape.trans hb.tape,hg.output.trans hb.output,Nat.le_trans hsz hg.size,fun i hi=>(hg.block i (by omega) (fun e=>by have:=(hr i e.symm).1;omega)).trans (hb.block i hi)⟩⟩;cases hv:v.ownBlock with
 | none=>exact .inl rfl
 | some k=>
  refine .inr fun e=> ?_
  obtain⟨cs,hc⟩:=owns_block h3 k hv;obtain⟨_,o,ho1,ho2⟩:=hr k e.symm;rw[hc] at ho1;cases ho1;simp[Obj.isCells] at ho2
theorem round_keptI {b n0:Nat} {W Wk W5:World} {base n e:Nat} {v u:Value} {xs:List Value} (hb:Bl W Wk) (ho:W.ownsRow base e 1 v n xs) (hg:Wk.grownBy W5 v.ownBlock) (h1:n0<=base) (h2:n0<=b) (h3:n0<=W.heap.size) :
  KeepsOthers W (W5.setCell ⟨b,0,none⟩ u)/\Below n0 W (W5.setCell ⟨b,0,none⟩ u):=by
 have hsz:W.heap.size<=W5.heap.size:=Nat.le_trans hb.size hg.size
 have key:∀k o,W.heap[k]? =some o->v.ownBlock≠some k->W5.heap[k]? =some o:=fun k o h1 h2=>by
  have hk:=(Array.getElem?_eq_some_iff.1 h1).1;exact(hg.block k (by have:=hb.size;omega) (Ne.symm h2)).trans ((hb.block k hk).trans h1)
 constructor
 ·refine KeepsOthers.trans (B:=W5) ⟨hsz,fun k o h1 h2=>key k o h1 fun e=> ?_⟩ (KeepsOthers.setCell _ _ _);obtain⟨cs,hc⟩:=owns_block ho k e;rw[hc] at h1;cases h1;simp[Obj.isCells] at h2
 ·refine Below.setCell (p:=⟨b,0,none⟩) ?_ h2 _;exact(hb.mono h3).grown hg (by have:=hb.size;omega) (fun k hk=>by have:=(ho.lt k hk).1;omega)
theorem appendSeq_any (zs:List Int) (A:Option Addr) (Bs n0 n cap:Nat) (w:World) (hn:n=zs.length) (hBs:Bs<w.heap.size) (hn0:n0<=w.heap.size) (hc:w.cell? ⟨Bs,0,none⟩=some (.slice A n cap)) (hS:Sl w n0 1 encInt1 A zs) (hl:n<=100000) :
  Calls Tryz.prog 178 #[.slice none 0 0,.func (.func 131) #[] #[.pointer (some ⟨Bs,0,none⟩)]] w fun e w'=>∃v,e= .returned v/\w'.ownsRow w.heap.size 3 1 v zs.length (zs.map (Value.int .i64))/\Bl w w':=by
 subst hn;obtain⟨W0,hW0⟩:∃W0,W0=w.alloc (.cells #[.slice none 0 0] 26):=⟨_,rfl⟩
 have hs0:W0.heap.size=w.heap.size+1:=by rw[hW0];simp
 have hB0:Bl w W0:=by rw[hW0];exact(Below.refl _ _).alloc (Nat.le_refl _) _
 have hd0:W0.cell? ⟨w.heap.size,0,none⟩=some (.slice none 0 0):=by rw[hW0];exact alloc_cell rfl
 have hf0:W0.frozen? ⟨w.heap.size,0,none⟩=false:=by rw[hW0];exact alloc_free
 refine(callsIn_wide (n:=9)).1 ?_;refine callsIn_of_wp_marks Tryz.func178 rfl trivial ?_ rfl;simp only[Tryz.ntmps178,List.size_toArray,List.length_cons,List.length_nil,Nat.reduceAdd,Nat.reduceSub,Array.replicate_succ,Array.replicate_zero,List.push_toArray,List.append_toArray,List.nil_append,List.cons_append]
 gi_wp2
 rw[<- hW0]
 refine wpIn_rangeFunc_R (gf:=131) rfl (enters_of Tryz.func131 (by kernel_rfl) rfl) (values_seq zs A Bs n0 zs.length cap W0 rfl (by omega) (by omega) ((hB0.cell (p:=⟨Bs,0,none⟩) hBs).trans hc) (hS.below (hB0.mono hn0)) hl) (fun h1 h2=>h1.trans h2) (fun W l o o' h1 h2 h3=>(Below.refl n0 W).grown (grownBy_putObj' W l o') (by have:=(Array.getElem?_eq_some_iff.1 h2).1;omega) (fun k e=>by cases e;omega)) (fun _ _ _ _ _ _ _ _ h=>h) (Below.refl _ _) (fun _=>rfl)
  (SeqI w.heap.size W0) (fun _ _ _=>False) (seqI_own (by omega)) (fun _ _ _ _ _ h _ _=>h.elim) ⟨⟨_,hd0,hf0,World.ownsRow_nil _ _ _ _⟩,Below.refl _ _⟩
  (fun x=>{ tmps:= #[.slice none 0 0,.func (.func 131) #[] #[.pointer (some ⟨Bs,0,none⟩)],.pointer (some ⟨w.heap.size,0,none⟩),undef,.slice none 0 0,.int .i64 x,.func (.func 131) #[] #[.pointer (some ⟨Bs,0,none⟩)],.int .i64 x,undef,undef,undef,undef,undef],defers:=[] }) ?assign ?body ?done ?stop
 case assign=>
  intro lp m x W K hK
  gi_wp2
  exact hK
 case stop=>intro D c pre W _ _ h;exact h.elim
 case done=>
  rintro D ys W hD rfl ⟨⟨v,hv1,hv2,hv3⟩,hb⟩ hK;have hDW:=(Array.getElem?_eq_some_iff.1 hK).1
  have hne:some D≠v.ownBlock:=fun e=>by
   obtain⟨cs',hc'⟩:=owns_block hv3 D e.symm;rw[hc'] at hK;cases hK
  have Ho:=hI hv3;have Hb:=hI hb;have HK:=hI hK;obtain⟨Av,cv,rfl,_,_⟩:=own_cap' hv3;clear hv3 hb hK
  gi_wp2
  have Hfin:=hI (show((W.putObj D (.deferred none)).ownsRow W0.heap.size 3 1 (.slice Av ys.length cv) ys.length (ys.map (Value.int .i64))) from Ho.o.kept (grownBy_putObj' W D _) (by
   cases hv:(Value.slice Av ys.length cv).ownBlock with
   | none=>exact .inl rfl
   | some k=>exact .inr (fun e=>hne (by rw[hv];exact e.symm))))
  exact⟨by simp,.inl ⟨_,_,rfl,run_takeDeferred HK.o,by
   refine⟨_,results_tmp rfl _ _ _,_,rfl,own_mono Hfin.o (by omega),?_⟩;exact hB0.trans ((Hb.o.trans (belowK_b (w:=W0) (Nat.le_refl _) W D _ _ hD HK.o rfl rfl |>.mono (by omega))).mono (Nat.le_refl _))⟩⟩
 case body=>
  rintro lp m pre x W ⟨⟨v,hv1,hv2,hv3⟩,hb⟩ hlen _;have hbs:=hb.size;have Hv:=hI hv3;have Hb:=hI hb;obtain⟨Av,cv,rfl,_,_⟩:=own_cap' hv3;obtain⟨i0,hi,hz0,hz1,hz2⟩:=info_parts (show(Tryz.prog.info? 3).map (fun i=>(i.zero,i.size,i.bytes))=some (some (.int .i64 0),1,8) by kernel_rfl);clear hv3 hb hc hS hd0 hf0 hW0
  gi_wp2_with (gi_at_builtin;go_loud (refine wpListIn_append_own _ rfl _ _ 26 rfl W0.heap.size 3 i0 (.int .i64 0) 1 8 Tryz.underlying26 hi hz0 hz1 hz2 rfl (by decide) _ _ _ rfl (Hv.o.alloc _) ⟨W.heap.size,0,none⟩ 1 1 [.int .i64 x] rfl rfl (cell_one_new _ _ _) (by simp[Value.oneCell']) (by unfold maxLen;omega) (by omega) (by simp;omega) ?_;intro v' w1 hown' hgrow _;obtain⟨g',cap',rfl,_,_,_,_,_⟩:=owns_cells hown' (by omega);have hblk:=(hgrow.block w.heap.size (by simp;omega) (fun e=>by have:=(Hv.o.lt _ e.symm).1;omega)).trans (Below.heap_alloc W _ w.heap.size (by omega));have Hr:=hI hown';have Hg:=hI hgrow;have x2:w1.cell? ⟨w.heap.size,0,none⟩=some (.slice Av pre.length cv):=(by simp only[World.cell?] at hv1 ⊢;rw[hblk];exact hv1);have x3:w1.frozen? ⟨w.heap.size,0,none⟩=false:=(by simp only[World.frozen?] at hv2 ⊢;rw[hblk];exact hv2);clear hown' hgrow hblk))
  have hro:=round_keptI (n0:=n0) (b:=w.heap.size) (u:= .slice (some ⟨g',0,none⟩) (pre.length+1) cap') ((Below.refl W.heap.size W).alloc (Nat.le_refl _) (.cells #[.int .i64 x] 3)) Hv.o Hg.o (by omega) hn0 (by omega);have hsz:=Hg.o.size;refine⟨hro.1,hro.2,⟨_,World.cell?_setCell_same' _ _ _ (by rw[x2];rfl),by rw[World.frozen?_setCell];exact x3,?_⟩,?_⟩
  ·rw[List.length_append,List.map_append];exact ownsRow_setCell_below Hr.o (by simp;omega) _
  ·exact((Hb.o.alloc (by omega) _).grown Hg.o (by simp;omega) (fun k e=>by have:=(Hv.o.lt k e).1;omega)).setCell (p:=⟨w.heap.size,0,none⟩) (Nat.le_refl _) _
theorem insNil_any (A:Option Addr) (c:Nat) (w:World):Calls Tryz.prog 201 #[.slice A 0 c,.int .i64 0,.int .i64 0] w fun e w'=>e= .returned (.tuple #[])/\w'=w:=by
 go_enter Tryz.func201,Tryz.ntmps201;go_wp2;refine wp_loop_rounds 1 ?_;rw[rounds_succ];go_wp2;go_end0;exact⟨rfl,rfl⟩
theorem pdqNil_any (A:Option Addr) (c:Nat) (k:Int) (w:World):Calls Tryz.prog 179 #[.slice A 0 c,.int .i64 0,.int .i64 0,.int .i64 k] w fun e w'=>e= .returned (.tuple #[])/\w'=w:=by
 go_enter Tryz.func179,Tryz.ntmps179;go_wp2;refine wp_loop_rounds 1 ?_;rw[rounds_succ];go_wp2_with (go_at_call 201;refine(insNil_any A c _).mono ?_;rintro e w' ⟨rfl,rfl⟩);refine bodyPost_ret (results_none rfl _ _ _) rfl ?_;exact⟨rfl,rfl⟩
theorem len0_any (w:World):Calls Tryz.prog 180 #[.int .u64 0] w fun e w'=>(∃k,e= .returned (.int .i64 k))/\w'=w:=by
 go_enter Tryz.func180,Tryz.ntmps180;go_wp2;go_ret;exact⟨⟨_,rfl⟩,rfl⟩
theorem sortNil_any (A:Option Addr) (c:Nat) (w:World):Calls Tryz.prog 130 #[.slice A 0 c] w fun e w'=>e= .returned (.tuple #[])/\w'=w:=by
 go_enter Tryz.func130,Tryz.ntmps130;go_wp2_with (first | (go_at_call 180;refine(len0_any _).mono ?_;rintro e w' ⟨⟨k,rfl⟩,rfl⟩) | (go_at_call 179;refine(pdqNil_any A c _ _).mono ?_;rintro e w' ⟨rfl,rfl⟩));go_end0;exact⟨rfl,rfl⟩
theorem collect_any (zs:List Int) (A:Option Addr) (Bs n0 n cap:Nat) (w:World) (hn:n=zs.length) (hBs:Bs<w.heap.size) (hn0:n0<=w.heap.size) (hc:w.cell? ⟨Bs,0,none⟩=some (.slice A n cap)) (hS:Sl w n0 1 encInt1 A zs) (hl:n<=100000) :
  Calls Tryz.prog 129 #[.func (.func 131) #[] #[.pointer (some ⟨Bs,0,none⟩)]] w fun e w'=>∃v,e= .returned v/\w'.ownsRow w.heap.size 3 1 v zs.length (zs.map (Value.int .i64))/\Bl w w':=by
 have H:=hI (appendSeq_any zs A Bs n0 n cap w hn hBs hn0 hc hS hl);clear hn hBs hn0 hc hS hl;go_enter Tryz.func129,Tryz.ntmps129;go_wp2_with (go_at_call 178;refine H.o.mono ?_;rintro e w1 ⟨v,rfl,ho,hb⟩;have Ho:=hI ho;have Hb:=hI hb;clear ho hb);go_ret;exact⟨_,rfl,Ho.o,Hb.o⟩
theorem sorted_any (zs:List Int) (A:Option Addr) (Bs n0 n cap:Nat) (w:World) (hn:n=zs.length) (hBs:Bs<w.heap.size) (hn0:n0<=w.heap.size) (hc:w.cell? ⟨Bs,0,none⟩=some (.slice A n cap)) (hS:Sl w n0 1 encInt1 A zs) (hl:n<=100000) :
  Calls Tryz.prog 58 #[.func (.func 131) #[] #[.pointer (some ⟨Bs,0,none⟩)]] w fun e w'=>∃v,e= .returned v/\w'.ownsRow w.heap.size 3 1 v zs.length ((sortI zs).map (Value.int .i64))/\Bl w w':=by
 have H:=hI (collect_any zs A Bs n0 n cap w hn hBs hn0 hc hS hl);have hzl:zs.length<=100000:=by omega
 clear hn hBs hn0 hc hS hl;go_enter Tryz.func58,Tryz.ntmps58;go_upto_region 2 with(go_at_call 129;refine H.o.mono ?_;rintro e w1 ⟨v,rfl,ho,hb⟩;have Ho:=hI ho;have Hb:=hI hb;clear ho hb)
 have hsz:=Hb.o.size;cases zs with
 | nil=>
  obtain⟨Av,cv,rfl,_,_⟩:=own_cap' Ho.o;go_wp2_with (go_at_call 130;refine(sortNil_any _ _ _).mono ?_;rintro e w' ⟨rfl,rfl⟩);go_ret;exact⟨_,rfl,Ho.o,Hb.o⟩
 | cons x l=>
  obtain⟨g,cap',rfl,hg,_,_,_,_⟩:=owns_cells Ho.o (by simp);have HSo:=hI (sortInt_any (x::l) w.heap.size g cap' w1 Ho.o hzl);go_wp2_with (go_at_call 130;refine HSo.o.mono ?_;rintro e w2 ⟨rfl,ho2,hg2⟩;have Ho2:=hI ho2;have Hb2:=hI (Hb.o.grown hg2 hsz (fun k hk=>by cases hk;exact hg));clear ho2 hg2);go_ret;exact⟨_,rfl,Ho2.o,Hb2.o⟩
end Go.Proofs.YtjpgnfekbojcaaaGreat
namespace W8
open W7
theorem sortI_nodup (l:List Int):(sortI l).Nodup↔l.Nodup:=(sortI_perm l).nodup_iff
theorem keeps_iff {l:List Int} {i:Nat} (hi:i<l.length):Go.Lib.keeps l.toArray i=true↔i=0\/l[i]≠l[i-1]'(by omega):=by
 unfold Go.Lib.keeps;rw[decide_eq_true_iff,getElem!_pos l.toArray i (by simpa using hi),getElem!_pos l.toArray (i-1) (by simp;omega)];simp
theorem compact_len {l:List Int} (hs:l.Pairwise (· <= ·)):(Go.Lib.compact l).length=l.length↔l.Nodup:=by
 constructor
 ·intro h;unfold Go.Lib.compact Go.Lib.compactUpTo at h;rw[List.length_map] at h;have h1:((List.range l.length).filter (Go.Lib.keeps l.toArray)).length=(List.range l.length).length:=by rw[h];simp
  rw[List.length_filter_eq_length_iff] at h1;rw[List.Nodup,List.pairwise_iff_getElem];intro i k hi hk hik he;rw[List.pairwise_iff_getElem] at hs;have h2:=(keeps_iff hk).1 (h1 k (List.mem_range.2 hk));have h3:l[k-1]<=l[k]:=hs (k-1) k (by omega) hk (by omega)
  have h4:l[i]<=l[k-1]'(by omega):=by
   by_cases e:i=k-1
   ·subst e;exact Int.le_refl _
   ·exact hs i (k-1) hi (by omega) (by omega)
  rcases h2 with h2 | h2
  ·omega
  ·omega
 ·intro h;rw[Go.Lib.compact_all l (fun i hi=>(keeps_iff hi).2 ?_)]
  by_cases h0:i=0
  ·exact .inl h0
  ·right
   intro he;rw[List.Nodup,List.pairwise_iff_getElem] at h;exact h (i-1) i (by omega) hi (by omega) he.symm
theorem any_perm {p:Int->Bool} {l l':List Int} (h:l.Perm l'):l.any p=l'.any p:=by
 rw[Bool.eq_iff_iff,List.any_eq_true,List.any_eq_true];exact⟨fun⟨x,hx,hp⟩=>⟨x,h.mem_iff.1 hx,hp⟩,fun⟨x,hx,hp⟩=>⟨x,h.mem_iff.2 hx,hp⟩⟩
theorem perm_false_len {order:List Int} {n:Nat} (h:order.length≠n):permB order n=false:=by
 unfold permB;rw[decide_eq_false h];rfl
theorem perm_false_any {order:List Int} {n:Nat} (hl:order.length=n) (h:(sortI order).any (fun x=> !withinB x 0 ((n:Int)-1))=true):permB order n=false:=by
 unfold permB;rw[decide_eq_true hl]
 have:order.all (fun k=>withinB k 0 ((n:Int)-1))=false:=by
  rw[any_perm (sortI_perm order),List.any_eq_true] at h;obtain⟨x,hx,hp⟩:=h;rw[Bool.eq_false_iff];intro ha;rw[List.all_eq_true] at ha;rw[ha x hx] at hp;cases hp
 rw[this]
 rfl
theorem perm_rest {order:List Int} {n:Nat} (hl:order.length=n) (h:(sortI order).any (fun x=> !withinB x 0 ((n:Int)-1))=false):permB order n=decide ((Go.Lib.compact (sortI order)).length=n):=by
 unfold permB;rw[decide_eq_true hl]
 have:order.all (fun k=>withinB k 0 ((n:Int)-1))=true:=by
  rw[any_perm (sortI_perm order),List.any_eq_false] at h;rw[List.all_eq_true];intro x hx;have:=h x hx
  simpa using this
 rw[this];simp only[Bool.and_self,Bool.true_and];rw[<- hl,<-sortI_length order];exact decide_eq_decide.2 ((sortI_nodup order).symm.trans (compact_len (sortI_sorted order)).symm)
end W8
namespace Go.Proofs.YtjpgnfekbojcaaaGreat
open Go.RowKit Go.Shelf Go.Sort W7 W8
theorem grown_putRow {w:World} {g m:Nat} {d:Array Int}:w.grownBy (putRow (Value.int .i64) (Sort.ahead w m) g 0 d) (some g):=by
 refine⟨rfl,rfl,rfl,by simp[putRow,mapBlock,Sort.ahead],fun i hi hne=> ?_⟩;have:g≠i:=fun e=>hne (by rw[e])
 simp[putRow,mapBlock,Sort.ahead,Array.getElem?_modify,this]
theorem compactI_any (l:List Int) (base:Nat) (v:Value) (w:World) (hown:w.ownsRow base 3 1 v l.length (l.map (Value.int .i64))) (hl:l.length<=100000) :
  Calls Tryz.prog 63 #[v] w fun e w'=>(∃A c,e= .returned (.slice A (Lib.compact l).length c)/\(Lib.compact l).length<=c/\c<=9223372036854775807)/\w.grownBy w' v.ownBlock:=by
 cases l with
 | nil=>
  obtain⟨A,c,rfl,h1,h2⟩:=own_cap' hown;have hcon:=Any.slices_Compact_int_empty Tryz.compactInt A c w
  change Calls Tryz.prog 63 _ _ _ at hcon
  refine hcon.mono fun e w' ⟨he,hw⟩=>⟨⟨A,c,he,h1,h2⟩,by rw[hw];exact World.grownBy.refl _ _⟩
 | cons x l=>
  obtain⟨g,cap',rfl,hg,hgw,hnc,hcap,_⟩:=owns_cells hown (by simp);have hcon:=Any.slices_Compact_int Tryz.compactInt g 0 cap' (x::l) w (holds_own1 hown) (by omega) hnc
  change Calls Tryz.prog 63 _ _ _ at hcon
  refine hcon.mono fun e w' ⟨he,q,hw⟩=>⟨⟨_,cap',he,?_,hcap⟩,?_⟩
  ·have:(Lib.compact (x::l)).length<=(x::l).length:=by
    unfold Lib.compact Lib.compactUpTo;rw[List.length_map];have:=List.length_filter_le (Lib.keeps (x::l).toArray) (List.range (x::l).length)
    simpa using this
   omega
  ·rw[hw];exact grown_putRow
end Go.Proofs.YtjpgnfekbojcaaaGreat
