/- The specification's earliest start of a task. -/
import Derived.Test.YtjpgnfekbojcaaaGreatWJLaw1
import Derived.Test.YtjpgnfekbojcaaaGreatWLaid
set_option maxHeartbeats 8000000
set_option maxRecDepth 100000
namespace Go.Proofs.YtjpgnfekbojcaaaGreat
open Go.RowKit W7 W8
attribute [local go_sem] Oper.semAt_some
theorem refEarliest_any (j:Job) (b:Bd) (SA:Option Addr) (sc pb n k:Nat) (fr:Int) (B:Nat) (w:World) (hj:JIn w B j) (hB:B<=w.heap.size) (hR:RBd w SA pb n b) (hn:j.tasks.length=n) (hG:JGood j.p) (hs:BOk b) (hk:k<n) (hfr:0<=fr/\fr<=1000000) :
  Calls Tryz.prog 136 #[jobV j,.slice SA n sc,.slice (some ⟨pb,0,none⟩) n n,.int .i64 (k:Int),.int .i64 fr] w fun e w'=>∃v,e= .returned (.int .i64 v)/\LeastT (fitsR j.p b k) fr v/\Bl w w':=by
 have hn64:n<=64:=by have:=hG.nt;rw[j.nt,hn] at this;exact this
 obtain⟨tb,off,hTA,htb⟩:=hj.ta (by omega);obtain⟨RA,hRA⟩:=eX j.RA;obtain⟨rn,hrn⟩:=eX j.res.length;have hrl:=hj.rl;have hrc:=hj.rc;have htl:=hj.tl;have htc:=hj.tc;rw[hrn] at hrl;rw[hn] at htl;have hr16:rn<=16:=by have:=hG.nr;rw[j.nr,hrn] at this;exact this
 have hjv:jobV j= .agg #[.slice (some ⟨tb,off,none⟩) n j.tc,.slice RA rn j.rc]:=by unfold jobV;rw[hn,hTA,hRA,hrn]
 obtain⟨F,hF⟩:=eX (fitsR j.p b k);rw[hF];obtain⟨W0,HW0,hs0,HB0,HX00,HU0⟩:=boxes1 w (.cells #[.slice (some ⟨tb,off,none⟩) n j.tc,.slice RA rn j.rc] 25);have HJ:=hI (show ∀X:World,Bl W0 X->JIn X B j/\RBd X SA pb n b from fun X hX=>⟨hj.below ((HU0.o X hX).mono hB),hR.below (HU0.o X hX)⟩)
 have HFt:=hI (fun(X:World) (hX:Bl W0 X) (s:Int) (_: -1000000<=s/\s<=1000000)=>show Calls Tryz.prog 137 #[.agg #[.slice (some ⟨tb,off,none⟩) n j.tc,.slice RA rn j.rc],.slice SA n sc,.slice (some ⟨pb,0,none⟩) n n,.int .i64 (k:Int),.int .i64 s] X fun e w'=>e= .returned (.bool (F s))/\Bl X w' from by
  have h:=refFits_any j b SA sc pb n k s B X (hj.below ((HU0.o X hX).mono hB)) (by have:=hX.size;omega) (hR.below (HU0.o X hX)) hn hG hs hk;rw[hjv,hF] at h;exact h)
 obtain⟨sb,so,hse,hsB,_⟩:=hR.st (by rw[hR.ns];omega);subst hse;have hpb:=blk_lt hR.pl;have Hn:=hI hn;have HTA:=hI hTA;have HRA:=hI hRA;have Hrn:=hI hrn;have HG:=hI hG;have Hs:=hI hs;have HF:=hI hF
 have HSc:=hI (show ∀X:World,Bl W0 X->∀i,i<n->X.cell? ⟨sb,so+i,none⟩=some (.int .i64 (b.st.getD i 0))/\X.cell? ⟨pb,i,none⟩=some (.bool (b.pl.getD i false)) from fun X hX i hi=>by
  obtain⟨_,hrb⟩:=HJ.o X hX;obtain⟨sb',so',hse',_,hsc⟩:=hrb.st (by rw[hrb.ns];omega);cases hse';have h:=hsc i (by rw[hrb.ns];exact hi) 0 _ rfl;rw[Nat.mul_one,Nat.add_zero] at h;refine⟨?_,bc hrb.pl (map_getD (by rw[hrb.np];exact hi))⟩;rw[h,zA,zB (by rw[hrb.ns];exact hi)]
  rfl)
 have HTc:=hI (show ∀X:World,Bl W0 X->∀i,i<n->X.cell? ⟨tb,off+i*4+1,none⟩=some (.int .i64 (j.T i).p.takes) from fun X hX i hi=>((HJ.o X hX).1.tcells HTA.o (by rw[Hn.o];exact hi)).2.1)
 have Hbl:=hI (fun(best:Int) (h0:F fr=false) (h:BestC F fr (CandB j.p b n rn 0) best)=>show LeastT F fr best from by
  have hkp:k<j.p.tasks.length:=by rw[j.nt,hn];exact hk
  rw[<- hF] at h0 h ⊢;refine best_least hG hkp hfr.1 h0 ?_;rw[j.nt,j.nr,hn,hrn];exact h)
 have q0:=kC 0 (HX00.o W0 (zX _ _)) rfl;have q1:=kC 1 (HX00.o W0 (zX _ _)) rfl;rw[hjv];clear hj hR hn hG hTA hjv hRA hrn hs hF;have HF0:=hI (HFt.o W0 (zX _ _) fr (by omega));go_enter Tryz.func136,Tryz.ntmps136;go_upto_region 2 with fail;rw[<- HW0.o];cases hf0:F fr;rotate_left
 ·have HE:=hI (show LeastT F fr fr from .inr ⟨Int.le_refl _,hf0,fun t h1 h2=>absurd h1 (by omega)⟩);rw[hf0] at HF0;clear hf0;go_wp2_with (go_at_call 137;refine HF0.o.mono ?_;rintro e w1 ⟨rfl,hb1⟩;have Hb1:=hI hb1;clear hb1);go_ret;exact⟨fr,rfl,HE.o,HU0.o _ Hb1.o⟩
 rw[hf0] at HF0;have Hf0:=hI hf0;clear hf0;go_wp2_with (go_at_call 137;refine HF0.o.mono ?_;rintro e w1 ⟨rfl,hb1⟩;have Hb1:=hI hb1;clear hb1);clear q0 q1 HF0;go_loopw [11,12] (fun v11 v12 wr=>∃(i:Nat) (best:Int),i<=n/\v12= .int .i64 i/\v11= .int .i64 best/\Hid (BestC F fr (CandE j.p b i) best)/\Hid (Bl W0 wr)) (fun _ v12 _=>n-(intOf v12).toNat);case atStart=>exact⟨0, -1,by omega,rfl,rfl,hI (BestC.first.same fun x=>⟨fun h=>h.elim,fun h=>by obtain⟨q,h1,_⟩:=h;omega⟩),Hb1⟩
 case round=>
  obtain⟨i,best,hi,rfl,rfl,HC,Hb⟩:=hrel;have hsr:=Hb.o.size;have hq:=HX00.o wr Hb.o
  by_cases hlt:i<n
  ·have hil:i<j.tasks.length:=by have:=Hn.o;omega
   obtain⟨s0,p0⟩:=HSc.o wr Hb.o i hlt;have k0:=HTc.o wr Hb.o i hlt;have HEn:=hI (show endV j.p b i=b.st.getD i 0+(j.T i).p.takes by unfold endV;rw[j.pT]);have hst:=Hs.o i;have htm:=HG.o.takes _ (j.Tp_mem hil);have HPc:=hI (fun(X:World) (hX:Bl W0 X)=>(HSc.o X hX i hlt).2);have HCn:=hI (fun(h:b.pl.getD i false=false)=>HC.o.same (candE_no h));have HCs:=hI (fun(h:b.pl.getD i false=true) (h2: ¬(fr<endV j.p b i/\(best<0\/endV j.p b i<best)/\F (endV j.p b i)=true))=>(HC.o.skip h2).same (candE_yes h));have HCp:=hI (fun(h:b.pl.getD i false=true) (h1:fr<endV j.p b i) (h2:F (endV j.p b i)=true) (h3:best<0\/endV j.p b i<best)=>(HC.o.put hfr.1 h1 h2 h3).same (candE_yes h));rw[HEn.o] at HCs HCp;generalize b.st.getD i 0=st at s0 HEn hst HCs HCp;generalize b.pl.getD i false=pi at p0 HPc HCn HCs HCp;generalize (j.T i).p.takes=tm at k0 HEn htm HCs HCp;have y0:=zV (kC 0 hq rfl) (by omega)
   have zs:=zV s0 (by omega);have zk:=zV k0 (by omega);clear s0 p0 k0;have q0:=kC 0 hq rfl;have q1:=kC 1 hq rfl;go_upto_region 7 with fail;clear q0 q1 hq;refine wp_region_later (by kernel_rfl) (by kernel_rfl) ?_
   repeat (any_goals (first | go_big_quiet_step ((fail)) | quiet_step ((fail))))
   refine wpQuiet_nil ?_;rintro w' ⟨e5,rfl⟩;have Hb5:=hI (Hb.o.trans (e5.b.mono hsr));have hs5:=Hb5.o.size;clear y0 zs zk;generalize e5.w=w5 at Hb5 hs5;have p5:=HPc.o w5 Hb5.o;have q0:=kC 0 (HX00.o w5 Hb5.o) rfl;have q1:=kC 1 (HX00.o w5 Hb5.o) rfl;cases pi
   ·have HV:=hI (HCn.o rfl);go_wp2;go_roundw;case rel=>exact⟨i+1,best,by omega,by go_num,rfl,HV,Hb5⟩
    case measure=>simp[intOf];omega
   cases h1:decide (st+tm>fr)
   ·have HV:=hI (HCs.o rfl (fun h=>by have:=zH h1;omega));go_wp2;go_roundw;case rel=>exact⟨i+1,best,by omega,by go_num,rfl,HV,Hb5⟩
    case measure=>simp[intOf];omega
   have h1':=zI h1;have HFc:=hI (HFt.o w5 Hb5.o (st+tm) (by omega));cases h2:decide (best<0)
   ·cases h3:decide (st+tm<best)
    ·have HV:=hI (HCs.o rfl (fun h=>by have:=zH h2;have:=zH h3;omega));go_wp2;go_roundw;case rel=>exact⟨i+1,best,by omega,by go_num,rfl,HV,Hb5⟩
     case measure=>simp[intOf];omega
    have h3':=zI h3;cases hv:F (st+tm)
    ·have HV:=hI (HCs.o rfl (fun h=>by rw[hv] at h;exact absurd h.2.2 (by decide)));rw[hv] at HFc;clear hv;go_wp2_with (go_at_call 137;refine HFc.o.mono ?_;rintro e w6 ⟨rfl,hb6⟩;have Hb6:=hI (Hb5.o.trans (hb6.mono hs5));clear hb6);go_roundw;case rel=>exact⟨i+1,best,by omega,by go_num,rfl,HV,Hb6⟩
     case measure=>simp[intOf];omega
    ·have HV:=hI (HCp.o rfl (by omega) hv (.inr (by omega)));rw[hv] at HFc;clear hv;go_wp2_with (go_at_call 137;refine HFc.o.mono ?_;rintro e w6 ⟨rfl,hb6⟩;have Hb6:=hI (Hb5.o.trans (hb6.mono hs5));clear hb6);go_roundw;case rel=>exact⟨i+1,st+tm,by omega,by go_num,rfl,HV,Hb6⟩
     case measure=>simp[intOf];omega
   have h2':=zI h2;cases hv:F (st+tm)
   ·have HV:=hI (HCs.o rfl (fun h=>by rw[hv] at h;exact absurd h.2.2 (by decide)));rw[hv] at HFc;clear hv;go_wp2_with (go_at_call 137;refine HFc.o.mono ?_;rintro e w6 ⟨rfl,hb6⟩;have Hb6:=hI (Hb5.o.trans (hb6.mono hs5));clear hb6);go_roundw;case rel=>exact⟨i+1,best,by omega,by go_num,rfl,HV,Hb6⟩
    case measure=>simp[intOf];omega
   ·have HV:=hI (HCp.o rfl (by omega) hv (.inl (by omega)));rw[hv] at HFc;clear hv;go_wp2_with (go_at_call 137;refine HFc.o.mono ?_;rintro e w6 ⟨rfl,hb6⟩;have Hb6:=hI (Hb5.o.trans (hb6.mono hs5));clear hb6);go_roundw;case rel=>exact⟨i+1,st+tm,by omega,by go_num,rfl,HV,Hb6⟩
    case measure=>simp[intOf];omega
  ·have HC2:=hI (show BestC F fr (CandB j.p b n 0 0) best from HC.o.same (fun x=>by rw[show i=n by omega];exact candB_first x));have Hb0:=hI Hb.o;have q0:=kC 0 hq rfl;have q1:=kC 1 hq rfl;go_wp2;clear q0 q1 hq HC Hb;go_loopw [11,14] (fun v11 v14 wr=>∃(r:Nat) (best:Int),r<=rn/\v14= .int .i64 r/\v11= .int .i64 best/\Hid (BestC F fr (CandB j.p b n r 0) best)/\Hid (Bl W0 wr)) (fun _ v14 _=>rn-(intOf v14).toNat);case atStart=>exact⟨0,best,by omega,rfl,rfl,HC2,Hb0⟩
   case round=>
    obtain⟨r,bst,hr,rfl,rfl,HC,Hb⟩:=hrel;clear HC2 Hb0;have hsr:=Hb.o.size;have q0:=kC 0 (HX00.o wr Hb.o) rfl;have q1:=kC 1 (HX00.o wr Hb.o) rfl
    by_cases hlt:r<rn
    rotate_left
    ·have HE:=hI (Hbl.o bst Hf0.o (by have h:=HC.o;rw[show r=rn by omega] at h;exact h));have HUx:=hI (HU0.o _ Hb.o);go_wp2;go_ret;exact⟨bst,rfl,HE.o,HUx.o⟩
    have hil:r<j.res.length:=by have:=Hrn.o;omega
    obtain⟨on,hon⟩:=eX ((j.R r).p.off.length);have hjr:=HJ.o wr Hb.o;obtain⟨rb,ro,hre,hrB⟩:=hjr.1.ra (by omega);have hRe:RA=some ⟨rb,ro,none⟩:=by rw[<- HRA.o];exact hre
    have HRc:=hI (show ∀X:World,Bl W0 X->X.cell? ⟨rb,ro+r*3+2,none⟩=some (.slice (j.R r).OA on (j.R r).oc)/\Sl X B 2 encJSpan (j.R r).OA (j.R r).p.off from fun X hX=>by
     obtain⟨hj9,_⟩:=HJ.o X hX;obtain⟨_,_,c2⟩:=hj9.rcells (by rw[<- hre]) hil;rw[hon] at c2;exact⟨c2,(hj9.rss _ (j.R_mem hil)).os⟩)
    have holc:=(hjr.1.rss _ (j.R_mem hil)).ol;have hocc:=(hjr.1.rss _ (j.R_mem hil)).oc;have ho16:=HG.o.noff _ (j.Rp_mem hil);have Hof:=hI (HG.o.off _ (j.Rp_mem hil));have HOf:=hI (show(j.p.res.getD r default).off=(j.R r).p.off by rw[j.pR]);rw[hon] at holc ho16;have Hon:=hI hon;generalize j.R r=rs at HRc holc hocc Hof HOf Hon;subst hRe;clear hon hjr hre;obtain⟨wl,hwl⟩:=eY wr;subst hwl;go_wp2;clear q0 q1;go_loopw [11,15] (fun v11 v15 wr=>∃(k2:Nat) (best:Int),k2<=on/\v15= .int .i64 k2/\v11= .int .i64 best/\Hid (BestC F fr (CandB j.p b n r k2) best)/\Hid (Bl W0 wr)) (fun _ v15 _=>on-(intOf v15).toNat);case atStart=>exact⟨0,bst,by omega,rfl,rfl,HC,Hb⟩
    case round=>
     obtain⟨k2,best,hk2,rfl,rfl,HC2,Hb2⟩:=hrel;have hsr2:=Hb2.o.size;have q0:=kC 0 (HX00.o wr Hb2.o) rfl;have q1:=kC 1 (HX00.o wr Hb2.o) rfl;obtain⟨rc2,rsl⟩:=HRc.o wr Hb2.o
     by_cases hlt2:k2<on
     rotate_left
     ·have HV:=hI (show BestC F fr (CandB j.p b n (r+1) 0) best from HC2.o.same (fun x=>by
       have h:=candB_next (j:=j.p) (b:=b) (n:=n) (r:=r) x;rw[HOf.o,Hon.o] at h;rw[show k2=on by omega];exact h))
      clear rsl;go_wp2;go_roundw;case rel=>exact⟨r+1,best,by omega,by go_num,rfl,HV,Hb2⟩
      case measure=>simp[intOf];omega
     have hkl:k2<rs.p.off.length:=by have:=Hon.o;omega
     obtain⟨ob,oo,hoe,hoB,hoc⟩:=rsl (by omega);have o1:wr.cell? ⟨ob,oo+k2*2+1,none⟩=some (.int .i64 rs.p.off[k2].hi):=hoc k2 hkl 1 _ rfl;have hsp:=Hof.o _ (zC hkl)
     have HPt:=hI (fun(x:Int)=>show(CandB j.p b n r k2 x\/x=rs.p.off[k2].hi+1)↔CandB j.p b n r (k2+1) x from by
      have h:=candB_put (j:=j.p) (b:=b) (n:=n) (r:=r) (k:=k2) x;rw[HOf.o,getD_of hkl] at h;exact h)
     generalize rs.p.off[k2]=sp at o1 hsp HPt;obtain⟨slo,shi⟩:=sp;dsimp only at o1 hsp HPt;have HCs:=hI (fun(h2: ¬(fr<shi+1/\(best<0\/shi+1<best)/\F (shi+1)=true))=>(HC2.o.skip h2).same HPt.o);have HCp:=hI (fun(h1:fr<shi+1) (h2:F (shi+1)=true) (h3:best<0\/shi+1<best)=>(HC2.o.put hfr.1 h1 h2 h3).same HPt.o);rw[hoe] at rc2;clear hoc hoe rsl;cases h1:decide (shi+1>fr)
     ·have HV:=hI (HCs.o (fun h=>by have:=zH h1;omega));go_wp2;go_roundw;case rel=>exact⟨k2+1,best,by omega,by go_num,rfl,HV,Hb2⟩
      case measure=>simp[intOf];omega
     have h1':=zI h1;have HFc:=hI (HFt.o wr Hb2.o (shi+1) (by omega));cases h2:decide (best<0)
     ·cases h3:decide (shi+1<best)
      ·have HV:=hI (HCs.o (fun h=>by have:=zH h2;have:=zH h3;omega));go_wp2;go_roundw;case rel=>exact⟨k2+1,best,by omega,by go_num,rfl,HV,Hb2⟩
       case measure=>simp[intOf];omega
      have h3':=zI h3;cases hv:F (shi+1)
      ·have HV:=hI (HCs.o (fun h=>by rw[hv] at h;exact absurd h.2.2 (by decide)));rw[hv] at HFc;clear hv;go_wp2_with (go_at_call 137;refine HFc.o.mono ?_;rintro e w6 ⟨rfl,hb6⟩;have Hb6:=hI (Hb2.o.trans (hb6.mono hsr2));clear hb6);go_roundw;case rel=>exact⟨k2+1,best,by omega,by go_num,rfl,HV,Hb6⟩
       case measure=>simp[intOf];omega
      ·have HV:=hI (HCp.o (by omega) hv (.inr (by omega)));rw[hv] at HFc;clear hv;go_wp2_with (go_at_call 137;refine HFc.o.mono ?_;rintro e w6 ⟨rfl,hb6⟩;have Hb6:=hI (Hb2.o.trans (hb6.mono hsr2));clear hb6);go_roundw;case rel=>exact⟨k2+1,shi+1,by omega,by go_num,rfl,HV,Hb6⟩
       case measure=>simp[intOf];omega
     have h2':=zI h2;cases hv:F (shi+1)
     ·have HV:=hI (HCs.o (fun h=>by rw[hv] at h;exact absurd h.2.2 (by decide)));rw[hv] at HFc;clear hv;go_wp2_with (go_at_call 137;refine HFc.o.mono ?_;rintro e w6 ⟨rfl,hb6⟩;have Hb6:=hI (Hb2.o.trans (hb6.mono hsr2));clear hb6);go_roundw;case rel=>exact⟨k2+1,best,by omega,by go_num,rfl,HV,Hb6⟩
      case measure=>simp[intOf];omega
     ·have HV:=hI (HCp.o (by omega) hv (.inl (by omega)));rw[hv] at HFc;clear hv;go_wp2_with (go_at_call 137;refine HFc.o.mono ?_;rintro e w6 ⟨rfl,hb6⟩;have Hb6:=hI (Hb2.o.trans (hb6.mono hsr2));clear hb6);go_roundw;case rel=>exact⟨k2+1,shi+1,by omega,by go_num,rfl,HV,Hb6⟩
      case measure=>simp[intOf];omega
end Go.Proofs.YtjpgnfekbojcaaaGreat
namespace W8
open W7
theorem maxU_int {f:Nat->Nat} {r:Int} (n:Nat):decide ((maxU f n:Int)<=r)=(List.range (n+1)).all fun t=>decide ((f t:Int)<=r):=by
 rw[Bool.eq_iff_iff,decide_eq_true_eq,List.all_eq_true]
 constructor
 ·intro h t ht;have h1:=List.mem_range.1 ht;have h2:=(maxU_le f (maxU f n) n).1 (zm _) t (by omega);exact zD (by omega)
 ·intro h;have h0:=zI (h 0 (List.mem_range.2 (by omega)))
  have h1:=(maxU_le f r.toNat n).2 (fun t ht=>by
   have:=zI (h t (List.mem_range.2 (by omega)));omega)
  omega
def freeT (l:Line) (F G:Nat->Nat->Nat):Bool:=(List.range l.room.length).all (fun i=>decide ((maxU (F i) 100001:Int)<=l.room.getD i 0))&&(List.range l.run.length).all (fun k=>decide (maxU (G k) 100001<=1))
theorem freeN (N:Nat) (l:Line) (F G:Nat->Nat->Nat):((List.range l.room.length).all (fun i=>decide ((maxU (F i) N:Int)<=l.room.getD i 0))&&(List.range l.run.length).all (fun k=>decide (maxU (G k) N<=1))) =
  ((List.range l.room.length).all (fun i=>(List.range (N+1)).all fun t=>decide ((F i t:Int)<=l.room.getD i 0))&&(List.range l.run.length).all (fun k=>(List.range (N+1)).all fun t=>decide (G k t<=1))):=by
 have h1:(fun i=>decide ((maxU (F i) N:Int)<=l.room.getD i 0))=fun i=>(List.range (N+1)).all fun t=>decide ((F i t:Int)<=l.room.getD i 0):=funext fun i=>maxU_int N
 have h2:(fun k=>decide (maxU (G k) N<=1))=fun k=>(List.range (N+1)).all fun t=>decide (G k t<=1):=funext fun k=>by
  have h:=maxU_int (f:=G k) (r:=1) N;rw[show decide (maxU (G k) N<=1)=decide ((maxU (G k) N:Int)<=1) from decide_eq_decide.2 (by omega),h]
  congr 1
  funext t
  exact decide_eq_decide.2 (by omega)
 rw[h1,h2]
theorem freeT_eq {l:Line} {tab:List (List TCall)}:freeT l (fun i t=>stAll i t tab) (fun i t=>seAll i t tab)=freeB l tab:=freeN 100001 l _ _
theorem rangeAll_no {p:Nat->Bool} {k n:Nat} (hk:k<n) (h:p k=false):(List.range n).all p=false:=by
 rw[Bool.eq_false_iff];intro h1;rw[List.all_eq_true.1 h1 k (List.mem_range.2 hk)] at h;cases h
theorem take_all_succ {p:Nat->Bool} {k:Nat} (h:(List.range k).all p=true):(List.range (k+1)).all p=p k:=by
 rw[List.range_succ,List.all_append,h];simp
end W8
namespace Go.Proofs.YtjpgnfekbojcaaaGreat
open Go.RowKit W7 W8
attribute [local go_sem] Oper.semAt_some
def encPtr (b:Nat):List Value:=[.pointer (some ⟨b,0,none⟩)]
theorem mfree1_any (b:Nat) (f:Nat->Nat) (w:World) (h:MinIn w b f) (hf:∀t,t<100002->f t<=60000) :
  Calls Tryz.prog 151 #[.pointer (some ⟨b,0,none⟩)] w fun e w'=>e= .returned (.bool (decide (1<maxU f 100001)))/\Bl w w':=by
 have HM:=hI (most_any b f w h hf);have hx:=(maxU_le f 60000 100001).2 (fun t ht=>hf t (by omega));generalize maxU f 100001=m at HM hx ⊢;clear h hf;obtain⟨mi,hmi⟩:∃mi:Int,(m:Int)=mi:=⟨_,rfl⟩
 have HD:=hI (show decide ((1:Int)<mi)=decide (1<m) from decide_eq_decide.2 (by omega));rw[hmi] at HM;have hm2:0<=mi/\mi<=60000:=by omega
 clear hmi;go_enter Tryz.func151,Tryz.ntmps151;go_wp2_with (go_at_call 149;go_loud (refine HM.o.mono ?_);rintro e w1 ⟨rfl,rfl⟩);go_ret;exact⟨ret_bool HD.o,zX _ _⟩
set_option maxHeartbeats 1000000 in
theorem idxFr1_any (P:Nat->Bool) (xs:List Nat) (n:Nat) (hn:n=xs.length) (A:Option Addr) (c B:Nat) (w:World) (hA:Sl w B 1 encPtr A xs) (hB:B<=w.heap.size) (hl:xs.length<=9223372036854775807)
    (hF:∀(x:Nat),x∈xs->∀(W:World),Bl w W->Calls Tryz.prog 151 #[.pointer (some ⟨x,0,none⟩)] W fun e w'=>e= .returned (.bool (P x))/\Bl W w') :
    Calls Tryz.prog 191 #[.slice A n c,.func (.func 151) #[] #[]] w fun e w'=>e= .returned (.int .i64 (idxB P xs))/\Bl w w':=by
  subst hn;have HA:=hI hA;have HF:=hI hF;clear hA hF;go_enter Tryz.func191,Tryz.ntmps191;go_wp2;go_loopw [8] (fun i wr=>∃k:Nat,k<=xs.length/\i= .int .i64 k/\Hid ((xs.take k).any P=false)/\Hid (Bl w wr)) (fun i _=>xs.length-(intOf i).toNat);case atStart=>exact⟨0,by omega,rfl,hI (by simp),hI (zX _ _)⟩
  case round=>
    obtain⟨k,hk,rfl,Hno,Hb⟩:=hrel;have hsz:=Hb.o.size
    by_cases hlt:k<xs.length
    · obtain⟨b,off,rfl,hbB,hcells⟩:=(HA.o.below (Hb.o.mono hB)) (by omega)
      have h0:=hcells k hlt;clear hcells;have c0:wr.cell? ⟨b,off+k,none⟩=some (.pointer (some ⟨xs[k],0,none⟩)):=(by have h:=h0 0 _ rfl;rwa [Nat.mul_one,Nat.add_zero] at h)
      have Hs:=hI (any_take_succ (p:=P) hlt Hno.o);have Hh:=hI (idxB_hit (p:=P) hlt Hno.o);have HK:=hI (fun(W:World) (hW:Bl w W)=>HF.o xs[k] (zC hlt) W hW);generalize xs[k]=x at c0 Hs Hh HK;clear h0;cases hp:P x
      · have HK2:=hI (fun(W:World) (hW:Bl w W)=>hp▸HK.o W hW)
        go_wp2_with (go_at_call 151;refine(HK2.o _ (by first | exact Hb.o | exact Hb.o.alloc (by omega) _)).mono ?_;rintro e w1 ⟨rfl,hb1⟩;have Hb1:=hI hb1;clear hb1);go_roundw;case rel=>exact⟨k+1,by omega,by go_num,hI (Hs.o hp),hI (by first | exact Hb.o.trans (Hb1.o.mono hsz) | exact(Hb.o.alloc (by omega) _).trans (Hb1.o.mono (by simp;omega)))⟩
        case measure=>simp[intOf];omega
      · have HK2:=hI (fun(W:World) (hW:Bl w W)=>hp▸HK.o W hW)
        go_wp2_with (go_at_call 151;refine(HK2.o _ (by first | exact Hb.o | exact Hb.o.alloc (by omega) _)).mono ?_;rintro e w1 ⟨rfl,hb1⟩;have Hb1:=hI hb1;clear hb1);go_ret;exact⟨ret_int (Hh.o hp).symm,(by first | exact Hb.o.trans (Hb1.o.mono hsz) | exact(Hb.o.alloc (by omega) _).trans (Hb1.o.mono (by simp;omega)))⟩
    · have HN:=hI (idxB_none (p:=P) (xs:=xs) (by rw[<- Hno.o,zG (by omega)]))
      go_wp2;go_ret;exact⟨ret_int HN.o.symm,Hb.o⟩
theorem conFr1_any (P:Nat->Bool) (xs:List Nat) (n:Nat) (hn:n=xs.length) (A:Option Addr) (c B:Nat) (w:World) (hA:Sl w B 1 encPtr A xs) (hB:B<=w.heap.size) (hl:xs.length<=9223372036854775807)
    (hF:∀(x:Nat),x∈xs->∀(W:World),Bl w W->Calls Tryz.prog 151 #[.pointer (some ⟨x,0,none⟩)] W fun e w'=>e= .returned (.bool (P x))/\Bl W w') :
    Calls Tryz.prog 150 #[.slice A n c,.func (.func 151) #[] #[]] w fun e w'=>e= .returned (.bool (xs.any P))/\Bl w w':=by
  have H:=hI (idxFr1_any P  xs n hn A c B w hA hB hl hF);have HI:=hI (idxB_any (p:=P) (xs:=xs));clear hA hn hF;go_enter Tryz.func150,Tryz.ntmps150;go_wp2_with (go_at_call 191;refine H.o.mono ?_;rintro e w1 ⟨rfl,hb1⟩;have Hb1:=hI hb1;clear hb1);go_ret;exact⟨ret_bool HI.o,Hb1.o⟩

theorem flat_ptr:∀xs:List Nat,xs.flatMap encPtr=xs.map ptrV
 | []=>rfl
 | x::l=>by show encPtr x++l.flatMap encPtr=_;rw[flat_ptr l];rfl
theorem trkFree_any (l:Line) (g base B:Nat) (SA KA:Option Addr) (sc kc:Nat) (sbs kbs:List Nat) (F G:Nat->Nat->Nat) (w:World) (h:TrkIn w base g l SA KA sc kc sbs kbs F G) (hl:LnIn w B l) (hB:B<=w.heap.size) (hs:sbs.length=l.room.length) (hk:kbs.length=l.run.length) (hm:l.room.length<=16) (hr:l.run.length<=16)
  (hF:∀i t,F i t<=60000) (hG:∀i t,G i t<=60000) :
  Calls Tryz.prog 86 #[ptrV g] w fun e w'=>e= .returned (.bool (freeT l F G))/\Bl w w':=by
 have H:=hI (show ∀X,Bl w X->TrkIn X base g l SA KA sc kc sbs kbs F G/\LnIn X B l from fun X hX=>⟨h.below hX,hl.below (hX.mono hB)⟩);have h3:=hl.mlc;have h4:=hl.mc2;obtain⟨m,hm'⟩:=eX l.room.length;obtain⟨r,hr'⟩:=eX l.run.length;rw[hm'] at hm hs h3;rw[hr'] at hr hk;have hcs:=own_caps1 h.sr;have hck:=own_caps1 h.kr;rw[hs] at hcs;rw[hk] at hck;have Hs:=hI hs;have Hk:=hI hk;have Hm:=hI hm';have Hr:=hI hr';have HF:=hI hF;have HG:=hI hG;have HT:=hI (show freeT l F G=((List.range m).all (fun i=>decide ((maxU (F i) 100001:Int)<=l.room.getD i 0))&&(List.range r).all (fun k=>decide (maxU (G k) 100001<=1))) by unfold freeT;rw[hm',hr'])
 have HCon:=hI (fun(X:World) (hX:Bl w X)=>conFr1_any (fun b=>decide (∃i,i<r/\kbs.getD i 0=b/\1<maxU (G i) 100001)) kbs r hk.symm KA kc X.heap.size X (by
   have h5:=(H.o X hX).1.kr;rw[<- flat_ptr] at h5;exact sl_own2 (enc:=encPtr) (k:=1) (fun _=>rfl) h5) (zm _) (by omega) (fun b hb W hW=>by
   obtain⟨i,hi,rfl⟩:=mem_getD hb;have h5:=(H.o W (hX.trans (hW.mono hX.size))).1.se i hi;have h6:=mfree1_any _ (G i) W h5 (fun t _=>HG.o i t)
   have h7:decide (∃j,j<r/\kbs.getD j 0=kbs.getD i 0/\1<maxU (G j) 100001)=decide (1<maxU (G i) 100001):=decide_eq_decide.2 ⟨fun⟨j,hj,he,h8⟩=>by
     have hj2:j<kbs.length:=by omega
     rw[zA,zB hj2,zA,zB hi] at he;have:=nodup_inj (List.nodup_append.1 (H.o w (zX _ _)).1.nd).2.1 hj2 hi he;rw[<- this];exact h8,fun h8=>⟨i,by omega,rfl,h8⟩⟩
   rw[h7];exact h6))
 have HAny:=hI (show(!kbs.any (fun b=>decide (∃i,i<r/\kbs.getD i 0=b/\1<maxU (G i) 100001)))=(List.range r).all (fun k=>decide (maxU (G k) 100001<=1)) by
  rw[Bool.eq_iff_iff,Bool.not_eq_true',List.any_eq_false,List.all_eq_true]
  constructor
  ·intro h9 k hk9;have hk10:=List.mem_range.1 hk9
   by_cases h11:maxU (G k) 100001<=1
   ·exact zD h11
   ·exact absurd (zD ⟨k,hk10,rfl,by omega⟩) (h9 _ (getD_memN (by omega)))
  ·intro h9 b hb h10;obtain⟨i,hi,_,h11⟩:=zI h10;have:=zI (h9 i (List.mem_range.2 hi));omega)
 generalize kbs.any (fun b=>decide (∃i,i<r/\kbs.getD i 0=b/\1<maxU (G i) 100001))=an at HCon HAny;have hblk:=h.blk;rw[hs,hk,hm',hr'] at hblk;have c2:=kC 2 hblk rfl;have HY:=hI (fun(X:World) (hX:Bl w X)=>show X.heap[g]? =_ from(hX.block g (blk_lt h.blk)).trans hblk);clear h hl hF hG hs hk hm' hr' hblk;unfold ptrV;go_enter Tryz.func86,Tryz.ntmps86;go_wp2;clear c2;go_loopw [10] (fun v10 wr=>∃i:Nat,i<=m/\v10= .int .i64 i/\Hid (Bl w wr)/\Hid ((List.range i).all (fun i=>decide ((maxU (F i) 100001:Int)<=l.room.getD i 0))=true)) (fun v10 _=>m-(intOf v10).toNat);case atStart=>exact⟨0,by omega,rfl,hI (zX _ _),hI rfl⟩
 case round=>
  obtain⟨i,hi,rfl,Hb,Hall⟩:=hrel;have hsr:=Hb.o.size
  by_cases hlt:i<m
  ·have hin:=H.o wr Hb.o;have his:i<sbs.length:=by have:=Hs.o;omega
   obtain⟨sab,scap,hSe,_,hsab,_,_,hscs⟩:=owns_cells hin.1.sr (by omega);have hscap:scap=sc/\SA=some ⟨sab,0,none⟩:=by injection hSe with h1 _ h3;exact⟨h3.symm,h1⟩
   obtain⟨rfl,rfl⟩:=hscap;have d0:=hscs i (ptrV (sbs.getD i 0)) (by rw[List.getElem?_map,zB his,zA,zB his];rfl);rw[Nat.zero_add] at d0;unfold ptrV at d0;have hmi:=hin.1.st i his;obtain⟨pS,hpS⟩:=eX (sbs.getD i 0);rw[hpS] at d0 hmi;have HMo:=hI (fun(e:Later wr)=>most_any pS (F i) e.w (hmi.kept (e.b.block _ hmi.lt)) (fun t _=>HF.o i t));have hx:=(maxU_le (F i) 60000 100001).2 (fun t _=>HF.o i t);obtain⟨rb,roff,hMA,hrb,hrc⟩:=hin.2.room (by rw[Hm.o];omega);have hil:i<l.room.length:=by rw[Hm.o];exact hlt
   have c0:wr.cell? ⟨rb,roff+i,none⟩=some (.int .i64 (l.room.getD i 0)):=by
    have h5:=hrc i hil 0 _ rfl;rw[Nat.mul_one,Nat.add_zero] at h5;rw[h5,zA,zB hil]
    rfl
   have hY:=HY.o wr Hb.o;rw[hMA] at hY;have y1:=zV (kC 1 hY rfl) (blk_lt hY);have yc0:=zV c0 (by omega);have Hsn:=hI (take_all_succ Hall.o);have Hbad:=hI (show decide ((maxU (F i) 100001:Int)<=l.room.getD i 0)=false->freeT l F G=false from fun h9=>by rw[HT.o,rangeAll_no hlt h9];rfl);generalize maxU (F i) 100001=M at HMo hx Hsn Hbad;generalize l.room.getD i 0=rv at yc0 Hsn Hbad;obtain⟨Mi,hMi⟩:∃Mi:Int,(M:Int)=Mi:=⟨_,rfl⟩
   rw[hMi] at HMo Hsn Hbad;have hMi2:0<=Mi/\Mi<=60000:=by omega
   clear hin hSe hscs hpS hmi hrc c0 hY hMA hMi;cases hd:decide (rv<Mi)
   ·have HOk:=hI (show(List.range (i+1)).all (fun i=>decide ((maxU (F i) 100001:Int)<=l.room.getD i 0))=true by rw[Hsn.o];have:=zH hd;exact zD (by omega));go_upto_region 4 with fail;clear d0;refine wp_region_later (by kernel_rfl) (by kernel_rfl) ?_
    repeat (any_goals (first | go_big_quiet_step ((go_at_call 149;exact later_call_same _ ((HMo.o _).mono (fun _ _ h=>⟨h.1,h.2.symm⟩)))) | quiet_step ((go_at_call 149;exact later_call_same _ ((HMo.o _).mono (fun _ _ h=>⟨h.1,h.2.symm⟩))))))
    refine wpQuiet_nil ?_;rintro w' ⟨e,rfl⟩;have HB2:=hI (show Bl w e.w from Hb.o.trans (e.b.mono hsr));go_wp2;go_roundw;case rel=>exact⟨i+1,by omega,by go_num,HB2,HOk⟩
    case measure=>simp[intOf];omega
   ·have HR:=hI (Hbad.o (zE (by have:=zI hd;omega)));go_upto_region 4 with fail;clear d0;refine wp_region_later (by kernel_rfl) (by kernel_rfl) ?_
    repeat (any_goals (first | go_big_quiet_step ((go_at_call 149;exact later_call_same _ ((HMo.o _).mono (fun _ _ h=>⟨h.1,h.2.symm⟩)))) | quiet_step ((go_at_call 149;exact later_call_same _ ((HMo.o _).mono (fun _ _ h=>⟨h.1,h.2.symm⟩))))))
    refine wpQuiet_nil ?_;rintro w' ⟨e,rfl⟩;have HB2:=hI (show Bl w e.w from Hb.o.trans (e.b.mono hsr));go_wp2;go_ret;exact⟨ret_bool HR.o.symm,HB2.o⟩
  ·have him:i=m:=by omega
   have HR:=hI (show(!an)=freeT l F G by rw[HAny.o,HT.o,<-him,Hall.o];rfl);have c3:=kC 3 (HY.o wr Hb.o) rfl;have HCw:=hI (HCon.o wr Hb.o);clear him;go_wp2_with (go_at_call 150;go_loud (refine HCw.o.mono ?_);rintro e w1 ⟨rfl,hb1⟩;have Hb1:=hI hb1;clear hb1);go_ret;exact⟨ret_bool HR.o,Hb.o.trans (Hb1.o.mono hsr)⟩
theorem tab_bounds {l:Line} {tab:List (List TCall)} (h:TabOk l tab):(∀s t:Int,stAll s t tab<=60000)/\∀s t:Int,seAll s t tab<=60000:=by
 have hl:∀w∈tab,w.length<=16:=fun w hw=>by
  have h1:=(h.way w hw).len;have h2:=(line_ok h.line).1;omega
 have hm:=h.many;refine⟨fun s t=> ?_,fun s t=> ?_⟩
 ·have:=stAll_le s t 16 tab hl;omega
 ·have:=seAll_le s t 16 tab hl;omega
def freeV (l:Line) (tab:List (List TCall)):Bool:=decide (tabErr l tab=0)&&freeB l tab
theorem Free_any (l:Line) (ways:List TWay) (TA:Option Addr) (tn tc B:Nat) (w:World) (hl:LnIn w B l) (ht:TabIn w B TA tn tc ways) (hB:B<=w.heap.size) :
  Calls Tryz.prog 30 #[lineV l,.slice TA tn tc] w fun e w'=>e= .returned (.tuple #[.bool (freeV l (tabP ways)),.int .i64 (tabErr l (tabP ways))])/\Bl w w':=by
 obtain⟨RA,hRA⟩:=eX l.RA;obtain⟨MA,hMA⟩:=eX l.MA;obtain⟨r,hr⟩:=eX l.run.length;obtain⟨m,hm⟩:=eX l.room.length;have hlv:lineV l= .agg #[.slice RA r l.rc,.slice MA m l.mc]:=by unfold lineV;rw[hRA,hMA,hr,hm]
 obtain⟨W0,hW0⟩:=eY (w.alloc (.cells #[.slice RA r l.rc,.slice MA m l.mc] 52));have hs0:W0.heap.size=w.heap.size+1:=by rw[hW0];simp
 have HB0:=hI (show Bl w W0 by rw[hW0];exact(zX _ _).alloc (zm _) _);have Q0:=hI (show W0.heap[w.heap.size]? =some (.cells #[.slice RA r l.rc,.slice MA m l.mc] 52 (0,0)) by rw[hW0];exact zW _ _)
 have HL:=hI (show ∀X,Bl W0 X->LnIn X B l/\TabIn X B TA tn tc ways from fun X hX=>by
  have h:=HB0.o.trans (hX.mono (by omega));exact⟨hl.below (h.mono hB),ht.below (h.mono hB)⟩)
 obtain⟨te,hte⟩:=eX (tabErr l (tabP ways));have HT:=hI (timetable_any l ways TA tn tc B W0 (HL.o W0 (zX _ _)).1 (HL.o W0 (zX _ _)).2 (by omega));rw[hlv,hte] at HT;obtain⟨fv,hfv⟩:=eX (freeV l (tabP ways));have HV:=hI (show fv=(decide (te=0)&&freeB l (tabP ways)) by rw[<- hfv];unfold freeV;rw[hte]);rw[hlv,hte,hfv];have Hte:=hI hte;have Hlv:=hI hlv;have HW0:=hI hW0;have q0:=kC 0 Q0.out rfl;have q1:=kC 1 Q0.out rfl;clear hW0 hl ht hm hr hRA hMA hlv hte hfv;go_enter Tryz.func30,Tryz.ntmps30;go_upto_region 1 with fail;rw[<- HW0.o];go_upto_region 2 with(go_at_call 84;go_loud (refine HT.o.mono ?_);rintro e w1 ⟨rfl,hb1⟩;have hs1:=hb1.size;have Hb1:=hI hb1;clear hb1)
 clear q0 q1 HT;cases h0:(te==0)
 ·have h0':(te != 0)=true:=by simp[bne,h0]
  have hne:te≠0:=fun h=>by rw[h] at h0;cases h0
  have HR:=hI (show fv=false by rw[HV.o,zE hne];rfl);clear hne;go_wp2;go_ret2;exact⟨by rw[HR.o];rfl,HB0.o.trans (Hb1.o.mono (by omega))⟩
 have h0':(te != 0)=false:=by simp[bne,h0]
 obtain rfl:=eq_of_beq h0;have HOk:=hI (tabOk_of Hte.o);have HLa:=hI (laid_any l ways TA tn tc B w1 (HL.o w1 Hb1.o).1 (HL.o w1 Hb1.o).2 (by omega) HOk.o);rw[Hlv.o] at HLa;have HR:=hI (show fv=freeB l (tabP ways) by rw[HV.o];rfl);have q0:=kC 0 ((Hb1.o.block _ (by omega)).trans Q0.out) rfl;have q1:=kC 1 ((Hb1.o.block _ (by omega)).trans Q0.out) rfl;obtain⟨fb,hfb⟩:=eX (freeB l (tabP ways));have Hfb:=hI hfb;clear hfb
 have HFr:=hI (fun(g:Nat) (SA KA:Option Addr) (sc kc:Nat) (sbs kbs:List Nat) (X:World) (h:TrkIn X w1.heap.size g l SA KA sc kc sbs kbs (fun i t=>stAll i t (tabP ways)) (fun i t=>seAll i t (tabP ways))) (hb:Bl w1 X) (hs:sbs.length=l.room.length) (hk:kbs.length=l.run.length)=>by
  have h5:=trkFree_any l g w1.heap.size B SA KA sc kc sbs kbs _ _ X h (HL.o X (Hb1.o.trans (hb.mono hs1))).1 (by have:=hb.size;omega) hs hk (line_ok HOk.o.line).1 (by have:=line_ok HOk.o.line;omega) (fun i t=>(tab_bounds HOk.o).1 i t) (fun i t=>(tab_bounds HOk.o).2 i t);rw[freeT_eq,Hfb.o] at h5;exact h5)
 go_wp2_with (first | (go_at_call 85;go_loud (refine HLa.o.mono ?_);rintro e w2 ⟨g,SA,KA,sc,kc,sbs,kbs,rfl,hg,hs,hk,ht,hb2⟩;have hs2:=hb2.size;have Hb2:=hI hb2;have HFr2:=hI (HFr.o g SA KA sc kc sbs kbs w2 ht hb2 hs hk);unfold ptrV at HFr2 ⊢;clear hs hk ht hb2) | (go_at_call 86;go_loud (refine HFr2.o.mono ?_);rintro e w3 ⟨rfl,hb3⟩;have hs3:=hb3.size;have Hb3:=hI hb3;clear hb3));go_ret2;exact⟨by rw[HR.o,Hfb.o];rfl,HB0.o.trans ((Hb1.o.trans ((Hb2.o.mono (by omega)).trans (Hb3.o.mono (by omega)))).mono (by omega))⟩
end Go.Proofs.YtjpgnfekbojcaaaGreat
