/- The specification's earliest start of a task. -/
import Derived.Test.YtjpgnfekbojcaaaGreatWJLaw1
set_option maxHeartbeats 8000000
set_option maxRecDepth 100000
namespace Go.Proofs.YtjpgnfekbojcaaaGreat
open Go.RowKit W7 W8
attribute [local go_sem] Oper.semAt_some
theorem refEarliest_any (j:Job) (b:Bd) (SA:Option Addr) (sc pb n k:Nat) (fr:Int) (B:Nat) (w:World) (hj:JIn w B j) (hB:B<=w.heap.size) (hR:RBd w SA pb n b) (hn:j.tasks.length=n) (hG:JGood j.p) (hs:BOk b) (hk:k<n) (hfr:0<=fr/\fr<=1000000) :
  Calls Tryz.prog 136 #[jobV j,.slice SA n sc,.slice (some ⟨pb,0,none⟩) n n,.int .i64 (k:Int),.int .i64 fr] w fun e w'=>∃v,e= .returned (.int .i64 v)/\LeastT (fitsR j.p b k) fr v/\Bl w w':=by
 have hn64:n<=64:=by have:=hG.nt;rw[j.nt,hn] at this;exact this
 obtain⟨tb,off,hTA,htb⟩:=hj.ta (by omega);obtain⟨RA,hRA⟩:∃x,j.RA=x:=⟨_,rfl⟩
 obtain⟨rn,hrn⟩:∃x,j.res.length=x:=⟨_,rfl⟩
 have hrl:=hj.rl;have hrc:=hj.rc;have htl:=hj.tl;have htc:=hj.tc;rw[hrn] at hrl;rw[hn] at htl;have hr16:rn<=16:=by have:=hG.nr;rw[j.nr,hrn] at this;exact this
 have hjv:jobV j= .agg #[.slice (some ⟨tb,off,none⟩) n j.tc,.slice RA rn j.rc]:=by unfold jobV;rw[hn,hTA,hRA,hrn]
 obtain⟨F,hF⟩:∃F,fitsR j.p b k=F:=⟨_,rfl⟩
 rw[hF];obtain⟨W0,HW0,hs0,HB0,HX00,HU0⟩:=boxes1 w (.cells #[.slice (some ⟨tb,off,none⟩) n j.tc,.slice RA rn j.rc] 25);have HJ:=hI (show ∀X:World,Bl W0 X->JIn X B j/\RBd X SA pb n b from fun X hX=>⟨hj.below ((HU0.o X hX).mono hB),hR.below (HU0.o X hX)⟩)
 have HFt:=hI (fun(X:World) (hX:Bl W0 X) (s:Int) (_: -1000000<=s/\s<=1000000)=>show Calls Tryz.prog 137 #[.agg #[.slice (some ⟨tb,off,none⟩) n j.tc,.slice RA rn j.rc],.slice SA n sc,.slice (some ⟨pb,0,none⟩) n n,.int .i64 (k:Int),.int .i64 s] X fun e w'=>e= .returned (.bool (F s))/\Bl X w' from by
  have h:=refFits_any j b SA sc pb n k s B X (hj.below ((HU0.o X hX).mono hB)) (by have:=hX.size;omega) (hR.below (HU0.o X hX)) hn hG hs hk;rw[hjv,hF] at h;exact h)
 obtain⟨sb,so,hse,hsB,_⟩:=hR.st (by rw[hR.ns];omega);subst hse;have hpb:=blk_lt hR.pl;have Hn:=hI hn;have HTA:=hI hTA;have HRA:=hI hRA;have Hrn:=hI hrn;have HG:=hI hG;have Hs:=hI hs;have HF:=hI hF
 have HSc:=hI (show ∀X:World,Bl W0 X->∀i,i<n->X.cell? ⟨sb,so+i,none⟩=some (.int .i64 (b.st.getD i 0))/\X.cell? ⟨pb,i,none⟩=some (.bool (b.pl.getD i false)) from fun X hX i hi=>by
  obtain⟨_,hrb⟩:=HJ.o X hX;obtain⟨sb',so',hse',_,hsc⟩:=hrb.st (by rw[hrb.ns];omega);cases hse';have h:=hsc i (by rw[hrb.ns];exact hi) 0 _ rfl;rw[Nat.mul_one,Nat.add_zero] at h;refine⟨?_,bc hrb.pl (map_getD (by rw[hrb.np];exact hi))⟩;rw[h,List.getD_eq_getElem?_getD,List.getElem?_eq_getElem (by rw[hrb.ns];exact hi)]
  rfl)
 have HTc:=hI (show ∀X:World,Bl W0 X->∀i,i<n->X.cell? ⟨tb,off+i*4+1,none⟩=some (.int .i64 (j.T i).p.takes) from fun X hX i hi=>((HJ.o X hX).1.tcells HTA.o (by rw[Hn.o];exact hi)).2.1)
 have Hbl:=hI (fun(best:Int) (h0:F fr=false) (h:BestC F fr (CandB j.p b n rn 0) best)=>show LeastT F fr best from by
  have hkp:k<j.p.tasks.length:=by rw[j.nt,hn];exact hk
  rw[<- hF] at h0 h ⊢;refine best_least hG hkp hfr.1 h0 ?_;rw[j.nt,j.nr,hn,hrn];exact h)
 have q0:=W7.bc (j:=0) (HX00.o W0 (Below.refl _ _)) rfl;have q1:=W7.bc (j:=1) (HX00.o W0 (Below.refl _ _)) rfl;rw[hjv];clear hj hR hn hG hTA hjv hRA hrn hs hF;have HF0:=hI (HFt.o W0 (Below.refl _ _) fr (by omega));go_enter Tryz.func136,Tryz.ntmps136;go_upto_region 2 with fail;rw[<- HW0.o];cases hf0:F fr;rotate_left
 ·have HE:=hI (show LeastT F fr fr from .inr ⟨Int.le_refl _,hf0,fun t h1 h2=>absurd h1 (by omega)⟩);rw[hf0] at HF0;clear hf0;go_wp2_with (go_at_call 137;refine HF0.o.mono ?_;rintro e w1 ⟨rfl,hb1⟩;have Hb1:=hI hb1;clear hb1);go_ret;exact⟨fr,rfl,HE.o,HU0.o _ Hb1.o⟩
 rw[hf0] at HF0;have Hf0:=hI hf0;clear hf0;go_wp2_with (go_at_call 137;refine HF0.o.mono ?_;rintro e w1 ⟨rfl,hb1⟩;have Hb1:=hI hb1;clear hb1);clear q0 q1 HF0;go_loopw [11,12] (fun v11 v12 wr=>∃(i:Nat) (best:Int),i<=n/\v12= .int .i64 i/\v11= .int .i64 best/\Hid (BestC F fr (CandE j.p b i) best)/\Hid (Bl W0 wr)) (fun _ v12 _=>n-(intOf v12).toNat);case atStart=>exact⟨0, -1,by omega,rfl,rfl,hI (BestC.first.same fun x=>⟨fun h=>h.elim,fun h=>by obtain⟨q,h1,_⟩:=h;omega⟩),Hb1⟩
 case round=>
  obtain⟨i,best,hi,rfl,rfl,HC,Hb⟩:=hrel;have hsr:=Hb.o.size;have hq:=HX00.o wr Hb.o
  by_cases hlt:i<n
  ·have hil:i<j.tasks.length:=by have:=Hn.o;omega
   obtain⟨s0,p0⟩:=HSc.o wr Hb.o i hlt;have k0:=HTc.o wr Hb.o i hlt;have HEn:=hI (show endV j.p b i=b.st.getD i 0+(j.T i).p.takes by unfold endV;rw[j.pT]);have hst:=Hs.o i;have htm:=HG.o.takes _ (j.Tp_mem hil);have HPc:=hI (fun(X:World) (hX:Bl W0 X)=>(HSc.o X hX i hlt).2);have HCn:=hI (fun(h:b.pl.getD i false=false)=>HC.o.same (candE_no h));have HCs:=hI (fun(h:b.pl.getD i false=true) (h2: ¬(fr<endV j.p b i/\(best<0\/endV j.p b i<best)/\F (endV j.p b i)=true))=>(HC.o.skip h2).same (candE_yes h));have HCp:=hI (fun(h:b.pl.getD i false=true) (h1:fr<endV j.p b i) (h2:F (endV j.p b i)=true) (h3:best<0\/endV j.p b i<best)=>(HC.o.put hfr.1 h1 h2 h3).same (candE_yes h));rw[HEn.o] at HCs HCp;generalize b.st.getD i 0=st at s0 HEn hst HCs HCp;generalize b.pl.getD i false=pi at p0 HPc HCn HCs HCp;generalize (j.T i).p.takes=tm at k0 HEn htm HCs HCp
   have y0:=later_cell (bc (j:=0) hq rfl) (by omega);have zs:=later_cell s0 (by omega);have zk:=later_cell k0 (by omega);clear s0 p0 k0;have q0:=W7.bc (j:=0) hq rfl;have q1:=W7.bc (j:=1) hq rfl;go_upto_region 7 with fail;clear q0 q1 hq;refine wp_region_later (by kernel_rfl) (by kernel_rfl) ?_
   repeat (any_goals (first | go_big_quiet_step ((fail)) | quiet_step ((fail))))
   refine wpQuiet_nil ?_;rintro w' ⟨e5,rfl⟩;have Hb5:=hI (Hb.o.trans (e5.b.mono hsr));have hs5:=Hb5.o.size;clear y0 zs zk;generalize e5.w=w5 at Hb5 hs5;have p5:=HPc.o w5 Hb5.o;have q0:=W7.bc (j:=0) (HX00.o w5 Hb5.o) rfl;have q1:=W7.bc (j:=1) (HX00.o w5 Hb5.o) rfl;cases pi
   ·have HV:=hI (HCn.o rfl);go_wp2;go_roundw;case rel=>exact⟨i+1,best,by omega,by go_num,rfl,HV,Hb5⟩
    case measure=>simp[intOf];omega
   cases h1:decide (st+tm>fr)
   ·have HV:=hI (HCs.o rfl (fun h=>by have:=of_decide_eq_false h1;omega));go_wp2;go_roundw;case rel=>exact⟨i+1,best,by omega,by go_num,rfl,HV,Hb5⟩
    case measure=>simp[intOf];omega
   have h1':=of_decide_eq_true h1;have HFc:=hI (HFt.o w5 Hb5.o (st+tm) (by omega));cases h2:decide (best<0)
   ·cases h3:decide (st+tm<best)
    ·have HV:=hI (HCs.o rfl (fun h=>by have:=of_decide_eq_false h2;have:=of_decide_eq_false h3;omega));go_wp2;go_roundw;case rel=>exact⟨i+1,best,by omega,by go_num,rfl,HV,Hb5⟩
     case measure=>simp[intOf];omega
    have h3':=of_decide_eq_true h3;cases hv:F (st+tm)
    ·have HV:=hI (HCs.o rfl (fun h=>by rw[hv] at h;exact absurd h.2.2 (by decide)));rw[hv] at HFc;clear hv;go_wp2_with (go_at_call 137;refine HFc.o.mono ?_;rintro e w6 ⟨rfl,hb6⟩;have Hb6:=hI (Hb5.o.trans (hb6.mono hs5));clear hb6);go_roundw;case rel=>exact⟨i+1,best,by omega,by go_num,rfl,HV,Hb6⟩
     case measure=>simp[intOf];omega
    ·have HV:=hI (HCp.o rfl (by omega) hv (.inr (by omega)));rw[hv] at HFc;clear hv;go_wp2_with (go_at_call 137;refine HFc.o.mono ?_;rintro e w6 ⟨rfl,hb6⟩;have Hb6:=hI (Hb5.o.trans (hb6.mono hs5));clear hb6);go_roundw;case rel=>exact⟨i+1,st+tm,by omega,by go_num,rfl,HV,Hb6⟩
     case measure=>simp[intOf];omega
   have h2':=of_decide_eq_true h2;cases hv:F (st+tm)
   ·have HV:=hI (HCs.o rfl (fun h=>by rw[hv] at h;exact absurd h.2.2 (by decide)));rw[hv] at HFc;clear hv;go_wp2_with (go_at_call 137;refine HFc.o.mono ?_;rintro e w6 ⟨rfl,hb6⟩;have Hb6:=hI (Hb5.o.trans (hb6.mono hs5));clear hb6);go_roundw;case rel=>exact⟨i+1,best,by omega,by go_num,rfl,HV,Hb6⟩
    case measure=>simp[intOf];omega
   ·have HV:=hI (HCp.o rfl (by omega) hv (.inl (by omega)));rw[hv] at HFc;clear hv;go_wp2_with (go_at_call 137;refine HFc.o.mono ?_;rintro e w6 ⟨rfl,hb6⟩;have Hb6:=hI (Hb5.o.trans (hb6.mono hs5));clear hb6);go_roundw;case rel=>exact⟨i+1,st+tm,by omega,by go_num,rfl,HV,Hb6⟩
    case measure=>simp[intOf];omega
  ·have HC2:=hI (show BestC F fr (CandB j.p b n 0 0) best from HC.o.same (fun x=>by rw[show i=n by omega];exact candB_first x));have Hb0:=hI Hb.o;have q0:=W7.bc (j:=0) hq rfl;have q1:=W7.bc (j:=1) hq rfl;go_wp2;clear q0 q1 hq HC Hb;go_loopw [11,14] (fun v11 v14 wr=>∃(r:Nat) (best:Int),r<=rn/\v14= .int .i64 r/\v11= .int .i64 best/\Hid (BestC F fr (CandB j.p b n r 0) best)/\Hid (Bl W0 wr)) (fun _ v14 _=>rn-(intOf v14).toNat);case atStart=>exact⟨0,best,by omega,rfl,rfl,HC2,Hb0⟩
   case round=>
    obtain⟨r,bst,hr,rfl,rfl,HC,Hb⟩:=hrel;clear HC2 Hb0;have hsr:=Hb.o.size;have q0:=W7.bc (j:=0) (HX00.o wr Hb.o) rfl;have q1:=W7.bc (j:=1) (HX00.o wr Hb.o) rfl
    by_cases hlt:r<rn
    rotate_left
    ·have HE:=hI (Hbl.o bst Hf0.o (by have h:=HC.o;rw[show r=rn by omega] at h;exact h));have HUx:=hI (HU0.o _ Hb.o);go_wp2;go_ret;exact⟨bst,rfl,HE.o,HUx.o⟩
    have hil:r<j.res.length:=by have:=Hrn.o;omega
    obtain⟨on,hon⟩:∃x,(j.R r).p.off.length=x:=⟨_,rfl⟩
    have hjr:=HJ.o wr Hb.o;obtain⟨rb,ro,hre,hrB⟩:=hjr.1.ra (by omega);have hRe:RA=some ⟨rb,ro,none⟩:=by rw[<- HRA.o];exact hre
    have HRc:=hI (show ∀X:World,Bl W0 X->X.cell? ⟨rb,ro+r*3+2,none⟩=some (.slice (j.R r).OA on (j.R r).oc)/\Sl X B 2 encJSpan (j.R r).OA (j.R r).p.off from fun X hX=>by
     obtain⟨hj9,_⟩:=HJ.o X hX;obtain⟨_,_,c2⟩:=hj9.rcells (by rw[<- hre]) hil;rw[hon] at c2;exact⟨c2,(hj9.rss _ (j.R_mem hil)).os⟩)
    have holc:=(hjr.1.rss _ (j.R_mem hil)).ol;have hocc:=(hjr.1.rss _ (j.R_mem hil)).oc;have ho16:=HG.o.noff _ (j.Rp_mem hil);have Hof:=hI (HG.o.off _ (j.Rp_mem hil));have HOf:=hI (show(j.p.res.getD r default).off=(j.R r).p.off by rw[j.pR]);rw[hon] at holc ho16;have Hon:=hI hon;generalize j.R r=rs at HRc holc hocc Hof HOf Hon;subst hRe;clear hon hjr hre;obtain⟨wl,hwl⟩:∃z,z=wr:=⟨_,rfl⟩
    subst hwl;go_wp2;clear q0 q1;go_loopw [11,15] (fun v11 v15 wr=>∃(k2:Nat) (best:Int),k2<=on/\v15= .int .i64 k2/\v11= .int .i64 best/\Hid (BestC F fr (CandB j.p b n r k2) best)/\Hid (Bl W0 wr)) (fun _ v15 _=>on-(intOf v15).toNat);case atStart=>exact⟨0,bst,by omega,rfl,rfl,HC,Hb⟩
    case round=>
     obtain⟨k2,best,hk2,rfl,rfl,HC2,Hb2⟩:=hrel;have hsr2:=Hb2.o.size;have q0:=W7.bc (j:=0) (HX00.o wr Hb2.o) rfl;have q1:=W7.bc (j:=1) (HX00.o wr Hb2.o) rfl;obtain⟨rc2,rsl⟩:=HRc.o wr Hb2.o
     by_cases hlt2:k2<on
     rotate_left
     ·have HV:=hI (show BestC F fr (CandB j.p b n (r+1) 0) best from HC2.o.same (fun x=>by
       have h:=candB_next (j:=j.p) (b:=b) (n:=n) (r:=r) x;rw[HOf.o,Hon.o] at h;rw[show k2=on by omega];exact h))
      clear rsl;go_wp2;go_roundw;case rel=>exact⟨r+1,best,by omega,by go_num,rfl,HV,Hb2⟩
      case measure=>simp[intOf];omega
     have hkl:k2<rs.p.off.length:=by have:=Hon.o;omega
     obtain⟨ob,oo,hoe,hoB,hoc⟩:=rsl (by omega);have o1:wr.cell? ⟨ob,oo+k2*2+1,none⟩=some (.int .i64 rs.p.off[k2].hi):=hoc k2 hkl 1 _ rfl;have hsp:=Hof.o _ (List.getElem_mem hkl)
     have HPt:=hI (fun(x:Int)=>show(CandB j.p b n r k2 x\/x=rs.p.off[k2].hi+1)↔CandB j.p b n r (k2+1) x from by
      have h:=candB_put (j:=j.p) (b:=b) (n:=n) (r:=r) (k:=k2) x;rw[HOf.o,getD_of hkl] at h;exact h)
     generalize rs.p.off[k2]=sp at o1 hsp HPt;obtain⟨slo,shi⟩:=sp;dsimp only at o1 hsp HPt;have HCs:=hI (fun(h2: ¬(fr<shi+1/\(best<0\/shi+1<best)/\F (shi+1)=true))=>(HC2.o.skip h2).same HPt.o);have HCp:=hI (fun(h1:fr<shi+1) (h2:F (shi+1)=true) (h3:best<0\/shi+1<best)=>(HC2.o.put hfr.1 h1 h2 h3).same HPt.o);rw[hoe] at rc2;clear hoc hoe rsl;cases h1:decide (shi+1>fr)
     ·have HV:=hI (HCs.o (fun h=>by have:=of_decide_eq_false h1;omega));go_wp2;go_roundw;case rel=>exact⟨k2+1,best,by omega,by go_num,rfl,HV,Hb2⟩
      case measure=>simp[intOf];omega
     have h1':=of_decide_eq_true h1;have HFc:=hI (HFt.o wr Hb2.o (shi+1) (by omega));cases h2:decide (best<0)
     ·cases h3:decide (shi+1<best)
      ·have HV:=hI (HCs.o (fun h=>by have:=of_decide_eq_false h2;have:=of_decide_eq_false h3;omega));go_wp2;go_roundw;case rel=>exact⟨k2+1,best,by omega,by go_num,rfl,HV,Hb2⟩
       case measure=>simp[intOf];omega
      have h3':=of_decide_eq_true h3;cases hv:F (shi+1)
      ·have HV:=hI (HCs.o (fun h=>by rw[hv] at h;exact absurd h.2.2 (by decide)));rw[hv] at HFc;clear hv;go_wp2_with (go_at_call 137;refine HFc.o.mono ?_;rintro e w6 ⟨rfl,hb6⟩;have Hb6:=hI (Hb2.o.trans (hb6.mono hsr2));clear hb6);go_roundw;case rel=>exact⟨k2+1,best,by omega,by go_num,rfl,HV,Hb6⟩
       case measure=>simp[intOf];omega
      ·have HV:=hI (HCp.o (by omega) hv (.inr (by omega)));rw[hv] at HFc;clear hv;go_wp2_with (go_at_call 137;refine HFc.o.mono ?_;rintro e w6 ⟨rfl,hb6⟩;have Hb6:=hI (Hb2.o.trans (hb6.mono hsr2));clear hb6);go_roundw;case rel=>exact⟨k2+1,shi+1,by omega,by go_num,rfl,HV,Hb6⟩
       case measure=>simp[intOf];omega
     have h2':=of_decide_eq_true h2;cases hv:F (shi+1)
     ·have HV:=hI (HCs.o (fun h=>by rw[hv] at h;exact absurd h.2.2 (by decide)));rw[hv] at HFc;clear hv;go_wp2_with (go_at_call 137;refine HFc.o.mono ?_;rintro e w6 ⟨rfl,hb6⟩;have Hb6:=hI (Hb2.o.trans (hb6.mono hsr2));clear hb6);go_roundw;case rel=>exact⟨k2+1,best,by omega,by go_num,rfl,HV,Hb6⟩
      case measure=>simp[intOf];omega
     ·have HV:=hI (HCp.o (by omega) hv (.inl (by omega)));rw[hv] at HFc;clear hv;go_wp2_with (go_at_call 137;refine HFc.o.mono ?_;rintro e w6 ⟨rfl,hb6⟩;have Hb6:=hI (Hb2.o.trans (hb6.mono hsr2));clear hb6);go_roundw;case rel=>exact⟨k2+1,shi+1,by omega,by go_num,rfl,HV,Hb6⟩
      case measure=>simp[intOf];omega
end Go.Proofs.YtjpgnfekbojcaaaGreat
