/- WorksGoes' law returns true for every input that can be read. -/
import Derived.Test.YtjpgnfekbojcaaaGreatWHeavy
import Derived.Test.YtjpgnfekbojcaaaGreatWRKeep
import Derived.Test.YtjpgnfekbojcaaaGreatWSame
import Derived.Test.YtjpgnfekbojcaaaGreatWGoe0
import Derived.Test.YtjpgnfekbojcaaaGreatWDig3
set_option maxHeartbeats 16000000
set_option maxRecDepth 100000
namespace Go.Proofs.YtjpgnfekbojcaaaGreat
open Go.RowKit W7 W8
theorem fail_ok {j:JobP} {st:List Int} {now r until':Int} (h:failErr j st now r until'=0):∃q:Nat,r=(q:Int)/\FailOk j st now q until'/\failJ j st now r until'=failJob j q now until'/\FailG j st now q until' (failSt j st now r until'):=by
 have hl:lnErr j st=0:=by
  by_cases h1:lnErr j st=0
  ·exact h1
  ·rw[failErr_len h1] at h;exact absurd h h1
 have hw:withinB r 0 ((j.res.length:Int)-1)=true:=by
  cases h1:withinB r 0 ((j.res.length:Int)-1)
  ·rw[failErr_no hl h1] at h;cases h
  ·rfl
 have ht:(isTm now&&isTm until'&&decide (now<=until'))=true:=by
  cases h1:(isTm now&&isTm until'&&decide (now<=until'))
  ·rw[failErr_arg hl hw h1] at h;cases h
  ·rfl
 have hb: ¬ 16<(failOff j r.toNat now until').length:=fun h1=>by
  rw[failErr_big hl hw ht h1] at h;cases h
 have hE:=h;rw[failErr_run hl hw ht hb] at h
 have hrun:(failRun j st now r until').1=true:=by
  cases h1:(failRun j st now r until').1
  ·rw[h1] at h;cases h
  ·rfl
 have hwb:=withinB_true.1 hw;obtain⟨q,rfl⟩:∃q:Nat,r=q:=⟨r.toNat,by omega⟩
 rw[Int.toNat_natCast] at hb
 have hkp:kpErr j st=0/\keepsV j st=true:=by
  unfold lnErr at hl
  by_cases h1:kpErr j st=0
  ·rw[if_neg (by simpa using h1)] at hl;cases h2:keepsV j st
   ·rw[h2] at hl;cases hl
   ·exact⟨h1,rfl⟩
  ·rw[if_pos h1] at hl;exact absurd hl h1
 have hje:jobErr j=0/\st.length=j.tasks.length:=by
  have h1:=hkp.1;unfold kpErr at h1
  by_cases h2:jobErr j=0
  ·rw[if_neg (by simpa using h2)] at h1
   by_cases h3:st.length=j.tasks.length
   ·exact⟨h2,h3⟩
   ·rw[if_neg h3] at h1;cases h1
  ·rw[if_pos h2] at h1;exact absurd h1 h2
 simp only[Bool.and_eq_true,decide_eq_true_eq] at ht;have t1:=isTm_true.1 ht.1.1;have t2:=isTm_true.1 ht.1.2;have hok:FailOk j st now q until':=⟨hje.1,by omega,t1.1,ht.2,t2.2,hje.2,hkp.2,by omega⟩
 refine⟨q,rfl,hok,?_,?_⟩
 ·unfold failJ;rw[if_pos hE,Int.toNat_natCast]
 ·have:=fail_goes hok hrun;unfold failSt;rw[if_pos hE];exact this
attribute [local go_sem] Oper.semAt_some
theorem src_sl {α:Type} [Inhabited α] {enc:α->List Value} {k:Nat} (hk:0<k) (hlen:∀x,(enc x).length=k) {w:World} {B n:Nat} {l:List α} {ad:Addr} (h:Sl w B k enc (some ad) l) (hn:n=l.length):Src w k (some ad) n (l.flatMap enc):=by
 have hfl:(l.flatMap enc).length=l.length*k:=by
  clear h hn
  induction l with
  | nil=>simp
  | cons a r ih=>rw[List.flatMap_cons,List.length_append,ih,hlen,List.length_cons,Nat.succ_mul];omega
 refine .inr ⟨ad,rfl,by rw[hfl,hn],fun i u hu=> ?_⟩
 have hi:i<l.length*k:=by
  have:=(List.getElem?_eq_some_iff.1 hu).1
  rwa [hfl] at this
 obtain⟨b,off,e1,_,hc⟩:=h (Nat.pos_of_ne_zero fun h0=>by rw[h0,Nat.zero_mul] at hi;omega);cases e1;have hd:i/k<l.length:=Nat.div_lt_of_lt_mul (by rw[Nat.mul_comm];exact hi);have hm:i%k<k:=Nat.mod_lt _ hk;have he:i/k*k+i%k=i:=by rw[Nat.mul_comm];exact Nat.div_add_mod i k
 have hu2:(enc l[i/k])[i%k]? =some u:=by
  rw[<- flatMap_get (enc:=enc) (k:=k) hlen l (i/k) (i%k) hd hm,he];exact hu
 have h1:=hc (i/k) hd (i%k) u hu2
 have h2:(⟨b,off,none⟩:Addr).add i=⟨b,off+i/k*k+i%k,none⟩:=by
  rw[show off+i/k*k+i%k=off+i by omega];unfold Addr.add
  split<;>simp_all
 rw[h2];exact h1
def backJob (j o:Job) (q:Nat) (A:Option Addr) (c:Nat):Job:=({ o with RA:=A,rc:=c }:Job).putOff q (j.R q).p.off (j.R q).OA (j.R q).oc
theorem back_p {j o:Job} {q c:Nat} {now until':Int} {A:Option Addr} (ho:o.p=failJob j.p q now until') (hq:q<j.p.res.length):(backJob j o q A c).p=j.p:=by
 have h1:({ o with RA:=A,rc:=c }:Job).p=failJob j.p q now until':=ho;unfold backJob;rw[putOff_p,h1];unfold failJob;simp only[List.set_set,getD_setR hq];rw[if_pos trivial,<-j.pR]
 have:j.p.res.set q (j.p.res.getD q default)=j.p.res:=by
  rw[getD_of hq];exact List.set_getElem_self hq
 show(⟨j.p.tasks,j.p.res.set q (j.p.res.getD q default)⟩:JobP)=j.p
 rw[this]
theorem back_in {X:World} {j o:Job} {q c g B1 B2 base:Nat} (hq:q<o.res.length) (hqj:q<j.res.length) (hX1:B1<=X.heap.size) (hX2:B2<=X.heap.size) (hj:JIn X B1 j) (ho:JIn X B2 o) (hr:X.ownsRow base 43 3 (.slice (some ⟨g,0,none⟩) o.res.length c) o.res.length ((backJob j o q (some ⟨g,0,none⟩) c).res.flatMap encRes)):JIn X X.heap.size (backJob j o q (some ⟨g,0,none⟩) c):=by
 have hlen:(backJob j o q (some ⟨g,0,none⟩) c).res.length=o.res.length:=by unfold backJob Job.putOff;simp
 have hcaps:=own_caps hr;refine⟨ho.tk.mono hX2,sl_own (c:=c) (by rw[show(backJob j o q (some ⟨g,0,none⟩) c).RA=some ⟨g,0,none⟩ from rfl];exact hr) lenR (by omega),ho.tl,ho.tc,by rw[hlen];exact hcaps.1,hcaps.2,fun t ht=>(ho.tks t ht).mono hX2,fun r hr'=> ?_⟩;rcases List.mem_or_eq_of_mem_set hr' with h1 | h1
 ·exact(ho.rss r h1).mono hX2
 ·rw[h1];have h2:=hj.rss _ (j.R_mem hqj);have h3:=ho.rss _ (o.R_mem hq);exact⟨h3.nm,h2.os.mono hX1,h2.ol,h2.oc⟩
theorem LawGoes_any (j:Job) (l:List Int) (now r until':Int) (A:Option Addr) (n c B:Nat) (w:World) (hj:JIn w B j) (hN:JNil j) (hn:n=l.length) (hA:Sl w B 1 encInt1 A l) (hB:B<=w.heap.size) (hnc:n<=c) (hc:c<=9223372036854775807) :
  Calls Tryz.prog 6 #[jobV j,.slice A n c,.int .i64 now,.int .i64 r,.int .i64 until'] w fun e w'=>e= .returned (.bool true)/\Bl w w':=by
 obtain⟨m,hm⟩:∃m,j.tasks.length=m:=⟨_,rfl⟩
 obtain⟨nr,hr⟩:∃nr,j.res.length=nr:=⟨_,rfl⟩
 have hjv:jobV j= .agg #[.slice j.TA m j.tc,.slice j.RA nr j.rc]:=by unfold jobV;rw[hm,hr]
 obtain⟨W0,HW0,hs0,HB0,HX00,HU0⟩:=boxes1 w (.cells #[.slice j.TA m j.tc,.slice j.RA nr j.rc] 25);have HJ:=hI (show ∀X:World,Bl W0 X->JIn X B j/\Sl X B 1 encInt1 A l from fun X hX=>⟨hj.below ((HU0.o X hX).mono hB),hA.below ((HU0.o X hX).mono hB)⟩);have HM:=hI (heavy_any j 8 B W0 (HJ.o W0 (Below.refl _ _)).1 (by omega));have Hn:=hI hn;have HDg:=hI digs_any;have Hjv:=hI hjv;have Hm:=hI hm;have Hr:=hI hr;have HN:=hI hN;have q0:=W7.bc (j:=0) (HX00.o W0 (Below.refl _ _)) rfl;have q1:=W7.bc (j:=1) (HX00.o W0 (Below.refl _ _)) rfl;rw[hjv,hm,hr] at HM;rw[hjv];clear hj hn hA hjv hm hr hN;go_enter Tryz.func6,Tryz.ntmps6;go_upto_region 1 with fail;rw[<- HW0.o];go_wp2_with (go_at_call 15;fail);refine HM.o.mono ?_;rintro e w1 ⟨⟨b,rfl,hbb⟩,hb1⟩;have hs1:=hb1.size;have Hb1:=hI hb1;clear hb1 q0 q1 HM;cases b;rotate_left
 ·clear hbb;go_wp2_with (go_at_call 16;refine(HDg.o _).mono ?_;rintro e w2 ⟨rfl,hb2⟩;have Hb2:=hI (Hb1.o.trans (hb2.mono hs1));clear hb2);go_ret;exact⟨rfl,HU0.o _ Hb2.o⟩
 have Hbb:=hI (hbb rfl);clear hbb;cases h100:decide ((n:Int)>100);rotate_left
 ·go_wp2_with (go_at_call 16;refine(HDg.o _).mono ?_;rintro e w2 ⟨rfl,hb2⟩;have Hb2:=hI (Hb1.o.trans (hb2.mono hs1));clear hb2);go_ret;exact⟨rfl,HU0.o _ Hb2.o⟩
 have hn100:n<=100:=by have:=of_decide_eq_false h100;omega
 have HS:=hI (show Slim j from⟨by have:=Hbb.o.1;have:=Hm.o;omega,by have:=Hbb.o.2.1;have:=Hr.o;omega⟩);have HV1:=hI (Fail_any j l now r until' A n c B w1 (HJ.o w1 Hb1.o).1 (by omega) HS.o HN.o ⟨Hn.o,by omega,hnc,hc,(HJ.o w1 Hb1.o).2⟩ (fun h=>by have:=(good_of h).nt;rw[j.nt,Hm.o] at this;have:=Hbb.o.2.2;have:=Hm.o;omega));have HBad:=hI (show failErr j.p l now r until'≠0->failJ j.p l now r until'=⟨[],[]⟩/\failSt j.p l now r until'=[] from fun h=>⟨by unfold failJ;rw[if_neg h],by unfold failSt;rw[if_neg h]⟩);have HGood:=hI (fun h=>fail_ok (j:=j.p) (st:=l) (now:=now) (r:=r) (until':=until') h);obtain⟨Vs,hV⟩:∃x,failSt j.p l now r until'=x:=⟨_,rfl⟩
 obtain⟨E,hE⟩:∃x,failErr j.p l now r until'=x:=⟨_,rfl⟩
 rw[hV] at HBad HGood;rw[hE] at HBad HGood;have HVe:=hI hV;have HEe:=hI hE;rw[Hjv.o] at HV1;clear hV hE;have q0:=W7.bc (j:=0) (HX00.o w1 Hb1.o) rfl;have q1:=W7.bc (j:=1) (HX00.o w1 Hb1.o) rfl;go_upto_region 3 with fail;go_wp2_with (go_at_call 22;fail);refine HV1.o.mono ?_;rintro e w2 ⟨⟨o,sv,he,ho,hop,hsv⟩,hb2⟩;rw[HEe.o] at he;rw[HVe.o] at hsv;obtain⟨ot,hot⟩:∃x,o.tasks.length=x:=⟨_,rfl⟩
 obtain⟨onr,hor⟩:∃x,o.res.length=x:=⟨_,rfl⟩
 have hov:jobV o= .agg #[.slice o.TA ot o.tc,.slice o.RA onr o.rc]:=by unfold jobV;rw[hot,hor]
 rw[hov] at he;subst he;obtain⟨FA,fc,rfl,hfc1,hfc2⟩:=own_cap' hsv;obtain⟨fn,hfn⟩:∃x,Vs.length=x:=⟨_,rfl⟩
 rw[hfn] at hfc1 hsv;rw[hfn];have hs2:=hb2.size;have Hb2:=hI (Hb1.o.trans (hb2.mono hs1));have Hop:=hI hop;have Ho2:=hI ho;have Hsv:=hI hsv;have Hfn:=hI hfn;have Hot:=hI hot;have Hor:=hI hor;have Hov:=hI hov;clear hb2 hop ho hsv hfn hot hor hov q0 q1 HV1;obtain⟨W3,hW3⟩:∃W3,W3=w2.alloc (.cells #[.slice o.TA ot o.tc,.slice o.RA onr o.rc] 25):=⟨_,rfl⟩
 have hs3:W3.heap.size=w2.heap.size+1:=by rw[hW3];simp
 have HB3:=hI (show Bl w2 W3 by rw[hW3];exact(Below.refl _ _).alloc (Nat.le_refl _) _);have HO3:=hI (show W3.heap[w2.heap.size]? =some (.cells #[.slice o.TA ot o.tc,.slice o.RA onr o.rc] 25 (0,0)) by rw[hW3];exact heap_alloc_new _ _);have HW3:=hI hW3;clear hW3;cases hE0:(E==0)
 ·have hE0':(E != 0)=true:=by simp[bne,hE0]
  have hne:E≠0:=fun h=>by rw[h] at hE0;cases hE0
  have hz:fn=0:=by rw[<- Hfn.o,(HBad.o hne).2];rfl
  have hz2:ot=0:=by rw[<- Hot.o,<-o.nt,Hop.o,(HBad.o hne).1];rfl
  subst hz hz2;have HU3:=hI (Hb2.o.trans (HB3.o.mono (by omega)));have q0:=W7.bc (j:=0) HO3.o rfl;have q1:=W7.bc (j:=1) HO3.o rfl;go_upto_region 4 with fail
  go_loud (rw[<- HW3.o])
  go_wp2_with (go_at_call 16;refine(HDg.o _).mono ?_;rintro e w3 ⟨rfl,hb3⟩;have Hb3:=hI (HU3.o.trans (hb3.mono (by omega)));clear hb3);go_ret;exact⟨rfl,HU0.o _ Hb3.o⟩
 have hE0':(E != 0)=false:=by simp[bne,hE0]
 have He:=hI (show E=0 from eq_of_beq hE0);obtain⟨q,hq,hok,hfj,hg⟩:=HGood.o He.o;subst hq;have HOk:=hI hok;have HGo:=hI hg;have HG:=hI (good_of hok.je);have HOp:=hI (show o.p=failJob j.p q now until' from Hop.o.trans hfj);have hqn:q<nr:=by have:=hok.hq;rw[j.nr,Hr.o] at this;exact this
 have hnm:n=m:=by have:=hok.len;rw[j.nt,Hm.o] at this;rw[Hn.o];exact this
 subst hnm;have hon:ot=n:=by rw[<- Hot.o,<-o.nt,HOp.o,<-Hm.o,<-j.nt];rfl
 have hor:onr=nr:=by rw[<- Hor.o,<-o.nr,HOp.o,failJob_len,j.nr,Hr.o]
 have hfn:fn=n:=by rw[<- Hfn.o,hg.len,j.nt,Hm.o]
 subst hon hor hfn;have hnow:=hok.now0;have hun:=hok.un;have hun1:=hok.un1;clear hok hfj hg HBad HGood;have HVb:=hI (show ∀i,0<=Vs.getD i 0/\Vs.getD i 0<=100000 from keepsV_time (by rw[HGo.o.len];rfl) HGo.o.kp);have HLb:=hI (show ∀i,0<=l.getD i 0/\l.getD i 0<=100000 from keepsV_time HOk.o.len HOk.o.kp);have HSl2:=hI (show Sl w2 w2.heap.size 1 encInt1 FA Vs from sl_own2 (k:=1) (fun _=>rfl) (base:=w1.heap.size) (e:=3) (c:=fc) (by rw[flat_int,Hfn.o];exact Hsv.o));have HOX:=hI (show ∀X:World,Bl w2 X->JIn X w2.heap.size o/\Sl X w2.heap.size 1 encInt1 FA Vs from fun X hX=>⟨Ho2.o.jin.below hX,HSl2.o.below hX⟩);have HKe:=hI (show kpErr o.p Vs=0 by unfold kpErr;rw[HOp.o,HGo.o.je,HGo.o.len];simp[failJob]);have HKv:=hI (show kpV o.p Vs=true by unfold kpV;rw[HKe.o,HOp.o,HGo.o.kp];rfl)
 have HKp:=hI (refKeeps_any o Vs FA fn fc w2.heap.size W3 (HOX.o W3 HB3.o).1 (by omega) ⟨Hfn.o.symm,by omega,hfc1,hfc2,(HOX.o W3 HB3.o).2⟩ (fun i=>by have:=HVb.o i;omega));rw[HKv.o,HKe.o,Hov.o] at HKp;have q0:=W7.bc (j:=0) HO3.o rfl;have q1:=W7.bc (j:=1) HO3.o rfl;have hrr:((onr:Int) != (onr:Int))=false:=by simp
 have HU3:=hI (Hb2.o.trans (HB3.o.mono (by omega)));go_upto_region 4 with fail
 go_loud (rw[<- HW3.o])
 go_upto_region 7 with(go_at_call 20;go_loud (refine HKp.o.mono ?_);rintro e w4 ⟨rfl,hb4⟩;have hs4:=hb4.size;have Hb4:=hI (HB3.o.trans (hb4.mono (by omega)));have HO4:=hI ((hb4.block _ (by omega)).trans HO3.o);clear hb4)
 clear q0 q1 HKp;have HU4:=hI (Hb2.o.trans (Hb4.o.mono (by omega)));have q0:=W7.bc (j:=0) HO4.o rfl;have q1:=W7.bc (j:=1) HO4.o rfl;have r1:=W7.bc (j:=1) (HX00.o w4 HU4.o) rfl;obtain⟨W5,hW5⟩:∃W5,W5=w4.alloc (.cells #[.slice o.TA fn o.tc,.slice o.RA onr o.rc] 25):=⟨_,rfl⟩
 have hs5:W5.heap.size=w4.heap.size+1:=by rw[hW5];simp
 have HB5:=hI (show Bl w4 W5 by rw[hW5];exact(Below.refl _ _).alloc (Nat.le_refl _) _);have HK5:=hI (show W5.heap[w4.heap.size]? =some (.cells #[.slice o.TA fn o.tc,.slice o.RA onr o.rc] 25 (0,0)) by rw[hW5];exact heap_alloc_new _ _);have HW5:=hI hW5;clear hW5;go_upto_region 10 with fail
 go_loud (rw[<- HW5.o])
 have HU5:=hI (HU4.o.trans (HB5.o.mono (by omega)));have HT5:=hI (show Bl w2 W5 from Hb4.o.trans (HB5.o.mono (by omega)));have HO5:=hI ((HB5.o.block _ (by omega)).trans HO4.o);obtain⟨oa,ooff,hRA,hoa⟩:=(HOX.o W5 HT5.o).1.ra (by have:=Hor.o;omega);have hj5:=(HOX.o W5 HT5.o).1;have hol:=hj5.rl;have hoc:=hj5.rc;have hrs:=hj5.rs;rw[hRA] at hrs;rw[Hor.o] at hol;have hn16:onr<=16:=by have:=HG.o.nr;rw[j.nr,Hr.o] at this;exact this
 have HSr:=hI (src_sl (w:=W5.alloc (.cells #[] 43)) (ad:=⟨oa,ooff,none⟩) (by decide) lenR (hrs.below ((Below.refl _ _).alloc (by omega) _)) Hor.o.symm)
 have Hone:Hid (∀u∈o.res.flatMap encRes,u.oneCell'=true):=by
  intro u hu;obtain⟨x,_,hx⟩:=List.mem_flatMap.1 hu;simp only[encRes,List.mem_cons,List.not_mem_nil,or_false] at hx;rcases hx with rfl | rfl | rfl<;>rfl
 have HLi:=hI (World.ownsRow_lit (base:=W5.heap.size) (e:=43) (size:=3) W5 #[] 0 (Nat.le_refl _) (by unfold maxLen;omega) rfl);have HRA:=hI hRA;obtain⟨oRA,hoRA⟩:∃x,o.RA=x:=⟨_,rfl⟩
 have HO4':=HO4;rw[hoRA] at hRA HO5 HK5 HO4';subst hRA;clear hj5 hrs q0 q1 r1;have q0:=W7.bc (j:=0) HO5.o rfl;have q1:=W7.bc (j:=1) HO5.o rfl;have k0:=W7.bc (j:=0) HK5.o rfl;have k1:=W7.bc (j:=1) HK5.o rfl;have f1:=W7.bf (j:=1) HK5.o;have hbk5:w4.heap.size<W5.heap.size:=by omega
 have z1:(W5.alloc (.cells #[] 43)).cell? ⟨w2.heap.size,1,none⟩=some (.slice (some ⟨oa,ooff,none⟩) onr o.rc):=bc (j:=1) ((Below.heap_alloc _ _ _ (by omega)).trans HO5.o) rfl;go_upto_region 11 with(at_builtin;go_loud (refine wpList_appendL rfl _ _ 23 rfl W5.heap.size 43 _ 3 48 elemR (.slice (some ⟨W5.heap.size,0,none⟩) 0 0) 0 [] (by simp[Act.eval]) HLi.o (some ⟨oa,ooff,none⟩) onr o.rc _ (by simp[Act.eval]) HSr.o Hone.o (by omega) (by simp) ?_);intro v6 w6 hown6 hb6 hsz6 hg6 hblk6;rw[Nat.zero_add,List.nil_append] at hown6;obtain⟨BA,bcap,rfl,hbc1,hbc2⟩:=own_cap' hown6;have hk6:=(((Below.refl W5.heap.size W5).alloc (Nat.le_refl _) _).trans hb6).block w4.heap.size hbk5;have f6:=W7.bf (j:=1) (hk6.trans HK5.o);have g6:=bc (j:=1) (hk6.trans HK5.o) rfl;have Hk6:=hI hk6;have Hown6:=hI hown6;have Hb6:=hI (((Below.refl W5.heap.size W5).alloc (Nat.le_refl _) _).trans hb6);clear hown6 hb6 hsz6 hg6 hblk6 hk6)
 clear q0 q1 k0 k1 f1 z1 g6 f6 HLi HSr;obtain⟨W6,hW6⟩:∃W6,W6=w6.setCell ⟨w4.heap.size,1,none⟩ (.slice BA onr bcap):=⟨_,rfl⟩
 have hs6:W6.heap.size=w6.heap.size:=by rw[hW6];simp[World.setCell]
 have hs56:=Hb6.o.size
 obtain⟨ga,hga,hga2⟩:∃ga,BA=some ⟨ga,0,none⟩/\W5.heap.size<=ga:=by
  rcases Hown6.o.2 with⟨_,h1⟩ | ⟨g,cap,cur,e0,e1,_⟩
  ·omega
  ·injection e0 with e2 _ _;exact⟨g,e2,e1⟩
 subst hga;have HR6:=hI (show W6.ownsRow W5.heap.size 43 3 (.slice (some ⟨ga,0,none⟩) onr bcap) onr (o.res.flatMap encRes) by rw[hW6];exact ownsRow_setCell_below Hown6.o (by omega) _);have HK6:=hI (show W6.heap[w4.heap.size]? =some (.cells #[.slice o.TA fn o.tc,.slice (some ⟨ga,0,none⟩) onr bcap] 25 (0,0)) by rw[hW6,blk_set (Hk6.o.trans HK5.o)];rfl);have HB6:=hI (show Bl w4 W6 by rw[hW6];exact(HB5.o.trans (Hb6.o.mono (by omega))).setCell (p:=⟨w4.heap.size,1,none⟩) (Nat.le_refl _) _);have HW6:=hI hW6;clear hW6
 go_loud (rw[<- HW6.o])
 have HU6:=hI (HU4.o.trans (HB6.o.mono (by omega)));have HT6:=hI (show Bl w2 W6 from Hb4.o.trans (HB6.o.mono (by omega)));have hjn:=(HJ.o W6 HU6.o).1;obtain⟨jb,joff,hjR,hjb⟩:=hjn.ra (by have:=Hr.o;omega);have hqj:q<j.res.length:=by have:=Hr.o;omega
 obtain⟨e0,e1,e2⟩:=hjn.rcells hjR hqj;have hx1:=bc (j:=1) (HX00.o W6 HU6.o) rfl;have hx1':W6.cell? ⟨w.heap.size,1,none⟩=some (.slice j.RA onr j.rc):=hx1;rw[hjR] at hx1';obtain⟨JO,hJO⟩:∃x,(j.R q).OA=x:=⟨_,rfl⟩
 obtain⟨jo,hjo⟩:∃x,(j.R q).p.off.length=x:=⟨_,rfl⟩
 obtain⟨jc,hjc⟩:∃x,(j.R q).oc=x:=⟨_,rfl⟩
 rw[hJO,hjo,hjc] at e2;have hjc9:=hjn.rl;have hjc8:=hjn.rc;rw[Hr.o] at hjc9;have Z0:=later_cell e2 (by omega);have Z1:=later_cell hx1' (by omega);have Z2:=later_cell (bc (j:=1) HK6.o rfl) (by omega);have HJO:=hI hJO;have Hjo:=hI hjo;have Hjc:=hI hjc;clear e0 e1 e2 hx1 hx1' hjn hjR hJO hjo hjc;refine wp_region_later_tail 9 (by kernel_rfl) (by kernel_rfl) ?_;simp only[List.take_succ_cons,List.take_zero,List.drop_succ_cons,List.drop_zero]
 repeat (any_goals (first | go_big_quiet_step ((fail)) | quiet_step ((fail))))
 refine wpQuiet_nil ?_;rintro w' ⟨e6,rfl⟩;have HR7:=hI (own_below HR6.o e6.b);have f7:=HR7.o.frozenAt (q*3+2);have hfl:(o.res.flatMap encRes).length=onr*3:=HR7.o.1;have hq3:q*3+2<onr*3:=by omega
 have c7:∃x,e6.w.cell? ⟨ga,q*3+2,none⟩=some x:=⟨(o.res.flatMap encRes)[q*3+2]'(by omega),by
  have h:=HR7.o.cellAt (q*3+2) hq3;rw[List.getElem?_eq_getElem (by omega)] at h;exact h⟩
 obtain⟨x7,c7⟩:=c7;have Hb7:=hI e6.b;have hs7:=e6.b.size;clear Z0 Z1 Z2 hfl hq3;generalize e6.w=w7 at HR7 f7 c7 Hb7 hs7;obtain⟨WJ,hWJ⟩:∃WJ,WJ=w7.setCell ⟨ga,q*3+2,none⟩ (.slice JO jo jc):=⟨_,rfl⟩
 have HR8:=hI (show WJ.ownsRow W5.heap.size 43 3 (.slice (some ⟨ga,0,none⟩) o.res.length bcap) o.res.length ((backJob j o q (some ⟨ga,0,none⟩) bcap).res.flatMap encRes) by
  have h:=(HR7.o.stored (q*3+2) (.slice JO jo jc)).1;rw[<- HJO.o,<-Hjo.o,<-Hjc.o,encRs_set _ _ (by rw[Hor.o];exact hqn)] at h;rw[hWJ,Hor.o,<-HJO.o,<-Hjo.o,<-Hjc.o];exact h)
 have HB7:=hI (show Bl w4 WJ by rw[hWJ];exact(HB6.o.trans (Hb7.o.mono (by omega))).setCell (p:=⟨ga,q*3+2,none⟩) (by simp;omega) _);have HK7:=hI (show WJ.heap[w4.heap.size]? =some (.cells #[.slice o.TA fn o.tc,.slice (some ⟨ga,0,none⟩) onr bcap] 25 (0,0)) by rw[hWJ,blk_set_ne (by omega)];exact(Hb7.o.block _ (by omega)).trans HK6.o);have hs7':WJ.heap.size=w7.heap.size:=by rw[hWJ];simp[World.setCell]
 have HWJ:=hI hWJ;clear hWJ;have HU7:=hI (HU4.o.trans (HB7.o.mono (by omega)));have HT7:=hI (show Bl w2 WJ from Hb4.o.trans (HB7.o.mono (by omega)))
 have HSm:=hI (lawSame_any (backJob j o q (some ⟨ga,0,none⟩) bcap) j WJ.heap.size WJ (back_in (by rw[Hor.o];exact hqn) hqj (by omega) (by omega) (HJ.o WJ HU7.o).1 (HOX.o WJ HT7.o).1 HR8.o) ((HJ.o WJ HU7.o).1.mono (by omega)) (Nat.le_refl _) (back_p HOp.o (by rw[j.nr];exact hqj)).symm (fun t ht=>by
  rw[back_p HOp.o (by rw[j.nr];exact hqj)] at ht;have:=needs_len HG.o ht;omega))
 have HKv:=hI (show jobV (backJob j o q (some ⟨ga,0,none⟩) bcap)= .agg #[.slice o.TA fn o.tc,.slice (some ⟨ga,0,none⟩) onr bcap] by unfold jobV backJob Job.putOff;simp[Hot.o,Hor.o]);rw[HKv.o,Hjv.o] at HSm;have k0:=W7.bc (j:=0) HK7.o rfl;have k1:=W7.bc (j:=1) HK7.o rfl;have r0:=W7.bc (j:=0) (HX00.o WJ HU7.o) rfl;have r1:=W7.bc (j:=1) (HX00.o WJ HU7.o) rfl;go_upto_region 12 with fail
 go_loud (rw[<- HWJ.o])
 clear f7 c7;go_upto_region 14 with(go_at_call 24;go_loud (refine HSm.o.mono ?_);rintro e w8 ⟨rfl,hb8⟩;have hs8:=hb8.size;have Hb8:=hI (HB7.o.trans (hb8.mono (by omega)));clear hb8)
 clear k0 k1 r0 r1 HSm;have HU8:=hI (HU4.o.trans (Hb8.o.mono (by omega)));have HT8:=hI (show Bl w2 w8 from Hb4.o.trans (Hb8.o.mono (by omega)));have hsu:=HU8.o.size;have hst:=HT8.o.size;have HO8:=hI (show w8.heap[w2.heap.size]? =some (.cells #[.slice o.TA fn o.tc,.slice (some ⟨oa,ooff,none⟩) onr o.rc] 25 (0,0)) from(Hb8.o.block _ (by omega)).trans HO4'.o);have hs28:w2.heap.size<w8.heap.size:=by omega
 clear HB5 HK5 HW5 HU5 HT5 HO5 Hone HR6 HK6 HB6 HW6 HU6 HT6 HR7 Hb7 HR8 HB7 HK7 HWJ HU7 HT7 HKv Hk6 Hown6 Hb6 HO3 HB3 HW3;have Hbs:=hI (Below.refl w8.heap.size w8);go_wp2;go_loopw [17] (fun v17 wr=>∃i:Nat,i<=fn/\v17= .int .i64 i/\Hid (Bl w8 wr)) (fun v17 _=>fn-(intOf v17).toNat);case atStart=>exact⟨0,by omega,rfl,Hbs⟩
 case round=>
  obtain⟨i,hi,rfl,Hb⟩:=hrel;clear Hbs;have hsr:=Hb.o.size;have HUr:=hI (HU8.o.trans (Hb.o.mono (by omega)));have HTr:=hI (HT8.o.trans (Hb.o.mono (by omega)));have q0:=W7.bc (j:=0) (HX00.o wr HUr.o) rfl
  by_cases hlt:i<fn
  ·have hjn:=(HJ.o wr HUr.o).1;have hil:i<j.tasks.length:=by have:=Hm.o;omega
   obtain⟨tb,toff,hTb,htb⟩:=hjn.ta (by omega);obtain⟨c0,c1,c2,c3⟩:=hjn.tcells hTb hil;have htk:=(hjn.tks _ (j.T_mem hil)).us;have htul:=(hjn.tks _ (j.T_mem hil)).ul;have htuc:=(hjn.tks _ (j.T_mem hil)).uc;have htkb:=HG.o.takes _ (j.Tp_mem hil);have hnul:=uses_len HG.o (j.Tp_mem hil);have q0':wr.cell? ⟨w.heap.size,0,none⟩=some (.slice (some ⟨tb,toff,none⟩) fn j.tc):=by rw[<- hTb];exact q0
   have hjc:=hjn.tl;have hjc2:=hjn.tc;rw[Hm.o] at hjc;have HKp:=hI (show keptB j.p l now q i=(decide (l.getD i 0<now)&& !((j.T i).p.uses.any (fun u=>u.res==(q:Int))&&decide (now<l.getD i 0+(j.T i).p.takes))) by unfold keptB usesB;rw[j.pT]);have HKt:=hI (HGo.o.kept i (by rw[j.nt,Hm.o];exact hlt));have HKf:=hI (HGo.o.late i (by rw[j.nt,Hm.o];exact hlt));have hlv:=HLb.o i;have hsv:=HVb.o i;obtain⟨lb,loff,hlA,hlb,hlc⟩:=(HJ.o wr HUr.o).2 (by have:=Hn.o;omega);have hl0:=hlc i (by have:=Hn.o;omega) 0 _ rfl;have hle:l[i]'(by have:=Hn.o;omega)=l.getD i 0:=by rw[List.getD_eq_getElem?_getD,List.getElem?_eq_getElem (by have:=Hn.o;omega)];rfl
   rw[Nat.mul_one,Nat.add_zero,hle] at hl0;obtain⟨vb,voff,hvA,hvb,hvc⟩:=(HOX.o wr HTr.o).2 (by have:=Hfn.o;omega);have hv0:=hvc i (by have:=Hfn.o;omega) 0 _ rfl;have hve:Vs[i]'(by have:=Hfn.o;omega)=Vs.getD i 0:=by rw[List.getD_eq_getElem?_getD,List.getElem?_eq_getElem (by have:=Hfn.o;omega)];rfl
   rw[Nat.mul_one,Nat.add_zero,hve] at hv0;subst hlA hvA;clear hle hve hlc hvc hjn q0 c0 c2;generalize l.getD i 0=lv at hl0 hlv HKp HKt;generalize Vs.getD i 0=sv at hv0 hsv HKt HKf;generalize j.T i=t at c1 c3 htk htul htuc htkb hnul HKp;obtain⟨UA,hUA⟩:∃x,t.UA=x:=⟨_,rfl⟩
   obtain⟨uc,huc⟩:∃x,t.uc=x:=⟨_,rfl⟩
   rw[hUA] at c3 htk;rw[huc] at c3 htul htuc;clear hUA huc;generalize t.p=tp at *;obtain⟨nm,tk,ns,us⟩:=tp;simp only at c1 c3 htk htul htkb hnul HKp;obtain⟨nu,hnu⟩:∃x,us.length=x:=⟨_,rfl⟩
   rw[hnu] at c3 htul hnul;have Hnu:=hI hnu;have Hus:=hI htk;clear hnu htk;obtain⟨FU,hFU⟩:∃FU:Nat->Bool,FU=fun k=>(us.take k).any (fun u=>u.res==(q:Int)):=⟨_,rfl⟩
   have HF0:=hI (show FU 0=false by rw[hFU];simp);have HFs:=hI (show ∀k (hk:k<us.length),FU (k+1)=(FU k||(us[k].res==(q:Int))) from fun k hk=>by rw[hFU];simp only;rw[List.take_succ_eq_append_getElem hk,List.any_append];simp);have HFn:=hI (show FU nu=us.any (fun u=>u.res==(q:Int)) by rw[hFU,<-Hnu.o];simp only;rw[List.take_length]);rw[<- HFn.o] at HKp;clear hFU HFn;go_wp2;go_loopw [18,19] (fun v18 v19 wq=>∃k:Nat,k<=nu/\v19= .int .i64 k/\v18= .bool (FU k)/\wq=wr) (fun _ v19 _=>nu-(intOf v19).toNat);case atStart=>exact⟨0,by omega,rfl,by rw[HF0.o],rfl⟩
   case round=>
    obtain⟨k,hk,rfl,rfl,rfl⟩:=hrel
    by_cases hlk:k<nu
    ·have hku:k<us.length:=by have:=Hnu.o;omega
     obtain⟨ub,uoff,hUA,hub,huc⟩:=Hus.o (by omega);have u0:=huc k hku 0 _ rfl;rw[Nat.add_zero] at u0;subst hUA;have HF:=hI (HFs.o k hku);clear huc;generalize us[k].res=ur at u0 HF;cases hf:FU k
     ·have HF1:=hI (show FU (k+1)=(ur==(q:Int)) by rw[HF.o,hf,Bool.false_or]);go_wp2;go_roundw;case rel=>exact⟨k+1,by omega,by go_num,by rw[HF1.o],trivial⟩
      case measure=>simp[intOf];omega
     ·have HF1:=hI (show FU (k+1)=true by rw[HF.o,hf,Bool.true_or]);go_wp2;go_roundw;case rel=>exact⟨k+1,by omega,by go_num,by rw[HF1.o],trivial⟩
      case measure=>simp[intOf];omega
    ·obtain rfl:k=nu:=by omega
     cases hd:decide (lv<now)
     ·have hk0:keptB j.p l now q i=false:=by rw[HKp.o,hd];rfl
      have hd2:decide (sv<now)=false:=decide_eq_false (by have:=HKf.o hk0;omega);clear HKp HKt HKf hk0;go_wp2
      go_quiet (fail)
      go_wp2
      go_quiet (fail)
      go_wp2;go_roundw;case rel=>exact⟨i+1,by omega,by go_num,hI (below_drewN (B:=w8.heap.size) Hb.o _)⟩
      case measure=>simp[intOf];omega
     ·cases huf:FU k
      ·have hk0:keptB j.p l now q i=true:=by rw[HKp.o,hd,huf];rfl
       have hd2:(sv != lv)=false:=by rw[HKt.o hk0];simp
       clear HKp HKt HKf hk0;go_wp2
       go_quiet (fail)
       go_wp2
       go_quiet (fail)
       go_wp2;go_roundw;case rel=>exact⟨i+1,by omega,by go_num,hI (below_drewN (B:=w8.heap.size) Hb.o _)⟩
       case measure=>simp[intOf];omega
      ·cases hd3:decide (lv+tk<=now)
       ·have hk0:keptB j.p l now q i=false:=by rw[HKp.o,hd,huf,decide_eq_true (by have:=of_decide_eq_false hd3;omega)];rfl
        have hd2:decide (sv<now)=false:=decide_eq_false (by have:=HKf.o hk0;omega);clear HKp HKt HKf hk0;go_wp2
        go_quiet (fail)
        go_wp2
        go_quiet (fail)
        go_wp2;go_roundw;case rel=>exact⟨i+1,by omega,by go_num,hI (below_drewN (B:=w8.heap.size) Hb.o _)⟩
        case measure=>simp[intOf];omega
       ·have hk0:keptB j.p l now q i=true:=by rw[HKp.o,hd,huf,decide_eq_false (by have:=of_decide_eq_true hd3;omega)];rfl
        have hd2:(sv != lv)=false:=by rw[HKt.o hk0];simp
        clear HKp HKt HKf hk0;go_wp2
        go_quiet (fail)
        go_wp2
        go_quiet (fail)
        go_wp2;go_roundw;case rel=>exact⟨i+1,by omega,by go_num,hI (below_drewN (B:=w8.heap.size) Hb.o _)⟩
        case measure=>simp[intOf];omega
  ·have hon:=(HOX.o wr HTr.o).1;have hqo:q<o.res.length:=by have:=Hor.o;omega
   obtain⟨_,_,c2⟩:=hon.rcells HRA.o hqo;have hrs:=hon.rss _ (o.R_mem hqo)
   have HIn:=hI (show ∀t,now<=t->t<=until'->(o.R q).p.off.any (fun s=>decide (s.lo<=t)&&decide (t<=s.hi))=true from fun t h1 h2=>by
    rw[<- o.pR,HOp.o,failJob_off HOk.o.hq,if_pos rfl];have h3:InOff (failOff j.p q now until') t:=by unfold failOff;rw[joinedV_in];exact .inr ⟨h1,h2⟩
    obtain⟨s,hs,h4,h5⟩:=h3;rw[List.any_eq_true];exact⟨s,hs,by simp[h4,h5]⟩)
   have hof:=hrs.os;have hol9:=hrs.ol;have hoc9:=hrs.oc;have hn9:(o.R q).p.off.length<=16:=by rw[<- o.pR,HOp.o,failJob_off HOk.o.hq,if_pos rfl];exact HOk.o.n16
   obtain⟨OA,hOA⟩:∃x,(o.R q).OA=x:=⟨_,rfl⟩
   obtain⟨oc9,hoc⟩:∃x,(o.R q).oc=x:=⟨_,rfl⟩
   rw[hOA,hoc] at c2;rw[hOA] at hof;rw[hoc] at hol9 hoc9;clear hOA hoc hrs hon q0;generalize (o.R q).p.off=offs at c2 hof hol9 hn9 HIn;obtain⟨no,hno⟩:∃x,offs.length=x:=⟨_,rfl⟩
   rw[hno] at c2 hol9 hn9;have Hno:=hI hno;have Hof:=hI hof;clear hno hof;have hbx:=(Hb.o.block _ (by omega)).trans HO8.o;have q0:=W7.bc (j:=0) hbx rfl;have q1:=W7.bc (j:=1) hbx rfl;have r0:=W7.bc (j:=0) (HX00.o wr HUr.o) rfl;clear hbx;go_wp2;clear q0 q1 c2 r0;go_loopw [22] (fun v22 wq=>∃t:Int,now<=t/\t<=until'+1/\v22= .int .i64 t/\wq=wr) (fun v22 _=>(until'+1-intOf v22).toNat);case atStart=>exact⟨now,by omega,by omega,rfl,rfl⟩
   case round=>
    obtain⟨t,ht1,ht2,rfl,rfl⟩:=hrel
    by_cases htu:t<=until'
    rotate_left
    ·have hd1:decide (t<=until')=false:=decide_eq_false htu;have HUx:=HUr;go_wp2_with (go_at_call 16;refine(HDg.o _).mono ?_;rintro e w9 ⟨rfl,hb9⟩;have Hb9:=hI (HUx.o.trans (hb9.mono (by omega)));clear hb9);go_ret;exact⟨rfl,HU0.o _ Hb9.o⟩
    have hd1:decide (t<=until')=true:=decide_eq_true htu
    by_cases ht200:t<now+200
    rotate_left
    ·have hd2:decide (t<now+200)=false:=decide_eq_false ht200;have HUx:=HUr;go_wp2_with (go_at_call 16;refine(HDg.o _).mono ?_;rintro e w9 ⟨rfl,hb9⟩;have Hb9:=hI (HUx.o.trans (hb9.mono (by omega)));clear hb9);go_ret;exact⟨rfl,HU0.o _ Hb9.o⟩
    have hd2:decide (t<now+200)=true:=decide_eq_true ht200;obtain⟨FI,hFI⟩:∃FI:Nat->Bool,FI=fun k=>(offs.take k).any (fun s=>decide (s.lo<=t)&&decide (t<=s.hi)):=⟨_,rfl⟩
    have HF0:=hI (show FI 0=false by rw[hFI];simp);have HFs:=hI (show ∀k (hk:k<offs.length),FI (k+1)=(FI k||(decide (offs[k].lo<=t)&&decide (t<=offs[k].hi))) from fun k hk=>by rw[hFI];simp only;rw[List.take_succ_eq_append_getElem hk,List.any_append];simp);have HFn:=hI (show FI no=true by rw[hFI,<-Hno.o];simp only;rw[List.take_length];exact HIn.o t ht1 htu);clear hFI;go_wp2;go_loopw [23,24] (fun v23 v24 wq=>∃k:Nat,k<=no/\v24= .int .i64 k/\v23= .bool (FI k)/\wq=wr) (fun _ v24 _=>no-(intOf v24).toNat);case atStart=>exact⟨0,by omega,rfl,by rw[HF0.o],rfl⟩
    case round=>
     obtain⟨k,hk,rfl,rfl,rfl⟩:=hrel
     by_cases hlk:k<no
     ·have hku:k<offs.length:=by have:=Hno.o;omega
      obtain⟨ub,uoff,hUA,hub,huc⟩:=Hof.o (by omega);have u0:=huc k hku 0 _ rfl;have u1:=huc k hku 1 _ rfl;rw[Nat.add_zero] at u0;subst hUA;have HF:=hI (HFs.o k hku);clear huc;generalize offs[k]=sp at u0 u1 HF;obtain⟨lo,hi9⟩:=sp;simp only at u0 u1 HF;cases hf:FI k
      ·cases hlo:decide (lo<=t)
       ·have HF1:=hI (show FI (k+1)=false by rw[HF.o,hf,hlo];rfl);go_wp2;go_roundw;case rel=>exact⟨k+1,by omega,by go_num,by rw[HF1.o],trivial⟩
        case measure=>simp[intOf];omega
       ·have HF1:=hI (show FI (k+1)=decide (t<=hi9) by rw[HF.o,hf,hlo];rfl);go_wp2;go_roundw;case rel=>exact⟨k+1,by omega,by go_num,by rw[HF1.o],trivial⟩
        case measure=>simp[intOf];omega
      ·have HF1:=hI (show FI (k+1)=true by rw[HF.o,hf,Bool.true_or]);go_wp2;go_roundw;case rel=>exact⟨k+1,by omega,by go_num,by rw[HF1.o],trivial⟩
       case measure=>simp[intOf];omega
     ·obtain rfl:k=no:=by omega
      have hfn9:=HFn.o;go_wp2;go_roundw;case rel=>exact⟨t+1,by omega,by omega,by go_num,trivial⟩
      case measure=>simp[intOf];omega
end Go.Proofs.YtjpgnfekbojcaaaGreat
