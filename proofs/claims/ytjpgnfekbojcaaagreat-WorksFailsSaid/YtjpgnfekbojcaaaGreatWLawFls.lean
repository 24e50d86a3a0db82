/- WorksFails' law returns true for every input that can be read. -/
import Derived.Test.YtjpgnfekbojcaaaGreatWRFai
import Derived.Test.YtjpgnfekbojcaaaGreatWSame
set_option maxHeartbeats 16000000
set_option maxRecDepth 100000
namespace Go.Proofs.YtjpgnfekbojcaaaGreat
open Go.RowKit W7 W8
theorem fail_ok {j:JobP} {st:List Int} {now r until':Int} (h:failErr j st now r until'=0):∃q:Nat,r=(q:Int)/\FailOk j st now q until'/\failJ j st now r until'=failJob j q now until'/\(failSt j st now r until').length=j.tasks.length:=by
 have hl:lnErr j st=0:=by
  by_cases h1:lnErr j st=0
  ·exact h1
  ·rw[failErr_len h1] at h;exact absurd h h1
 have hw:withinB r 0 ((j.res.length:Int)-1)=true:=by
  cases h1:withinB r 0 ((j.res.length:Int)-1)
  ·rw[failErr_no hl h1] at h;cases h
  ·rfl
 have ht:(isTm now&&isTm until'&&decide (now<=until'))=true:=by
  cases h1:(isTm now&&isTm until'&&decide (now<=until'))
  ·rw[failErr_arg hl hw h1] at h;cases h
  ·rfl
 have hb: ¬ 16<(failOff j r.toNat now until').length:=fun h1=>by
  rw[failErr_big hl hw ht h1] at h;cases h
 have hE:=h;rw[failErr_run hl hw ht hb] at h
 have hrun:(failRun j st now r until').1=true:=by
  cases h1:(failRun j st now r until').1
  ·rw[h1] at h;cases h
  ·rfl
 have hwb:=withinB_true.1 hw;obtain⟨q,rfl⟩:∃q:Nat,r=q:=⟨r.toNat,by omega⟩
 rw[zZ] at hb
 have hkp:kpErr j st=0/\keepsV j st=true:=by
  unfold lnErr at hl
  by_cases h1:kpErr j st=0
  ·rw[if_neg (by simpa using h1)] at hl;cases h2:keepsV j st
   ·rw[h2] at hl;cases hl
   ·exact⟨h1,rfl⟩
  ·rw[if_pos h1] at hl;exact absurd hl h1
 have hje:jobErr j=0/\st.length=j.tasks.length:=by
  have h1:=hkp.1;unfold kpErr at h1
  by_cases h2:jobErr j=0
  ·rw[if_neg (by simpa using h2)] at h1
   by_cases h3:st.length=j.tasks.length
   ·exact⟨h2,h3⟩
   ·rw[if_neg h3] at h1;cases h1
  ·rw[if_pos h2] at h1;exact absurd h1 h2
 simp only[zY,decide_eq_true_eq] at ht;have t1:=isTm_true.1 ht.1.1;have t2:=isTm_true.1 ht.1.2;have hok:FailOk j st now q until':=⟨hje.1,by omega,t1.1,ht.2,t2.2,hje.2,hkp.2,by omega⟩
 refine⟨q,rfl,hok,?_,?_⟩
 ·unfold failJ;rw[if_pos hE,zZ]
 ·unfold failSt;rw[if_pos hE];unfold failRun;rw[(serialGo_st _ now _ _ _).1];unfold failBd;simp
attribute [local go_sem] Oper.semAt_some
theorem LawFails_any (j:Job) (l:List Int) (now r until':Int) (A:Option Addr) (n c B:Nat) (w:World) (hj:JIn w B j) (hN:JNil j) (hn:n=l.length) (hA:Sl w B 1 encInt1 A l) (hB:B<=w.heap.size) (hnc:n<=c) (hc:c<=9223372036854775807) (hz:A=none->n=0/\c=0) (hrg:∀i, -9223372036854775808<=l.getD i 0/\l.getD i 0<=9223372036854775807) :
  Calls Tryz.prog 5 #[jobV j,.slice A n c,.int .i64 now,.int .i64 r,.int .i64 until'] w fun e w'=>e= .returned (.bool true)/\Bl w w':=by
 obtain⟨m,hm⟩:=eX j.tasks.length;obtain⟨nr,hr⟩:=eX j.res.length;have hjv:jobV j= .agg #[.slice j.TA m j.tc,.slice j.RA nr j.rc]:=by unfold jobV;rw[hm,hr]
 obtain⟨W0,HW0,hs0,HB0,HX00,HU0⟩:=boxes1 w (.cells #[.slice j.TA m j.tc,.slice j.RA nr j.rc] 25);have HJ:=hI (show ∀X:World,Bl W0 X->JIn X B j/\Sl X B 1 encInt1 A l from fun X hX=>⟨hj.below ((HU0.o X hX).mono hB),hA.below ((HU0.o X hX).mono hB)⟩);have HM:=hI (heavy_any j 8 B W0 (HJ.o W0 (zX _ _)).1 (by omega));have Hn:=hI hn;have HDg:=hI digs_any;have Hjv:=hI hjv;have Hm:=hI hm;have Hr:=hI hr;have HN:=hI hN;have Hz:=hI hz;have Hrg:=hI hrg;have q0:=kC 0 (HX00.o W0 (zX _ _)) rfl;have q1:=kC 1 (HX00.o W0 (zX _ _)) rfl;rw[hjv,hm,hr] at HM;rw[hjv];clear hj hn hA hjv hm hr hN hz hrg;go_enter Tryz.func5,Tryz.ntmps5;go_upto_region 1 with fail;rw[<- HW0.o];go_wp2_with (go_at_call 15;fail);refine HM.o.mono ?_;rintro e w1 ⟨⟨b,rfl,hbb⟩,hb1⟩;have hs1:=hb1.size;have Hb1:=hI hb1;clear hb1 q0 q1 HM;cases b;rotate_left
 ·clear hbb;go_wp2_with (go_at_call 16;refine(HDg.o _).mono ?_;rintro e w2 ⟨rfl,hb2⟩;have Hb2:=hI (Hb1.o.trans (hb2.mono hs1));clear hb2);go_ret;exact⟨rfl,HU0.o _ Hb2.o⟩
 have Hbb:=hI (hbb rfl);clear hbb;cases h100:decide ((n:Int)>100);rotate_left
 ·go_wp2_with (go_at_call 16;refine(HDg.o _).mono ?_;rintro e w2 ⟨rfl,hb2⟩;have Hb2:=hI (Hb1.o.trans (hb2.mono hs1));clear hb2);go_ret;exact⟨rfl,HU0.o _ Hb2.o⟩
 have hn100:n<=100:=by have:=zH h100;omega
 have HS:=hI (show Slim j from⟨by have:=Hbb.o.1;have:=Hm.o;omega,by have:=Hbb.o.2.1;have:=Hr.o;omega⟩);have HV1:=hI (Fail_any j l now r until' A n c B w1 (HJ.o w1 Hb1.o).1 (by omega) HS.o HN.o ⟨Hn.o,by omega,hnc,hc,(HJ.o w1 Hb1.o).2⟩ (fun h=>by have:=(good_of h).nt;rw[j.nt,Hm.o] at this;have:=Hbb.o.2.2;have:=Hm.o;omega));have HBad:=hI (show failErr j.p l now r until'≠0->failJ j.p l now r until'=⟨[],[]⟩/\failSt j.p l now r until'=[] from fun h=>⟨by unfold failJ;rw[if_neg h],by unfold failSt;rw[if_neg h]⟩);have HGood:=hI (fun h=>fail_ok (j:=j.p) (st:=l) (now:=now) (r:=r) (until':=until') h);obtain⟨Vs,hV⟩:=eX (failSt j.p l now r until');obtain⟨E,hE⟩:=eX (failErr j.p l now r until');rw[hV] at HBad HGood;rw[hE] at HBad HGood;have HVe:=hI hV;have HEe:=hI hE;rw[Hjv.o] at HV1;clear hV hE;have q0:=kC 0 (HX00.o w1 Hb1.o) rfl;have q1:=kC 1 (HX00.o w1 Hb1.o) rfl;go_upto_region 3 with fail
 go_wp2_with (go_at_call 22;fail);refine HV1.o.mono ?_;rintro e w2 ⟨⟨o,sv,he,ho,hop,hsv⟩,hb2⟩;rw[HEe.o] at he;rw[HVe.o] at hsv;obtain⟨ot,hot⟩:=eX o.tasks.length;obtain⟨onr,hor⟩:=eX o.res.length;have hov:jobV o= .agg #[.slice o.TA ot o.tc,.slice o.RA onr o.rc]:=by unfold jobV;rw[hot,hor]
 rw[hov] at he;subst he;obtain⟨FA,fc,rfl,hfc1,hfc2⟩:=own_cap' hsv;obtain⟨fn,hfn⟩:=eX Vs.length;rw[hfn] at hfc1 hsv;rw[hfn];have hs2:=hb2.size;have Hb2:=hI (Hb1.o.trans (hb2.mono hs1));have Hop:=hI hop;have Ho2:=hI ho;have Hsv:=hI hsv;have Hfn:=hI hfn;have Hot:=hI hot;have Hor:=hI hor;have Hov:=hI hov;clear hb2 hop ho hsv hfn hot hor hov q0 q1 HV1;obtain⟨W3,hW3⟩:=eY (w2.alloc (.cells #[.slice o.TA ot o.tc,.slice o.RA onr o.rc] 25));have hs3:W3.heap.size=w2.heap.size+1:=by rw[hW3];simp
 have HB3:=hI (show Bl w2 W3 by rw[hW3];exact(zX _ _).alloc (zm _) _);have HO3:=hI (show W3.heap[w2.heap.size]? =some (.cells #[.slice o.TA ot o.tc,.slice o.RA onr o.rc] 25 (0,0)) by rw[hW3];exact zW _ _);have HW3:=hI hW3;clear hW3
 have HFn:=hI (show fn<=1000000 from by
  rw[<- Hfn.o]
  by_cases h:E=0
  ·obtain⟨q,_,hok,_,hg⟩:=HGood.o h;have:=(good_of hok.je).nt;omega
  ·rw[(HBad.o h).2];simp)
 have HNd:=hI (show ∀t∈o.p.tasks,t.needs.length<=1000000000 from fun t ht=>by
  by_cases h:E=0
  ·obtain⟨q,_,hok,hfj,_⟩:=HGood.o h;rw[Hop.o,hfj] at ht;have:=needs_len (good_of hok.je) (show t∈j.p.tasks from ht);omega
  ·rw[Hop.o,(HBad.o h).1] at ht;exact absurd ht (by simp))
 clear HBad HGood;have HSl2:=hI (show Sl w2 w2.heap.size 1 encInt1 FA Vs from sl_own2 (k:=1) (fun _=>rfl) (base:=w1.heap.size) (e:=3) (c:=fc) (by rw[flat_int,Hfn.o];exact Hsv.o));have HOX:=hI (show ∀X:World,Bl w2 X->JIn X w2.heap.size o/\Sl X w2.heap.size 1 encInt1 FA Vs from fun X hX=>⟨Ho2.o.jin.below hX,HSl2.o.below hX⟩);have HU3:=hI (Hb2.o.trans (HB3.o.mono (by omega)));have HV2:=hI (refFail_any j l now r until' A n c B W3 (HJ.o W3 HU3.o).1 (by omega) ⟨Hn.o,by omega,hnc,hc,(HJ.o W3 HU3.o).2⟩ Hz.o Hrg.o);rw[Hjv.o] at HV2;have q0:=kC 0 (HX00.o W3 HU3.o) rfl;have q1:=kC 1 (HX00.o W3 HU3.o) rfl;go_upto_region 4 with fail
 go_loud (rw[<- HW3.o])
 go_wp2_with (go_at_call 23;fail);refine HV2.o.mono ?_;rintro e w4 ⟨⟨o2,A2,n2,c2,he2,hj2,hp2,hn2,hsl2⟩,hb4⟩;rw[HVe.o] at hn2 hsl2;rw[HEe.o] at he2;rw[Hfn.o] at hn2;subst hn2;obtain⟨ot2,hot2⟩:=eX o2.tasks.length;obtain⟨or2,hor2⟩:=eX o2.res.length;have hov2:jobV o2= .agg #[.slice o2.TA ot2 o2.tc,.slice o2.RA or2 o2.rc]:=by unfold jobV;rw[hot2,hor2]
 rw[hov2] at he2;subst he2;have hs4:=hb4.size;have Hb4:=hI (HB3.o.trans (hb4.mono (by omega)));have HO4:=hI ((hb4.block _ (by omega)).trans HO3.o);have Hj2:=hI hj2;have Hp2:=hI (show o2.p=o.p from hp2.trans Hop.o.symm);have Hsl:=hI hsl2;have Hov2:=hI hov2;clear hb4 hj2 hp2 hsl2 hot2 hor2 hov2 q0 q1 HV2;obtain⟨W5,hW5⟩:=eY (w4.alloc (.cells #[.slice o2.TA ot2 o2.tc,.slice o2.RA or2 o2.rc] 25));have hs5:W5.heap.size=w4.heap.size+1:=by rw[hW5];simp
 have HB5:=hI (show Bl w4 W5 by rw[hW5];exact(zX _ _).alloc (zm _) _);have HK5:=hI (show W5.heap[w4.heap.size]? =some (.cells #[.slice o2.TA ot2 o2.tc,.slice o2.RA or2 o2.rc] 25 (0,0)) by rw[hW5];exact zW _ _);have HW5:=hI hW5;clear hW5;have HU5:=hI (Hb2.o.trans ((Hb4.o.trans (HB5.o.mono (by omega))).mono (by omega)));have HT5:=hI (show Bl w2 W5 from Hb4.o.trans (HB5.o.mono (by omega)));have HO5:=hI ((HB5.o.block _ (by omega)).trans HO4.o);go_upto_region 5 with fail
 go_loud (rw[<- HW5.o])
 have HSm:=hI (lawSame_any o o2 W5.heap.size W5 ((HOX.o W5 HT5.o).1.mono (by omega)) ((Hj2.o.below HB5.o).mono (by omega)) (zm _) Hp2.o HNd.o);rw[Hov.o,Hov2.o] at HSm;have HIn:=hI (fun e:Later W5=>lawInts_any Vs FA A2 n2 fc c2 e.w.heap.size e.w Hfn.o.symm ((HOX.o e.w (HT5.o.trans (e.b.mono (by omega)))).2.mono (by have:=e.b.size;omega)) ((Hsl.o.below (HB5.o.trans (e.b.mono (by omega)))).mono (by have:=e.b.size;omega)) (zm _) (by have:=HFn.o;omega));have e5:(E==E)=true:=by simp
 have q0:=kC 0 HO5.o rfl;have q1:=kC 1 HO5.o rfl;have k0:=kC 0 HK5.o rfl;have k1:=kC 1 HK5.o rfl;go_wp2_with (go_at_call 24;fail);refine HSm.o.mono ?_;rintro e w6 ⟨rfl,hb6⟩;have Hb6:=hI hb6;have hs6:=hb6.size;clear hb6 q0 q1 k0 k1 HSm;have HIn6:=hI (HIn.o ⟨w6,Hb6.o⟩);go_wp2_with (go_at_call 19;fail);refine HIn6.o.mono ?_;rintro e w9 ⟨rfl,hb9⟩;have Hb9:=hI (Hb6.o.trans (hb9.mono hs6));have hs9:=Hb9.o.size;clear hb9 HIn HIn6;go_wp2_with (go_at_call 16;refine(HDg.o _).mono ?_;rintro e wd ⟨rfl,hbd⟩;have Hbd:=hI (HU5.o.trans ((Hb9.o.trans (hbd.mono hs9)).mono (by omega)));clear hbd);go_ret;exact⟨rfl,HU0.o _ Hbd.o⟩
end Go.Proofs.YtjpgnfekbojcaaaGreat
