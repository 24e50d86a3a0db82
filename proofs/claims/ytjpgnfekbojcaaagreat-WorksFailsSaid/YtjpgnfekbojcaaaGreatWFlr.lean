/- Least: the greatest floor. -/
import Derived.Test.YtjpgnfekbojcaaaGreatWLst
set_option maxHeartbeats 16000000
set_option maxRecDepth 100000
namespace W8
open W7
theorem bis_done {r:ResP} {w lo hi:Int} {f:Nat} (h: ¬lo<hi):bisGo r w f lo hi=lo:=by
 cases f with
 | zero=>rfl
 | succ f=>simp only[bisGo,if_neg h]
theorem bis_lo {r:ResP} {w lo hi:Int} {f:Nat} (h:lo<hi) (h2:roomV r ((lo+hi+1)/2)<w):bisGo r w (f+1) lo hi=bisGo r w f ((lo+hi+1)/2) hi:=by
 simp only[bisGo,if_pos h,if_pos h2]
theorem bis_hi {r:ResP} {w lo hi:Int} {f:Nat} (h:lo<hi) (h2: ¬roomV r ((lo+hi+1)/2)<w):bisGo r w (f+1) lo hi=bisGo r w f lo ((lo+hi+1)/2-1):=by
 simp only[bisGo,if_pos h,if_neg h2]
theorem floorV_err {j:JobP} (h:jobErr j≠0):floorV j=⟨0,[],0⟩:=by unfold floorV;rw[if_pos h]
theorem floorV_no {j:JobP} (h:jobErr j=0) (h2:j.tasks.length=0):floorV j=⟨0,[],0⟩:=by unfold floorV;rw[if_neg (by simpa using h),if_pos h2]
theorem floorV_ok {j:JobP} (h:jobErr j=0) (h2:j.tasks.length≠0):floorV j=flTo j j.res.length:=by unfold floorV;rw[if_neg (by simpa using h),if_neg h2]
end W8
namespace Go.Proofs.YtjpgnfekbojcaaaGreat
open Go.RowKit W7 W8
attribute [local go_sem] Oper.semAt_some
def flC (f:FloorP) (v:Value):Array Value:= #[.int .i64 f.minutes,v,.int .i64 f.res]
structure FloR (j:Job) (w:World) (e:Ending) (w':World):Prop where
 ex:∃v,e= .returned (.tuple #[.agg (flC (floorV j.p) v),.int .i64 (jobErr j.p)])/\w'.ownsRow w.heap.size 3 1 v (floorV j.p).chain.length ((floorV j.p).chain.map (Value.int .i64))
 bel:Bl w w'
def putFl (w:World) (b:Nat) (f:FloorP) (v:Value):World:=((w.setCell ⟨b,0,none⟩ (.int .i64 f.minutes)).setCell ⟨b,1,none⟩ v).setCell ⟨b,2,none⟩ (.int .i64 f.res)
theorem putFl_blk {w:World} {b T:Nat} {a0 a1 a2:Value} (h:w.heap[b]? =some (.cells #[a0,a1,a2] T (0,0))) (f:FloorP) (v:Value):(putFl w b f v).heap[b]? =some (.cells (flC f v) T (0,0)):=by
 unfold putFl;rw[blk_set (blk_set (blk_set h (.int .i64 f.minutes)) v) (.int .i64 f.res)]
 rfl
theorem putFl_size (w:World) (b:Nat) (f:FloorP) (v:Value):(putFl w b f v).heap.size=w.heap.size:=by simp[putFl,World.setCell]
theorem grown_setF (w:World) (b j:Nat) (x:Value):w.grownBy (w.setCell ⟨b,j,none⟩ x) (some b):=⟨rfl,rfl,rfl,by simp[World.setCell],fun i _ h=>Below.heap_setCell _ _ _ _ (fun e=>h (congrArg some e))⟩
theorem putFl_grown (w:World) (b:Nat) (f:FloorP) (v:Value):w.grownBy (putFl w b f v) (some b):=by
 unfold putFl;exact grown_trans (grown_trans (grown_setF _ _ _ _) (grown_setF _ _ _ _)) (grown_setF _ _ _ _)
theorem putFl_own {w:World} {base e e' size n b:Nat} {v:Value} {xs:List Value} {cs:Array Value} {fz:Nat×Nat} (h:w.ownsRow base e size v n xs) (hL:w.heap[b]? =some (.cells cs e' fz)) (hne:e'≠e) (f:FloorP) (u:Value):(putFl w b f u).ownsRow base e size v n xs:=by
 refine h.kept (putFl_grown w b f u) ?_;cases hv:v.ownBlock with
 | none=>exact .inl rfl
 | some k=>
  refine .inr fun hk=> ?_
  obtain rfl:=zJ hk;obtain⟨cs',hc⟩:=owns_block h k hv;rw[hL] at hc;simp only[Option.some.injEq,Obj.cells.injEq] at hc;exact hne hc.2.1
theorem putFl_below {B:Nat} {w X:World} {b:Nat} (h:Below B w X) (hb:B<=b) (f:FloorP) (v:Value):Below B w (putFl X b f v):=
 ((h.setCell (p:=⟨b,0,none⟩) hb _).setCell (p:=⟨b,1,none⟩) hb _).setCell (p:=⟨b,2,none⟩) hb _
theorem flo_end {j:Job} {w X:World} {f:FloorP} {err:Int} {v:Value} {rb:Nat} {a0 a1 a2:Value} (hf:floorV j.p=f) (he:jobErr j.p=err) (hX:Bl w X) (hrb:w.heap.size<=rb)
  (hc:X.heap[rb]? =some (.cells #[a0,a1,a2] 92 (0,0))) (ho:X.ownsRow w.heap.size 3 1 v f.chain.length (f.chain.map (Value.int .i64))) :
  FloR j w (.returned (.tuple #[.agg (flC f v),.int .i64 err])) (putFl X rb f v):=by
 subst hf;subst he;exact⟨⟨v,rfl,putFl_own ho hc (by decide) _ _⟩,putFl_below hX hrb _ _⟩
theorem Least_any (j:Job) (B:Nat) (w:World) (hj:JIn w B j) (hB:B<=w.heap.size) (hS:Slim j) :
  Calls Tryz.prog 51 #[jobV j] w (FloR j w):=by
 obtain⟨n,hn⟩:=eX j.tasks.length;obtain⟨TA,hTA⟩:=eX j.TA;have hjv:jobV j= .agg #[.slice TA n j.tc,.slice j.RA j.res.length j.rc]:=by unfold jobV;rw[hn,hTA]
 obtain⟨W0,HW0,hs0,HB0,HX00,HX01,HU0⟩:=boxes2 w (.cells #[.slice TA n j.tc,.slice j.RA j.res.length j.rc] 25) (.cells #[.int .i64 0,.slice none 0 0,.int .i64 0] 92);have HJ:=hI (show ∀X:World,Bl W0 X->JIn X B j from fun X hX=>hj.below ((HU0.o X hX).mono hB));have HC:=hI (Check_any j B W0 (HJ.o W0 (zX _ _)) (by omega) hS);have hnt:=hS.nt;have hlc:=hj.tl;have hc2:=hj.tc;rw[hn] at hlc hnt;have hlr:=hj.rl;have hcr:=hj.rc;have hnr:=hS.nr;have Hn:=hI hn;have HTA:=hI hTA;have Hjv:=hI hjv;rw[hjv] at HC ⊢;obtain⟨je,hje⟩:=eX (jobErr j.p);rw[hje] at HC;have Hje:=hI hje;have q0:=kC 0 (HX00.o W0 (zX _ _)) rfl;have q1:=kC 1 (HX00.o W0 (zX _ _)) rfl;clear hj hS hn hjv hje hTA;go_enter Tryz.func51,Tryz.ntmps51;go_upto_region 1 with fail;rw[<- HW0.o];go_upto_region 2 with(go_at_call 37;refine HC.o.mono ?_;rintro e w1 ⟨rfl,hb1⟩;have hs1:=hb1.size;have Hb1:=hI hb1;clear hb1)
 clear q0 q1 HC;cases h0:(je==0)
 ·have h0':(je != 0)=true:=by simp[bne,h0]
  have hne:je≠0:=fun h=>by rw[h] at h0;cases h0
  have HR:=hI (flo_end (j:=j) (v:= .slice none 0 0) (floorV_err (by rw[Hje.o];exact hne)) Hje.o (HU0.o _ Hb1.o) (Nat.le_succ _) (HX01.o w1 Hb1.o) (zU _ _ _ _));have q0:=kC 0 (HX01.o w1 Hb1.o) rfl;have q1:=kC 1 (HX01.o w1 Hb1.o) rfl;have q2:=kC 2 (HX01.o w1 Hb1.o) rfl;have f0:=kF 0 (HX01.o w1 Hb1.o);have f1:=kF 1 (HX01.o w1 Hb1.o);have f2:=kF 2 (HX01.o w1 Hb1.o);have hG1:=putFl_blk (HX01.o w1 Hb1.o) ⟨0,[],0⟩ (.slice none 0 0);obtain⟨X1,hX1⟩:=eY (putFl w1 (w.heap.size+1) ⟨0,[],0⟩ (.slice none 0 0));rw[<- hX1] at hG1 HR;unfold putFl at hX1;have g0:=kC 0 hG1 rfl;have g1:=kC 1 hG1 rfl;have g2:=kC 2 hG1 rfl;clear hG1;go_wp2;rw[<- hX1];clear hX1;refine bodyPost_ret (v:= .tuple #[.agg (flC ⟨0,[],0⟩ (.slice none 0 0)),.int .i64 je]) (by simp[results,Tryz.results51,go_sem,g0,g1,g2,flC]) rfl ?_;exact HR.o
 have h0':(je != 0)=false:=by simp[bne,h0]
 have Hj0:=hI (show jobErr j.p=0 by rw[Hje.o];exact eq_of_beq h0);have HG:=hI (good_of Hj0.o);have h64:n<=64:=by have:=HG.o.nt;rw[j.nt,Hn.o] at this;exact this
 have q0:=kC 0 (HX00.o w1 Hb1.o) rfl;have q1:=kC 1 (HX00.o w1 Hb1.o) rfl
 by_cases hz:n=0
 ·subst hz;have HR:=hI (flo_end (j:=j) (v:= .slice none 0 0) (floorV_no Hj0.o (by rw[j.nt];exact Hn.o)) Hj0.o (HU0.o _ Hb1.o) (Nat.le_succ _) (HX01.o w1 Hb1.o) (zU _ _ _ _));have r0:=kC 0 (HX01.o w1 Hb1.o) rfl;have r1:=kC 1 (HX01.o w1 Hb1.o) rfl;have r2:=kC 2 (HX01.o w1 Hb1.o) rfl;have f0:=kF 0 (HX01.o w1 Hb1.o);have f1:=kF 1 (HX01.o w1 Hb1.o);have f2:=kF 2 (HX01.o w1 Hb1.o);have hG1:=putFl_blk (HX01.o w1 Hb1.o) ⟨0,[],0⟩ (.slice none 0 0);obtain rfl:=eq_of_beq h0;obtain⟨X1,hX1⟩:=eY (putFl w1 (w.heap.size+1) ⟨0,[],0⟩ (.slice none 0 0));rw[<- hX1] at hG1 HR;unfold putFl at hX1;have g0:=kC 0 hG1 rfl;have g1:=kC 1 hG1 rfl;have g2:=kC 2 hG1 rfl;clear hG1;go_wp2;rw[<- hX1];clear hX1;refine bodyPost_ret (v:= .tuple #[.agg (flC ⟨0,[],0⟩ (.slice none 0 0)),.int .i64 0]) (by simp[results,Tryz.results51,go_sem,g0,g1,g2,flC]) rfl ?_;exact HR.o
 have hz':((n:Int)==0)=false:=by simp;omega
 have hmm:= @run_makeMap Tryz.prog;obtain⟨W2,hW2⟩:=eY (w1.alloc (.map #[] 0));have hs2:w1.heap.size<W2.heap.size:=by rw[hW2];simp
 have hB2:Bl W0 W2:=by rw[hW2];exact Hb1.o.alloc hs1 _
 have hM2:Memo W2 w1.heap.size j.p:=by rw[hW2];exact Memo.made _ _
 obtain⟨mb,hmb⟩:=eX w1.heap.size;have Hs2:=hI (show mb+1=W2.heap.size by rw[<- hmb,hW2];simp);obtain⟨W3,hW3⟩:=eY (W2.alloc (.cells #[.slice TA n j.tc,.slice j.RA j.res.length j.rc,.map (some mb)] 165));have hs3:W2.heap.size<W3.heap.size:=by rw[hW3];simp
 have HB3:=hI (show Bl W0 W3 by rw[hW3];exact hB2.alloc (by omega) _);have HM3:=hI (show Memo W3 mb j.p by rw[hW3,<-hmb];exact Memo.below hM2 ((zX _ _).alloc (zm _) _));have HCb:=hI (show ∀X,Kept2 W3 X mb mb->X.heap[mb+1]? =some (.cells #[.slice TA n j.tc,.slice j.RA j.res.length j.rc,.map (some mb)] 165 (0,0)) from fun X hX=>kept_blk hX (by rw[hW3,Hs2.o];exact zW _ _) (by omega));go_upto_region 7 with fail;rw[<- hW2,<-hW3];have hs9:mb+1<W3.heap.size:=by have:=Hs2.o;omega
 rw[hmb] at hs2 hs1;clear hmb hW2 hM2 hB2;clear hW3;have d0:=kC 0 (HX00.o W3 HB3.o) rfl;have d1:=kC 1 (HX00.o W3 HB3.o) rfl;have hmx:=max_run Tryz.prog;have hmn:=min_run Tryz.prog;have HJ3:=hI (show ∀X,Kept2 W3 X mb mb->JIn X B j from fun X hX=>HJ.o X (HB3.o.trans (hX.below hs1 hs1 (by omega))));have hBmb:B<=mb:=by omega
 have hcv:Value.agg #[.slice TA n j.tc,.slice j.RA j.res.length j.rc,.map (some mb)]=chnV j mb:=by unfold chnV;rw[Hn.o,HTA.o]
 have HLg:=hI (fun(X:World) (k:Nat) (hk:k<n) (hX:Kept2 W3 X mb mb) (hMX:Memo X mb j.p)=>show Calls Tryz.prog 113 #[.agg #[.slice TA n j.tc,.slice j.RA j.res.length j.rc,.map (some mb)],.int .i64 (k:Int)] X fun e w'=>e= .returned (.int .i64 (lonV j.p k))/\Kept2 X w' mb mb/\Memo w' mb j.p from by
  rw[hcv];exact(longest_any j mb B Hj0.o hBmb _ k X hMX (HJ3.o X hX) (by have:=Hn.o;omega) (zm _)).mono (fun _ _ h=>⟨h.val,h.kept,h.memo⟩))
 have HLe:=hI (fun(X:World) (m:Int) (hm:0<=m/\m<=200000) (hX:Kept2 W3 X mb mb) (hMX:Memo X mb j.p)=>by
  have h:=least_any j m mb B X Hj0.o hMX (HJ3.o X hX) hBmb hm;rw[<- hcv] at h;exact h)
 clear hcv;go_wp2;clear d0 d1;go_loopw [6,32] (fun v6 v32 wr=>∃i:Nat,i<=n/\v32= .int .i64 i/\v6= .int .i64 (longTo j.p i)/\Hid (Kept2 W3 wr mb mb)/\Hid (Memo wr mb j.p)) (fun _ v32 _=>n-(intOf v32).toNat);case atStart=>exact⟨0,by omega,rfl,rfl,hI (Kept2.refl _ _ _),HM3⟩
 case round=>
  obtain⟨i,hi,rfl,rfl,HK,HM⟩:=hrel;have hsr:=HK.o.size;have d0:=kC 0 (HCb.o wr HK.o) rfl;have d1:=kC 1 (HCb.o wr HK.o) rfl;have d2:=kC 2 (HCb.o wr HK.o) rfl
  by_cases hlt:i<n
  ·have HL:=hI (HLg.o wr i hlt HK.o HM.o);have HSn:=hI (show longTo j.p (i+1)=max (longTo j.p i) (lonV j.p i) from rfl);go_wp2_with (go_at_call 113;refine HL.o.mono ?_;rintro e w2 ⟨rfl,hk2,hm2⟩;have Hk2:=hI hk2;have Hm2:=hI hm2;clear hk2 hm2);go_roundw;case rel=>exact⟨i+1,by omega,by go_num,by rw[HSn.o],hI (HK.o.trans Hk2.o),Hm2⟩
   case measure=>simp[intOf];omega
  ·have hin:i=n:=by omega
   subst hin;have hlb:=longTo_le HG.o i (by have:=Hn.o;rw[j.nt];omega);have HLV:=hI (show longV j.p=min (longTo j.p i) 100001 by unfold longV;rw[j.nt,Hn.o]);generalize longTo j.p i=L0 at hlb HLV;obtain⟨LG,hLG⟩:=eX (min L0 100001);rw[hLG] at HLV;have hLb:0<=LG/\LG<=100001:=by omega
   have HLe2:=hI (HLe.o wr LG ⟨hLb.1,by omega⟩ HK.o HM.o);go_upto_region 15 with(go_at_call 114;refine HLe2.o.mono ?_;rintro e w2 ⟨⟨v,rfl,ho2⟩,hk2,hm2⟩;obtain⟨A2,cp2,rfl,q1,q2⟩:=own_cap' ho2;have Hk2:=hI hk2;have Hm2:=hI hm2;have Ho2:=hI ho2;clear hk2 hm2 ho2)
   have hk2s:=Hk2.o.size;obtain⟨W4,hW4⟩:=eY (w2.alloc (.cells #[.int .i64 LG,.slice A2 (chainV j.p LG).length cp2,.int .i64 0] 92));have hs4:w2.heap.size<W4.heap.size:=by rw[hW4];simp
   have HB4:=hI (show Bl W0 W4 by rw[hW4];exact(HB3.o.trans ((HK.o.trans Hk2.o).below hs1 hs1 (by omega))).alloc (by omega) _);have HF4:=hI (show ∃v,W4.heap[w2.heap.size]? =some (.cells (flC (flTo j.p 0) v) 92 (0,0))/\W4.ownsRow W0.heap.size 3 1 v (flTo j.p 0).chain.length ((flTo j.p 0).chain.map (Value.int .i64)) from⟨.slice A2 (chainV j.p LG).length cp2,by rw[hW4,zW];unfold flC flTo;rw[HLV.o],by rw[show flTo j.p 0=⟨LG,chainV j.p LG,0⟩ by unfold flTo;rw[HLV.o],hW4];exact own_below (own_mono Ho2.o (by omega)) ((zX _ _).alloc (zm _) _)⟩);rw[<- hW4];clear hW4 HLe HLe2 HLg Ho2 Hm2 Hk2 q1 q2 hLb hLG HLV hlb d0 d1 d2;generalize w2.heap.size=fb at hs4 HF4 hk2s ⊢;obtain⟨wa,rfl⟩:∃wa:World,wa=wr:=⟨_,rfl⟩
   obtain⟨RA,hRA⟩:=eX j.RA;obtain⟨nr,hnr'⟩:=eX j.res.length;have HRA:=hI hRA;have Hnr:=hI hnr';have hnr16:nr<=16:=by have h:=HG.o.nr;rw[j.nr] at h;omega
   rw[hnr'] at hlr hnr;rw[hRA,hnr'] at HX00;have d0:=kC 0 (HX00.o W4 HB4.o) rfl;have d1:=kC 1 (HX00.o W4 HB4.o) rfl;have hjv2:jobV j= .agg #[.slice TA i j.tc,.slice RA nr j.rc]:=by rw[Hjv.o,hRA,hnr']
   have HWk:=hI (fun(X:World) (q:Nat) (hX:Bl W0 X)=>by
    have h:=work_any j (q:Int) B X (HJ.o X hX) (by have:=hX.size;omega) HG.o;rw[hjv2] at h;exact h)
   have hfbl:W0.heap.size<=fb:=by omega
   clear hjv2 hRA hnr' HCb HJ3;have hs04:W0.heap.size<=W4.heap.size:=by omega
   go_wp2;clear d0 d1;go_loopw [51] (fun v51 wr=>∃q:Nat,q<=nr/\v51= .int .i64 q/\Hid (Bl W0 wr)/\Hid (W4.heap.size<=wr.heap.size)/\Hid (∃v,wr.heap[fb]? =some (.cells (flC (flTo j.p q) v) 92 (0,0))/\wr.ownsRow W0.heap.size 3 1 v (flTo j.p q).chain.length ((flTo j.p q).chain.map (Value.int .i64)))) (fun v51 _=>nr-(intOf v51).toNat);case atStart=>exact⟨0,by omega,rfl,HB4,hI (zm _),HF4⟩
   case round=>
    obtain⟨q,hq,rfl,Hb,Hsz,HF⟩:=hrel;have hsz:=Hsz.o;have hsb:=Hb.o.size
    by_cases hlt2:q<nr
    ·have hql:q<j.res.length:=by have:=Hnr.o;omega
     have hjn:=HJ.o wr Hb.o;obtain⟨rb,roff,hRb,hrb⟩:=hjn.ra (by omega);have hRe:RA=some ⟨rb,roff,none⟩:=by rw[<- HRA.o];exact hRb
     subst hRe;obtain⟨r0,r1,r2⟩:=hjn.rcells hRb hql;have HRs:=hI (fun(X:World) (hX:Bl W0 X)=>(HJ.o X hX).rss _ (j.R_mem hql));have HRo:=hI (fun(X:World) (m:Int) (hX:Bl W0 X) (hm:0<=m/\m<=9223372036854775807)=>room_any j.p (j.R q) m B X (HRs.o X hX) (by have:=hX.size;omega) HG.o (j.Rp_mem hql) hm);have HWq:=hI (fun(X:World) (hX:Bl W0 X)=>HWk.o X q hX);have HSt:=hI (show flTo j.p (q+1)=if (flTo j.p q).minutes<bisV (j.R q).p (workV j.p q)+1 then⟨bisV (j.R q).p (workV j.p q)+1,[],q⟩ else flTo j.p q by rw[<- j.pR];rfl);unfold resV at HRo;generalize workV j.p q=WV at HWq HSt;generalize j.R q=r at r0 r1 r2 HRo HSt;obtain⟨OA,hOA⟩:=eX r.OA;obtain⟨no,hno⟩:=eX r.p.off.length;rw[hOA,hno] at r2 HRo;obtain⟨W5,hW5⟩:=eY (wr.alloc (.cells #[.string r.p.name,.int .i64 r.p.many,.slice OA no r.oc] 43));have hs5:wr.heap.size<W5.heap.size:=by rw[hW5];simp
     have HBw:=hI (show Bl wr W5 by rw[hW5];exact(zX _ _).alloc (zm _) _);have HB5:=hI (show Bl W0 W5 from Hb.o.trans (HBw.o.mono (by omega)));have HX5:=hI (show ∀X:World,Bl W5 X->X.heap[wr.heap.size]? =some (.cells #[.string r.p.name,.int .i64 r.p.many,.slice OA no r.oc] 43 (0,0)) from fun X hX=>(hX.block _ (by omega)).trans (by rw[hW5];exact zW _ _))
     have HF5:=hI (show ∀X:World,Bl W5 X->∃v,X.heap[fb]? =some (.cells (flC (flTo j.p q) v) 92 (0,0))/\X.ownsRow W0.heap.size 3 1 v (flTo j.p q).chain.length ((flTo j.p q).chain.map (Value.int .i64)) from fun X hX=>by
      obtain⟨v,h1,h2⟩:=HF.o;have hb9:Bl wr X:=HBw.o.trans (hX.mono (by omega));exact⟨v,(hb9.block _ (by omega)).trans h1,own_below h2 hb9⟩)
     have HU5:=hI (show ∀X:World,Bl W5 X->Bl W0 X from fun X hX=>HB5.o.trans (hX.mono (by omega)));have d0:=kC 0 (HX00.o W5 HB5.o) rfl;have d1:=kC 1 (HX00.o W5 HB5.o) rfl;have HWq5:=hI (HWq.o W5 HB5.o);clear hjn hRb hOA hno HWq HF;go_upto_region 18 with fail;rw[<- hW5];clear hW5 r0 r1 r2;go_upto_region 19 with(go_at_call 115;refine HWq5.o.mono ?_;rintro e w6 ⟨rfl,hb6⟩;have hs6:=hb6.size;have Hb6:=hI hb6;clear hb6)
     clear d0 d1;obtain⟨wb,rfl⟩:∃wb:World,wb=wr:=⟨_,rfl⟩
     go_wp2;obtain⟨BV,hBV⟩:=eX (bisV r.p WV);rw[hBV] at HSt;have HBv:=hI (show bisGo r.p WV 100001 (-1) 100000=BV from hBV);clear hBV;go_loopw [12,13] (fun v12 v13 wq=>∃(f:Nat) (lo hi:Int),v12= .int .i64 lo/\v13= .int .i64 hi/\ -1<=lo/\lo<=hi/\hi<=100000/\(hi-lo).toNat<=f/\Hid (bisGo r.p WV f lo hi=BV)/\Hid (Bl W5 wq)) (fun v12 v13 _=>(intOf v13-intOf v12).toNat);case atStart=>exact⟨100001, -1,100000,rfl,rfl,by omega,by omega,by omega,by omega,HBv,Hb6⟩
     case round=>
      obtain⟨f,lo,hi',rfl,rfl,hb1,hb2,hb3,hbf,HBg,Hbq⟩:=hrel;have hsq:=Hbq.o.size
      by_cases hlh:lo<hi'
      ·obtain⟨f',rfl⟩:∃f',f=f'+1:=⟨f-1,by omega⟩
       have hq9:(lo+hi'+1).tdiv 2=(lo+hi'+1)/2:=Int.tdiv_eq_ediv_of_nonneg (by omega);have HG1:=hI (fun h2=>(bis_lo (r:=r.p) (w:=WV) (f:=f') hlh h2).symm.trans HBg.o);have HG2:=hI (fun h2=>(bis_hi (r:=r.p) (w:=WV) (f:=f') hlh h2).symm.trans HBg.o);obtain⟨md,hmd⟩:=eX ((lo+hi'+1)/2);rw[hmd] at hq9 HG1 HG2;have hm1:lo<md:=by omega
       have hm2:md<=hi':=by omega
       have hm3:0<=md:=by omega
       clear hmd;have HRm:=hI (HRo.o wr md (HU5.o _ Hbq.o) ⟨hm3,by omega⟩);generalize roomV r.p md=RV at HG1 HG2 HRm;have e0:=kC 0 (HX5.o wr Hbq.o) rfl;have e1:=kC 1 (HX5.o wr Hbq.o) rfl;have e2:=kC 2 (HX5.o wr Hbq.o) rfl
       by_cases hrv:RV<WV
       ·have HG3:=hI (HG1.o hrv);clear HG1 HG2;go_wp2_with (go_at_call 116;refine HRm.o.mono ?_;rintro e w7 ⟨rfl,hb7⟩;have Hb7:=hI hb7;clear hb7);go_roundw;case rel=>exact⟨f',md,hi',rfl,rfl,by omega,by omega,by omega,by omega,HG3,hI (Hbq.o.trans (Hb7.o.mono (by omega)))⟩
        case measure=>simp[intOf];omega
       ·have HG3:=hI (HG2.o hrv);clear HG1 HG2;go_wp2_with (go_at_call 116;refine HRm.o.mono ?_;rintro e w7 ⟨rfl,hb7⟩;have Hb7:=hI hb7;clear hb7);go_roundw;case rel=>exact⟨f',lo,md-1,rfl,by go_num,by omega,by omega,by omega,by omega,HG3,hI (Hbq.o.trans (Hb7.o.mono (by omega)))⟩
        case measure=>simp[intOf];omega
      ·have hBV:lo=BV:=by rw[<- HBg.o,bis_done hlh]
       subst hBV;obtain⟨v,hv1,hv2⟩:=HF5.o wr Hbq.o;have HB9:=hI (HU5.o wr Hbq.o);have hsq9:=HB9.o.size;have hszq:W4.heap.size<=wr.heap.size:=by omega
       obtain⟨A9,c9,rfl,hv3,hv4⟩:=own_cap' hv2;have hv9:=hv1;unfold flC at hv9;have g0:=kC 0 hv9 rfl;have g1:=kC 1 hv9 rfl;have g2:=kC 2 hv9 rfl;have f0:=kF 0 hv9;have f1:=kF 1 hv9;have f2:=kF 2 hv9
       by_cases hmi:(flTo j.p q).minutes<lo+1
       ·have HN:=hI (show flTo j.p (q+1)=⟨lo+1,[],q⟩ by rw[HSt.o,if_pos hmi]);have HP:=hI (putFl_blk hv9 ⟨lo+1,[],q⟩ (.slice none 0 0));obtain⟨X1,hX1⟩:=eY (putFl wr fb ⟨lo+1,[],q⟩ (.slice none 0 0));have HX1s:=hI (show W4.heap.size<=X1.heap.size by rw[hX1,putFl_size];exact hszq);have HX1b:=hI (show Bl W0 X1 by rw[hX1];exact putFl_below HB9.o hfbl _ _);rw[<- hX1] at HP;unfold putFl at hX1;generalize (flTo j.p q).minutes=fm at g0 hmi;clear hv1 hv2 hv9 HSt HF5;go_upto_region 27 with fail;rw[<- hX1];clear hX1 g0 g1 g2 f0 f1 f2;go_wp2;go_roundw;case rel=>exact⟨q+1,by omega,by go_num,HX1b,HX1s,hI ⟨.slice none 0 0,by rw[HN.o];exact HP.o,by rw[HN.o];exact zU _ _ _ _⟩⟩
        case measure=>simp[intOf];omega
       ·have HN:=hI (show flTo j.p (q+1)=flTo j.p q by rw[HSt.o,if_neg hmi]);have HF9:=hI (show ∃v,wr.heap[fb]? =some (.cells (flC (flTo j.p (q+1)) v) 92 (0,0))/\wr.ownsRow W0.heap.size 3 1 v (flTo j.p (q+1)).chain.length ((flTo j.p (q+1)).chain.map (Value.int .i64)) from⟨_,by rw[HN.o];exact hv1,by rw[HN.o];exact hv2⟩);generalize (flTo j.p q).minutes=fm at g0 hmi;clear hv1 hv2 hv9 HSt HF5 f0 f1 f2;go_wp2;go_roundw;case rel=>exact⟨q+1,by omega,by go_num,HB9,hI hszq,HF9⟩
        case measure=>simp[intOf];omega
    ·have HN:=hI (show floorV j.p=flTo j.p q by rw[floorV_ok Hj0.o (by have:=Hn.o;rw[j.nt];omega),j.nr,Hnr.o,show nr=q by omega]);obtain⟨v,hv1,hv2⟩:=HF.o;obtain⟨A9,c9,rfl,hv3,hv4⟩:=own_cap' hv2;have HR:=hI (flo_end (j:=j) (v:= .slice A9 (flTo j.p q).chain.length c9) HN.o Hj0.o (HU0.o _ Hb.o) (Nat.le_succ _) (HX01.o wr Hb.o) (own_mono hv2 (by omega)));obtain rfl:=eq_of_beq h0;have hv9:=hv1;unfold flC at hv9;have g0:=kC 0 hv9 rfl;have g1:=kC 1 hv9 rfl;have g2:=kC 2 hv9 rfl;have o0:=kC 0 (HX01.o wr Hb.o) rfl;have o1:=kC 1 (HX01.o wr Hb.o) rfl;have o2:=kC 2 (HX01.o wr Hb.o) rfl;have f0:=kF 0 (HX01.o wr Hb.o);have f1:=kF 1 (HX01.o wr Hb.o);have f2:=kF 2 (HX01.o wr Hb.o);have HP:=hI (putFl_blk (HX01.o wr Hb.o) (flTo j.p q) (.slice A9 (flTo j.p q).chain.length c9));obtain⟨X1,hX1⟩:=eY (putFl wr (w.heap.size+1) (flTo j.p q) (.slice A9 (flTo j.p q).chain.length c9));rw[<- hX1] at HP HR;unfold putFl at hX1
     have hp9:=HP.o;unfold flC at hp9;have e0:=kC 0 hp9 rfl;have e1:=kC 1 hp9 rfl;have e2:=kC 2 hp9 rfl;clear hv1 hv2 hv9 hp9 HF;go_wp2;rw[<- hX1];refine bodyPost_ret (v:= .tuple #[.agg (flC (flTo j.p q) (.slice A9 (flTo j.p q).chain.length c9)),.int .i64 0]) (by simp[results,Tryz.results51,go_sem,e0,e1,e2,flC]) rfl ?_;exact HR.o
end Go.Proofs.YtjpgnfekbojcaaaGreat
