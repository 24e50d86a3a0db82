/- A board: placing a task at the first start at which it fits. -/
import Derived.Test.YtjpgnfekbojcaaaGreatWJob3
set_option maxHeartbeats 8000000
set_option maxRecDepth 100000
namespace W8
open W7
theorem find_hit {α:Type} {P:α->Bool} {xs:List α} {k:Nat} (hk:k<xs.length) (h:idxB P xs=(k:Int)):xs.find? P=some xs[k]:=by
 unfold idxB at h;cases hf:xs.findIdx? P with
 | none=>rw[hf] at h;exact absurd (show(-1:Int)=(k:Int) from h) (by omega)
 | some j=>
  rw[hf] at h;have hj:j=k:=Int.ofNat.inj h;subst hj;rw[List.findIdx?_eq_some_iff_getElem] at hf;obtain⟨h1,h2,h3⟩:=hf;rw[List.find?_eq_some_iff_getElem];exact⟨h2,j,h1,rfl,fun i hi=>by simpa using h3 i hi⟩
theorem find_no {α:Type} {P:α->Bool} {xs:List α} (h: ¬ 0<=idxB P xs):xs.find? P=none:=by
 unfold idxB at h;cases hf:xs.findIdx? P with
 | none=>
  rw[List.findIdx?_eq_none_iff] at hf;rw[List.find?_eq_none];intro x hx
  simpa using hf x hx
 | some j=>rw[hf] at h;exact absurd (by simp) h
end W8
namespace Go.Proofs.YtjpgnfekbojcaaaGreat
open Go.RowKit W7 W8
attribute [local go_sem] Oper.semAt_some
theorem elemI:Elem Tryz.prog 26 3 (.int .i64 0) 1 8:=Elem.mk' Tryz.underlying26 (by kernel_rfl) rfl (by decide) (by decide)
theorem flat_int:∀xs:List Int,xs.flatMap encInt1=xs.map (Value.int .i64)
 | []=>rfl
 | x::l=>by show encInt1 x++l.flatMap encInt1=_;rw[flat_int l];rfl
theorem BdIn.putS {X:World} {g sb pb n:Nat} {j:Job} {b:Bd} {fr s:Int} (h:BdIn X g sb pb j b fr) (h1:g≠sb) (h3:sb≠pb):BdIn (X.setCell ⟨sb,n,none⟩ (.int .i64 s)) g sb pb j ⟨b.st.set n s,b.pl⟩ fr:=by
 refine⟨?_,?_,?_,by simp[h.ns],h.np⟩
 ·rw[blk_set_ne (Ne.symm h1)];exact h.hg
 ·rw[blk_set h.hs];simp[List.map_set]
 ·rw[blk_set_ne h3];exact h.hp
theorem BdIn.putP {X:World} {g sb pb n:Nat} {j:Job} {b:Bd} {fr:Int} {x:Bool} (h:BdIn X g sb pb j b fr) (h2:g≠pb) (h3:sb≠pb):BdIn (X.setCell ⟨pb,n,none⟩ (.bool x)) g sb pb j ⟨b.st,b.pl.set n x⟩ fr:=by
 refine⟨?_,?_,?_,h.ns,by simp[h.np]⟩
 ·rw[blk_set_ne (Ne.symm h2)];exact h.hg
 ·rw[blk_set_ne (Ne.symm h3)];exact h.hs
 ·rw[blk_set h.hp];simp[List.map_set]
theorem place_any (j:Job) (b:Bd) (fr:Int) (k g sb pb B:Nat) (w:World) (hb:BdIn w g sb pb j b fr) (hj:JIn w B j) (hB:B<=w.heap.size) (hne:g≠sb/\g≠pb/\sb≠pb) (hG:JGood j.p) (hs:BOk b) (hk:k<j.tasks.length) (hfr:0<=fr/\fr<=200000) :
  Calls Tryz.prog 134 #[.pointer (some ⟨g,0,none⟩),.int .i64 (k:Int)] w fun e w'=>e= .returned (.bool (placeR j.p b fr k).1)/\Kept2 w w' sb pb/\BdIn w' g sb pb j (placeR j.p b fr k).2 fr:=by
 obtain⟨n,hn⟩:∃n,j.tasks.length=n:=⟨_,rfl⟩
 obtain⟨W0,HW0,hs0,HB0,HX00,HX01,HU0⟩:=boxes2 w (.cells #[.pointer (some ⟨g,0,none⟩)] 110) (.cells #[.int .i64 (k:Int)] 3);have h64:n<=64:=by have:=hG.nt;rw[j.nt] at this;omega
 have hlc:=hj.tl;have hc2:=hj.tc;have hlr:=hj.rl;have hcr:=hj.rc;rw[hn] at hlc;have HB:=hI (show ∀X:World,Bl W0 X->BdIn X g sb pb j b fr/\JIn X B j from fun X hX=>⟨hb.below (HU0.o X hX),hj.below ((HU0.o X hX).mono hB)⟩);have hgl:=blk_lt hb.hg;have hsl:=blk_lt hb.hs;have hpl:=blk_lt hb.hp;have HG:=hI hG;have HS:=hI hs;have Hn:=hI hn;have Hne:=hI hne;have hkn:k<n:=by omega
 have hkp:k<j.p.tasks.length:=by rw[j.nt];exact hk
 have HRd:=hI (ready_any j b fr k g sb pb B W0 (HB.o W0 (Below.refl _ _)).1 (HB.o W0 (Below.refl _ _)).2 (by omega) hG hs hk hfr);obtain⟨fst,hfst⟩:∃x,readyV j.p b fr k=x:=⟨_,rfl⟩
 have hfb:=ready_bd hG hs hfr hkp;rw[hfst] at HRd hfb
 have HTr:=hI (show triesV j.p b fr k=(fst::endsAfter j.p b fst n)++usesAfter j.p fst (j.T k).p.uses by
  unfold triesV;rw[hfst,j.nt,hn,j.pT];rfl)
 have HTk:=hI (j.T_mem hk);have HUs:=hI (fun(X:World) (hX:Bl W0 X)=>((HB.o X hX).2.tks _ (j.T_mem hk)).us);have hul:=((HB.o W0 (Below.refl _ _)).2.tks _ (j.T_mem hk)).ul;have huc:=((HB.o W0 (Below.refl _ _)).2.tks _ (j.T_mem hk)).uc;have hul16:=uses_len hG (j.Tp_mem hk);have HEb:=hI (fun i (hi:i<=n)=>ends_bd hG hs fst (k:=i) (by rw[j.nt,hn];exact hi));have HUg:=hI (hG.uses _ (j.Tp_mem hk));have q0:=W7.bc (j:=0) (HX00.o W0 (Below.refl _ _)) rfl;have p0:=W7.bc (j:=0) (HX01.o W0 (Below.refl _ _)) rfl;clear hb hj hG hs hn hne hk hkp hfst;go_enter Tryz.func134,Tryz.ntmps134;go_upto_region 1 with fail;rw[<- HW0.o];go_upto_region 2 with(go_at_call 182;refine HRd.o.mono ?_;rintro e w2 ⟨rfl,hb2⟩;have hs2:=hb2.size;have Hb2:=hI hb2;clear hb2)
 clear q0 p0 HRd;go_upto_region 3 with fail;obtain⟨W3,hW3⟩:∃W3,W3=w2.alloc (.cells #[.int .i64 fst] 3):=⟨_,rfl⟩
 have hs3:w2.heap.size+1<=W3.heap.size:=by rw[hW3];simp
 have HB3:=hI (show Bl W0 W3 by rw[hW3];exact Hb2.o.alloc (by omega) _);have HO3:=hI (show W3.ownsRow W0.heap.size 3 1 (.slice (some ⟨w2.heap.size,0,none⟩) 1 1) 1 (([fst]).map (Value.int .i64)) from⟨rfl,.inr ⟨w2.heap.size,1,#[.int .i64 fst],rfl,by omega,by rw[hW3];exact heap_alloc_new _ _,by omega,by decide,rfl,rfl⟩⟩);rw[<- hW3];clear hW3;obtain⟨TA,hTA⟩:∃x,j.TA=x:=⟨_,rfl⟩
 have HTA:=hI hTA;have q0:=bc (j:=0) (HB.o W3 HB3.o).1.hg rfl;rw[hTA,Hn.o] at q0;have v0:=bc (j:=0) (HX00.o W3 HB3.o) rfl;clear hTA;go_wp2;clear q0 v0;go_loopw [6,24] (fun v6 v24 wr=>∃i:Nat,i<=n/\v24= .int .i64 i/\Hid (Bl W0 wr)/\Hid (wr.ownsRow W0.heap.size 3 1 v6 (fst::endsAfter j.p b fst i).length ((fst::endsAfter j.p b fst i).map (Value.int .i64)))) (fun _ v24 _=>n-(intOf v24).toNat);case atStart=>exact⟨0,by omega,rfl,HB3,HO3⟩
 case round=>
  obtain⟨i,hi,rfl,Hb,Ho⟩:=hrel;have hsr:=Hb.o.size
  by_cases hlt:i<n
  ·have hil:i<j.tasks.length:=by have:=Hn.o;omega
   obtain⟨hbd,hjn⟩:=HB.o wr Hb.o;have p1:=bc (j:=3) hbd.hg rfl;rw[Hn.o] at p1;have cp:=hbd.pl hil;have v0:=bc (j:=0) (HX00.o wr Hb.o) rfl;have HE:=hI (fun(X:World) (hX:Bl W0 X)=>end_any j b fr g sb pb B i X (HB.o X hX).1 (HB.o X hX).2 HG.o hil (HS.o i));have HSt:=hI (endsAfter_succ j.p b fst i);have hle:=ends_len j.p b fst i;generalize b.pl.getD i false=pl at cp HSt;generalize endV j.p b i=ev at HE HSt;clear hbd hjn;cases pl
   ·have HN:=hI (show endsAfter j.p b fst (i+1)=endsAfter j.p b fst i by rw[HSt.o];simp);go_wp2;go_roundw;case rel=>exact⟨i+1,by omega,by go_num,Hb,by rw[HN.o];exact Ho⟩
    case measure=>simp[intOf];omega
   cases h1:decide (fst<ev)
   ·have HN:=hI (show endsAfter j.p b fst (i+1)=endsAfter j.p b fst i by rw[HSt.o,h1];simp);go_wp2_with (go_at_call 138;refine(HE.o wr Hb.o).mono ?_;rintro e w' ⟨rfl,kk,rfl⟩);go_roundw;case rel=>exact⟨i+1,by omega,by go_num,hI (below_drewN Hb.o _),by rw[HN.o];exact hI (own_below Ho.o (below_drewN (Below.refl _ _) _))⟩
    case measure=>simp[intOf];omega
   ·have HN:=hI (show(fst::endsAfter j.p b fst (i+1)).map (Value.int .i64)=(fst::endsAfter j.p b fst i).map (Value.int .i64)++[.int .i64 ev] by rw[HSt.o,h1];simp);have HL:=hI (show(fst::endsAfter j.p b fst (i+1)).length=(fst::endsAfter j.p b fst i).length+1 by rw[HSt.o,h1];simp);go_upto_region 7 with(go_at_call 138;refine(HE.o wr Hb.o).mono ?_;rintro e w' ⟨rfl,kk,rfl⟩)
    obtain⟨X,hX⟩:∃X,X=wr.drewN kk:=⟨_,rfl⟩
    have HbX:=hI (show Bl W0 X by rw[hX];exact below_drewN Hb.o _);have HoX:=hI (own_below Ho.o (show Bl wr X by rw[hX];exact below_drewN (Below.refl _ _) _));have hsX:=HbX.o.size;rw[<- hX];clear hX p1 cp v0;have v0:=bc (j:=0) (HX00.o X HbX.o) rfl;go_wp2_with (first | (go_at_call 138;refine(HE.o X HbX.o).mono ?_;rintro e w' ⟨rfl,k2,rfl⟩) | (at_builtin;refine wpList_append1 rfl _ _ 26 rfl W0.heap.size 3 _ 1 8 elemI _ _ _ rfl (own_below HoX.o (below_drewN (Below.refl _ _) _)) #[.int .i64 ev] 1 _ rfl (by simp) rfl (by simp[Value.oneCell']) (by simp;omega) (by simp;omega) ?_;intro v6 w6 hown6 hb6 hsz6 hg6 hblk6;have Ho6:=hI hown6;have Hb6:=hI hb6;clear hown6 hb6 hsz6 hg6 hblk6));go_roundw;case rel=>exact⟨i+1,by omega,by go_num,hI ((below_drewN HbX.o _).trans Hb6.o),by rw[HN.o,HL.o];exact Ho6⟩
    case measure=>simp[intOf];omega
  ·obtain rfl:i=n:=by omega
   obtain⟨hbd,hjn⟩:=HB.o wr Hb.o;obtain⟨tb,off,hTb,htb⟩:=hjn.ta (by have:=Hn.o;omega);have hTe:TA=some ⟨tb,off,none⟩:=by rw[<- HTA.o];exact hTb
   subst hTe;obtain⟨_,_,_,c3⟩:=hjn.tcells hTb (show k<j.tasks.length by have:=Hn.o;omega);have p0:=bc (j:=0) hbd.hg rfl;rw[hTb,Hn.o] at p0;have v0:=bc (j:=0) (HX00.o wr Hb.o) rfl;have v1:=bc (j:=0) (HX01.o wr Hb.o) rfl;obtain⟨E0,hE0⟩:∃E0,fst::endsAfter j.p b fst i=E0:=⟨_,rfl⟩
   have hE0l:E0.length<=65:=by rw[<- hE0];have:=ends_len j.p b fst i;simp;omega
   have HEm:=hI (show ∀x∈E0,0<=x/\x<=200000 by
    rw[<- hE0];intro x hx;rcases List.mem_cons.1 hx with rfl | hx
    ·exact hfb
    ·exact HEb.o i (Nat.le_refl _) x hx)
   rw[hE0] at Ho;have HTr2:=hI (show triesV j.p b fr k=E0++usesAfter j.p fst (j.T k).p.uses by rw[HTr.o,hE0]);generalize j.T k=t at HTr2 HTk HUs hul huc hul16 HUg c3;obtain⟨UA,hUA⟩:∃x,t.UA=x:=⟨_,rfl⟩
   obtain⟨nu,hnu⟩:∃x,t.p.uses.length=x:=⟨_,rfl⟩
   rw[hUA,hnu] at c3;rw[hUA] at HUs;rw[hnu] at hul hul16;have Hnu:=hI hnu;clear hbd hjn hE0 hUA hnu HTr HEb hTb;go_wp2
   go_quiet (fail)
   go_wp2;clear p0 v0 v1 c3;obtain⟨wa,rfl⟩:∃wa:World,wa=wr:=⟨_,rfl⟩
   go_loopw [6,58] (fun v6 v58 wr2=>∃q:Nat,q<=nu/\v58= .int .i64 q/\Hid (Bl W0 wr2)/\Hid (wr2.ownsRow W0.heap.size 3 1 v6 (E0++usesAfter j.p fst (t.p.uses.take q)).length ((E0++usesAfter j.p fst (t.p.uses.take q)).map (Value.int .i64)))) (fun _ v58 _=>nu-(intOf v58).toNat)
   case atStart=>exact⟨0,by omega,rfl,hI (below_drewN Hb.o _),hI (by
    have h:=own_below Ho.o (below_drewN (Below.refl _ wa) nq)
    simpa [usesAfter] using h)⟩
   case round=>
    obtain⟨q,hq,rfl,Hb2,Ho2⟩:=hrel;have hsr2:=Hb2.o.size
    by_cases hlt2:q<nu
    ·have hql:q<t.p.uses.length:=by have:=Hnu.o;omega
     obtain⟨ub,uoff,hue,hub,hcells⟩:=(HUs.o _ Hb2.o) (by omega)
     subst hue;have c0:wr.cell? ⟨ub,uoff+q*2,none⟩=some (.int .i64 t.p.uses[q].res):=hcells q hql 0 _ rfl;have c1:wr.cell? ⟨ub,uoff+q*2+1,none⟩=some (.int .i64 t.p.uses[q].many):=hcells q hql 1 _ rfl;have hug:=HUg.o _ (List.getElem_mem hql);have HTq:=hI (show usesAfter j.p fst (t.p.uses.take (q+1))=usesAfter j.p fst (t.p.uses.take q)++offsAfter fst (j.p.res.getD t.p.uses[q].res.toNat default).off by rw[List.take_succ_eq_append_getElem hql,usesAfter_snoc]);have hbl:=usesA_len HG.o fst (l:=t.p.uses.take q) (fun u hu=>by have:=HUg.o u (List.mem_of_mem_take hu);omega);rw[List.length_take] at hbl;have hbl2:(usesAfter j.p fst (t.p.uses.take q)).length<=256:=by omega
     generalize t.p.uses[q]=u at c0 c1 hug HTq;obtain⟨rn,hrn⟩:∃rn:Nat,u.res=rn:=⟨u.res.toNat,by omega⟩
     rw[hrn] at c0 hug HTq;rw[Int.toNat_natCast,j.pR] at HTq;have hrl:rn<j.res.length:=by have:=hug.2.1;rw[j.nr] at this;omega
     clear hcells hbl hrn;obtain⟨W4,hW4⟩:∃W4,W4=wr.alloc (.cells #[.int .i64 (rn:Int),.int .i64 u.many] 48):=⟨_,rfl⟩
     have hs4:wr.heap.size+1<=W4.heap.size:=by rw[hW4];simp
     have HB4:=hI (show Bl W0 W4 by rw[hW4];exact Hb2.o.alloc hsr2 _);have r0:W4.cell? ⟨wr.heap.size,0,none⟩=some (.int .i64 (rn:Int)):=by rw[hW4];exact alloc_cell rfl
     have Ho4:=hI (own_below Ho2.o (show Bl wr W4 by rw[hW4];exact(Below.refl _ _).alloc (Nat.le_refl _) _));go_upto_region 12 with fail;rw[<- hW4];clear hW4 c0 c1;obtain⟨hbd,hjn⟩:=HB.o W4 HB4.o;obtain⟨rb,roff,hRA,hrb⟩:=hjn.ra (by omega);obtain⟨_,_,c2⟩:=hjn.rcells hRA hrl;have p1:=bc (j:=1) hbd.hg rfl;rw[hRA] at p1;have v0:=bc (j:=0) (HX00.o W4 HB4.o) rfl;have HRs:=hI (fun(X:World) (hX:Bl W0 X)=>((HB.o X hX).2.rss _ (j.R_mem hrl)).os);have hol:=(hjn.rss _ (j.R_mem hrl)).ol;have hoc:=(hjn.rss _ (j.R_mem hrl)).oc;have hno:=HG.o.noff _ (j.Rp_mem hrl);have HOf:=hI (HG.o.off _ (j.Rp_mem hrl));generalize j.R rn=r at HTq c2 HRs hol hoc hno HOf;obtain⟨OA,hOA⟩:∃x,r.OA=x:=⟨_,rfl⟩
     obtain⟨no,hnoe⟩:∃x,r.p.off.length=x:=⟨_,rfl⟩
     rw[hOA,hnoe] at c2;rw[hOA] at HRs;rw[hnoe] at hol hno;have Hno:=hI hnoe;clear hbd hjn hOA hnoe hRA;go_wp2
     go_quiet (fail)
     go_wp2;clear p1 v0 c2 r0;obtain⟨F0,hF0⟩:∃F0,E0++usesAfter j.p fst (t.p.uses.take q)=F0:=⟨_,rfl⟩
     rw[hF0] at Ho4;have hF0l:F0.length<=321:=by rw[<- hF0];simp;omega
     have HF0:=hI hF0;clear hF0;obtain⟨wb,rfl⟩:∃wb:World,wb=wr:=⟨_,rfl⟩
     go_loopw [6,73] (fun v6 v73 wr3=>∃z:Nat,z<=no/\v73= .int .i64 z/\Hid (Bl W0 wr3)/\Hid (wr3.ownsRow W0.heap.size 3 1 v6 (F0++offsAfter fst (r.p.off.take z)).length ((F0++offsAfter fst (r.p.off.take z)).map (Value.int .i64)))) (fun _ v73 _=>no-(intOf v73).toNat)
     case atStart=>exact⟨0,by omega,rfl,hI (below_drewN HB4.o _),hI (by
      have h:=own_below Ho4.o (below_drewN (Below.refl _ W4) ‹_›)
      simpa [offsAfter] using h)⟩
     case round=>
      obtain⟨z,hz,rfl,Hb3,Ho3⟩:=hrel;have hsr3:=Hb3.o.size
      by_cases hlt3:z<no
      ·have hzl:z<r.p.off.length:=by have:=Hno.o;omega
       obtain⟨ob,ooff,hoe,hob,hcells⟩:=(HRs.o _ Hb3.o) (by omega)
       subst hoe;have c0:wr.cell? ⟨ob,ooff+z*2,none⟩=some (.int .i64 r.p.off[z].lo):=hcells z hzl 0 _ rfl;have c1:wr.cell? ⟨ob,ooff+z*2+1,none⟩=some (.int .i64 r.p.off[z].hi):=hcells z hzl 1 _ rfl;have hob3:=HOf.o _ (List.getElem_mem hzl);have HTz:=hI (show offsAfter fst (r.p.off.take (z+1))=offsAfter fst (r.p.off.take z)++(if fst<r.p.off[z].hi+1 then[r.p.off[z].hi+1] else[]) by rw[List.take_succ_eq_append_getElem hzl,offsAfter_snoc]);have hol2:=offs_len fst (r.p.off.take z);rw[List.length_take] at hol2;have hol3:(offsAfter fst (r.p.off.take z)).length<=16:=by omega
       generalize r.p.off[z]=sp at c0 c1 hob3 HTz;obtain⟨W5,hW5⟩:∃W5,W5=wr.alloc (.cells #[.int .i64 sp.lo,.int .i64 sp.hi] 50):=⟨_,rfl⟩
       have hs5:wr.heap.size+1<=W5.heap.size:=by rw[hW5];simp
       have HB5:=hI (show Bl W0 W5 by rw[hW5];exact Hb3.o.alloc hsr3 _);have r1:W5.cell? ⟨wr.heap.size,1,none⟩=some (.int .i64 sp.hi):=by rw[hW5];exact alloc_cell rfl
       have Ho5:=hI (own_below Ho3.o (show Bl wr W5 by rw[hW5];exact(Below.refl _ _).alloc (Nat.le_refl _) _));clear hcells hol2;go_upto_region 15 with fail;rw[<- hW5];clear hW5 c0 c1;cases h1:decide (fst<sp.hi+1)
       ·have HN:=hI (show offsAfter fst (r.p.off.take (z+1))=offsAfter fst (r.p.off.take z) by rw[HTz.o,if_neg (of_decide_eq_false h1)];simp);go_wp2;go_roundw;case rel=>exact⟨z+1,by omega,by go_num,HB5,by rw[HN.o];exact Ho5⟩
        case measure=>simp[intOf];omega
       ·have HN:=hI (show(F0++offsAfter fst (r.p.off.take (z+1))).map (Value.int .i64)=(F0++offsAfter fst (r.p.off.take z)).map (Value.int .i64)++[.int .i64 (sp.hi+1)] by rw[HTz.o,if_pos (of_decide_eq_true h1)];simp);have HL:=hI (show(F0++offsAfter fst (r.p.off.take (z+1))).length=(F0++offsAfter fst (r.p.off.take z)).length+1 by rw[HTz.o,if_pos (of_decide_eq_true h1)];simp;omega);go_wp2_with (at_builtin;refine wpList_append1 rfl _ _ 26 rfl W0.heap.size 3 _ 1 8 elemI _ _ _ rfl Ho5.o #[.int .i64 (sp.hi+1)] 1 _ rfl (by simp) rfl (by simp[Value.oneCell']) (by simp;omega) (by omega) ?_;intro v6 w6 hown6 hb6 hsz6 hg6 hblk6;have Ho6:=hI hown6;have Hb6:=hI hb6;clear hown6 hb6 hsz6 hg6 hblk6);go_roundw;case rel=>exact⟨z+1,by omega,by go_num,hI (HB5.o.trans Hb6.o),by rw[HN.o,HL.o];exact Ho6⟩
        case measure=>simp[intOf];omega
      ·have HE:=hI (show F0++offsAfter fst (r.p.off.take z)=E0++usesAfter j.p fst (t.p.uses.take (q+1)) by rw[HTq.o,List.take_of_length_le (by have:=Hno.o;omega),<-HF0.o,List.append_assoc]);rw[HE.o] at Ho3;go_wp2;go_roundw;case rel=>exact⟨q+1,by omega,by go_num,Hb3,Ho3⟩
       case measure=>simp[intOf];omega
    ·have HE:=hI (show E0++usesAfter j.p fst (t.p.uses.take q)=triesV j.p b fr k by rw[HTr2.o,List.take_of_length_le (by have:=Hnu.o;omega)]);have hUl:=usesA_len HG.o fst (l:=t.p.uses.take q) (fun u hu=>by have:=HUg.o u (List.mem_of_mem_take hu);omega);rw[List.length_take] at hUl;have hTl:(triesV j.p b fr k).length<=321:=by rw[<- HE.o];simp only[List.length_append];omega
     have hkj:k<j.tasks.length:=by have:=Hn.o;omega
     have hkp:k<j.p.tasks.length:=by rw[j.nt];exact hkj
     have HTb:=hI (tries_bd HG.o HS.o hfr hkp);have HPl:=hI (show placeV j.p b fr k=(sortI (triesV j.p b fr k)).find? (fitsV j.p b k) from rfl);have hT0:0<(triesV j.p b fr k).length:=by rw[HTr2.o];unfold triesV at HTr2;rw[<- HTr2.o];simp
     rw[HE.o] at Ho2;clear hUl;generalize triesV j.p b fr k=T at Ho2 hTl HTb HPl hT0;obtain⟨gA,cap,hv6,hgA,hgA2,hTc,hcap,_⟩:=owns_cells Ho2.o hT0;subst hv6;have HSo:=hI (sortInt_any T W0.heap.size gA cap wr Ho2.o (by omega));go_upto_region 20 with(go_at_call 130;refine HSo.o.mono ?_;rintro e w5 ⟨rfl,ho5,hg5⟩;have Ho5:=hI ho5;have Hb5:=hI (Hb2.o.grown hg5 hsr2 (fun k hk=>by cases hk;exact hgA));have hs5:=hg5.size;clear ho5 hg5)
     have hSl:(sortI T).length=T.length:=sortI_length T;have HSb:=hI (show ∀x∈sortI T,0<=x/\x<=200000 from fun x hx=>HTb.o x ((sortI_perm T).mem_iff.1 hx));generalize sortI T=S at HPl Ho5 hSl HSb;have hSlI:=sl_own2 (k:=1) (enc:=encInt1) (fun _=>rfl) (xs:=S) (A:=some ⟨gA,0,none⟩) (c:=cap) (base:=W0.heap.size) (e:=3) (w:=w5) (by rw[hSl,flat_int];exact Ho5.o);have HUW:=hI (show ∀X:World,Bl w5 X->Bl W0 X from fun X hX=>Hb5.o.trans (hX.mono (by omega)))
     have HI:=hI (idxPlace_any (fun x=>fitsV j.p b k x) (.pointer (some ⟨w.heap.size,0,none⟩)) (.pointer (some ⟨w.heap.size+1,0,none⟩)) S T.length hSl.symm (some ⟨gA,0,none⟩) cap w5.heap.size w5 hSlI (Nat.le_refl _) (by omega) (fun x hx W hW=>place1_any j b fr x k _ _ g sb pb B W (HB.o W (HUW.o W hW)).1 (HB.o W (HUW.o W hW)).2 (by have:=hW.size;omega) HG.o HS.o hkj (by have:=HSb.o x hx;omega) (bc (j:=0) (HX00.o W (HUW.o W hW)) rfl) (bc (j:=0) (HX01.o W (HUW.o W hW)) rfl)));clear hSlI
     by_cases hv:0<=idxB (fun x=>fitsV j.p b k x) S
     ·obtain⟨kk,hkk,hvk⟩:=idx_lt hv;have hp1:placeV j.p b fr k=some S[kk]:=by rw[HPl.o];exact find_hit hkk hvk
      have hsb:=place_bd HG.o HS.o hfr hkp hp1;have HR:=hI (show placeR j.p b fr k=(true,b.put k S[kk]) by unfold placeR;rw[hp1])
      have HCk:=hI (show ∀X:World,Bl w5 X->X.cell? ⟨gA,kk,none⟩=some (.int .i64 S[kk]) from fun X hX=>by
       have h1:=own_below Ho5.o hX;obtain⟨g9,c9,e9,_,_,_,_,h9⟩:=owns_cells h1 hT0;cases e9;have h10:=h9 kk (.int .i64 S[kk]) (by simp[hkk])
       rwa [Nat.zero_add] at h10)
      have hkl:kk<T.length:=by omega
      rw[hvk] at HI;generalize S[kk]=s at HR HCk hsb;clear hp1 hv hvk;go_upto_region 23 with(go_at_call 132;refine HI.o.mono ?_;rintro e w6 ⟨rfl,hb6⟩;have hs6:=hb6.size;have Hb6:=hI hb6;clear hb6)
      obtain⟨hbd,_⟩:=HB.o w6 (HUW.o _ Hb6.o);have p1:=later_cell (bc (j:=2) hbd.hg rfl) (by omega);have v0:=later_cell (bc (j:=0) (HX00.o w6 (HUW.o _ Hb6.o)) rfl) (by omega);have v1:=later_cell (bc (j:=0) (HX01.o w6 (HUW.o _ Hb6.o)) rfl) (by omega);have v2:=later_cell (HCk.o w6 Hb6.o) (by omega);rw[Hn.o] at p1;have Hbd6:=hI hbd;clear hbd;refine wp_region_later_tail 10 (by kernel_rfl) (by kernel_rfl) ?_;simp only[List.take_succ_cons,List.take_zero,List.drop_succ_cons,List.drop_zero]
      repeat (any_goals (first | go_big_quiet_step ((fail)) | quiet_step ((fail))))
      refine wpQuiet_nil ?_;rintro w' ⟨e,rfl⟩;have HE6:=hI (show Bl W0 e.w from HUW.o _ (Hb6.o.trans (e.b.mono hs6)));have hse:=e.b.size;have Hbe:=hI (Hbd6.o.below e.b);generalize e.w=w7 at HE6 hse Hbe;clear p1 v0 v1 v2;have f0:=W7.bf (j:=k) Hbe.o.hs;have d0:=Hbe.o.st hkj;go_upto_region 24 with fail;obtain⟨X1,hX1⟩:∃X1,X1=w7.setCell ⟨sb,k,none⟩ (.int .i64 s):=⟨_,rfl⟩
      have Hb1:=hI (show BdIn X1 g sb pb j ⟨b.st.set k s,b.pl⟩ fr by rw[hX1];exact Hbe.o.putS Hne.o.1 Hne.o.2.2);have HK1:=hI (show Kept2 w X1 sb pb by rw[hX1];exact(Kept2.of_below (HU0.o _ HE6.o)).trans (Kept2.setL _ _ _ _ _));have hs1:w.heap.size<X1.heap.size:=by rw[hX1];simp[World.setCell];omega
      have hv0:X1.cell? ⟨w.heap.size,0,none⟩=some (.pointer (some ⟨g,0,none⟩)):=by
       have h:=blk_set_ne (X:=w7) (g:=w.heap.size) (b:=sb) (j:=k) (by omega) (.int .i64 s);rw[<- hX1] at h;exact bc (j:=0) (h.trans (HX00.o _ HE6.o)) rfl
      have hv1:X1.cell? ⟨w.heap.size+1,0,none⟩=some (.int .i64 (k:Int)):=by
       have h:=blk_set_ne (X:=w7) (g:=w.heap.size+1) (b:=sb) (j:=k) (by omega) (.int .i64 s);rw[<- hX1] at h;exact bc (j:=0) (h.trans (HX01.o _ HE6.o)) rfl
      have hs2:w.heap.size+1<X1.heap.size:=by rw[hX1];simp[World.setCell];omega
      rw[<- hX1];clear hX1 f0 d0;have p1:=later_cell (bc (j:=3) Hb1.o.hg rfl) (by omega);rw[Hn.o] at p1;have v0:=later_cell hv0 (by omega);have v1:=later_cell hv1 (by omega);clear hv0 hv1;refine wp_region_later_tail 6 (by kernel_rfl) (by kernel_rfl) ?_;simp only[List.take_succ_cons,List.take_zero,List.drop_succ_cons,List.drop_zero]
      repeat (any_goals (first | go_big_quiet_step ((fail)) | quiet_step ((fail))))
      refine wpQuiet_nil ?_;rintro w' ⟨e,rfl⟩;have Hb2:=hI (Hb1.o.below e.b);have HK2:=hI (HK1.o.trans (Kept2.of_below e.b));generalize e.w=w8 at Hb2 HK2;clear p1 v0 v1;have f0:=W7.bf (j:=k) Hb2.o.hp;have d0:=Hb2.o.pl hkj;go_wp2;go_ret;rw[HR.o];exact⟨rfl,HK2.o.trans (Kept2.setR _ _ _ _ _),Hb2.o.putP Hne.o.2.1 Hne.o.2.2⟩
     ·have hp0:placeV j.p b fr k=none:=by rw[HPl.o];exact find_no hv
      have HR:=hI (show placeR j.p b fr k=(false,b) by unfold placeR;rw[hp0]);generalize idxB (fun x=>fitsV j.p b k x) S=iv at hv HI;clear hp0;go_wp2_with (go_at_call 132;refine HI.o.mono ?_;rintro e w6 ⟨rfl,hb6⟩;have Hb6:=hI hb6;clear hb6);go_ret;rw[HR.o];exact⟨rfl,Kept2.of_below (HU0.o _ (HUW.o _ Hb6.o)),(HB.o _ (HUW.o _ Hb6.o)).1⟩
theorem own_full {w:World} {base e g n:Nat} {xs:List Value} (h:w.ownsRow base e 1 (.slice (some ⟨g,0,none⟩) n n) n xs):w.heap[g]? =some (.cells xs.toArray e (0,0))/\base<=g:=by
 rcases h.2 with⟨e0,_⟩ | ⟨g',cap',cur,e0,hb,hg,h1,h2,h3,h4⟩
 ·cases e0
 ·injection e0 with e1 _ e3
  injection e1 with e1
  injection e1 with e1
  subst e1;subst e3;refine⟨?_,hb⟩;rw[hg]
  have:cur=xs.toArray:=by
   rw[<- h4,List.take_of_length_le (by rw[Array.length_toList,h3];exact Nat.le_refl _)]
  rw[this]
theorem made_blk {W w w1:World} {e n:Nat} {z:Value} (hse:W.heap.size<=w.heap.size) (h:w1.ownsRow w.heap.size e 1 (.slice (some ⟨w.heap.size,0,none⟩) n n) n (madeCells #[z] (n*1)).toList):NewBlk W w1 w.heap.size (List.replicate n z).toArray e:=by
 rw[toList_madeCells_one,Nat.mul_one] at h;exact⟨hse,(own_full h).1⟩
structure OpenR (j:Job) (w:World) (e:Ending) (w':World):Prop where
 ex:∃g sb pb,e= .returned (.pointer (some ⟨g,0,none⟩))/\BdIn w' g sb pb j (bd0 j.p) 0/\w.heap.size<=g/\w.heap.size<=sb/\w.heap.size<=pb
 bel:Bl w w'
theorem opened_any (j:Job) (w:World) (h64:j.tasks.length<=64):Calls Tryz.prog 64 #[jobV j] w (OpenR j w):=by
 obtain⟨n,hn⟩:∃n,j.tasks.length=n:=⟨_,rfl⟩
 obtain⟨W0,HW0,hs0,HB0,HX00,HU0⟩:=boxes1 w (.cells #[.slice j.TA j.tasks.length j.tc,.slice j.RA j.res.length j.rc] 25);have HJ:=hI (show jobV j= .agg #[.slice j.TA n j.tc,.slice j.RA j.res.length j.rc] by unfold jobV;rw[hn]);rw[HJ.o];rw[hn] at h64 HX00 HW0;have Hn:=hI hn;clear hn;obtain⟨i1,hi1,hi1a,hi1b,hi1c⟩:=info_parts (show(Tryz.prog.info? 3).map (fun i=>(i.zero,i.size,i.bytes))=some (some (.int .i64 0),1,8) by kernel_rfl);obtain⟨i2,hi2,hi2a,hi2b,hi2c⟩:=info_parts (show(Tryz.prog.info? 4).map (fun i=>(i.zero,i.size,i.bytes))=some (some (.bool false),1,1) by kernel_rfl);go_enter Tryz.func64,Tryz.ntmps64;go_upto_region 1 with fail;rw[<- HW0.o];have y0:=later_cell (bc (j:=0) (HX00.o W0 (Below.refl _ _)) rfl) (by omega);have y1:=later_cell (bc (j:=1) (HX00.o W0 (Below.refl _ _)) rfl) (by omega)
 obtain⟨C,hC⟩:∃C:(Nat->Bool)->(Nat->Value)->World->Prop,C=fun L V w'=>∃(e:Later W0) (gs gp gb:Nat),w'=e.w/\(L 0=true->V 0= .agg #[.slice j.TA n j.tc,.slice j.RA j.res.length j.rc])/\(L 1=true->V 1= .pointer (some ⟨w.heap.size,0,none⟩))/\(L 2=true->V 2= .slice j.TA n j.tc)/\(L 3=true->V 3= .int .i64 (n:Int))/\(L 4=true->V 4= .slice (some ⟨gs,0,none⟩) n n/\Hid (NewBlk W0 e.w gs (List.replicate n (.int .i64 0)).toArray 3)) ∧
  (L 5=true->V 5= .pointer (some ⟨w.heap.size,0,none⟩))/\(L 6=true->V 6= .slice j.TA n j.tc)/\(L 7=true->V 7= .int .i64 (n:Int))/\(L 8=true->V 8= .slice (some ⟨gp,0,none⟩) n n/\Hid (NewBlk W0 e.w gp (List.replicate n (.bool false)).toArray 4))/\(L 9=true->L 4=true/\L 8=true/\V 9= .agg #[.slice j.TA n j.tc,.slice j.RA j.res.length j.rc,.slice (some ⟨gs,0,none⟩) n n,.slice (some ⟨gp,0,none⟩) n n,.int .i64 0]) ∧
  (L 10=true->L 4=true/\L 8=true/\V 10= .pointer (some ⟨gb,0,none⟩)/\Hid (NewBlk W0 e.w gb #[.slice j.TA n j.tc,.slice j.RA j.res.length j.rc,.slice (some ⟨gs,0,none⟩) n n,.slice (some ⟨gp,0,none⟩) n n,.int .i64 0] 115))/\(L 11=true->L 10=true/\V 11= .pointer (some ⟨gb,0,none⟩)):=⟨_,rfl⟩
 have HC:=hI hC;clear hC;refine wp_region_opsA [3,4,5,6,7,8,9,10,11,12,13,2] C (by kernel_rfl) (by kernel_rfl) (by decide) (by kernel_rfl) (by kernel_rfl) ?_ ?_ ?_
 ·rw[HC.o];exact⟨⟨W0.drew,(Below.refl _ _).drew⟩,0,0,0,rfl,nff,nff,nff,nff,nff,nff,nff,nff,nff,nff,nff,nff⟩
 ·rintro L V w' i o A hi ho hLi haf hInv hA hF;rw[HC.o] at hInv;obtain⟨e,gs,gp,gb,rfl,h0,h1,h2,h3,h4,h5,h6,h7,h8,h9,h10,h11⟩:=hInv;have hse:W0.heap.size<=e.w.heap.size:=e.b.size;rcases i with _ | _ | _ | _ | _ | _ | _ | _ | _ | _ | _ | _ | i;case succ.succ.succ.succ.succ.succ.succ.succ.succ.succ.succ.succ=>(simp at hi;try omega)
  all_goals (simp only[List.getElem?_cons_zero,List.getElem?_cons_succ,Option.some.injEq] at ho;subst ho)
  ·have f1:A.tmps[1]?.getD undef= .pointer (some ⟨w.heap.size,0,none⟩):=hF.out 1 (by decide);go_wp2;rw[HC.o];exact⟨_,rfl,e,gs,gp,gb,rfl,fun _=>rfl,h1,h2,h3,h4,h5,h6,h7,h8,h9,h10,h11⟩
  ·have f1:A.tmps[1]?.getD undef= .pointer (some ⟨w.heap.size,0,none⟩):=hF.out 1 (by decide);go_wp2;rw[HC.o];exact⟨_,rfl,e,gs,gp,gb,rfl,h0,fun _=>rfl,h2,h3,h4,h5,h6,h7,h8,h9,h10,h11⟩
  ·have a1:=(hA.out 1 4 rfl).trans (h1 (haf ⟨1,.data⟩ (by simp) rfl));go_wp2;rw[HC.o];exact⟨_,rfl,e,gs,gp,gb,rfl,h0,h1,fun _=>rfl,h3,h4,h5,h6,h7,h8,h9,h10,h11⟩
  ·have a2:=(hA.out 2 5 rfl).trans (h2 (haf ⟨2,.data⟩ (by simp) rfl));go_wp2;rw[HC.o];exact⟨_,rfl,e,gs,gp,gb,rfl,h0,h1,h2,fun _=>rfl,h4,h5,h6,h7,h8,h9,h10,h11⟩
  ·have a3:=(hA.out 3 6 rfl).trans (h3 (haf ⟨3,.data⟩ (by simp) rfl));go_wp2_with (at_make;refine wpList_make_full _ rfl _ _ 26 rfl e.w.heap.size 3 _ (.int .i64 0) 1 Tryz.underlying26 hi1 hi1a hi1b .i64 .i64 _ _ n (ev_of a3) (ev_of a3) rfl rfl (by rw[hi1c];omega) (by unfold maxLen;omega) (Nat.le_refl _) ?_;intro w1 hown1 hg1;have Hb1:=hI ((Below.refl e.w.heap.size e.w).grown hg1 (Nat.le_refl _) (fun k hk=>by cases hk));have Hn1:=hI (made_blk hse hown1);clear hown1 hg1);rw[HC.o];exact⟨_,rfl,⟨_,e.b.trans (Hb1.o.mono hse)⟩,e.w.heap.size,gp,gb,rfl,h0,h1,h2,h3,fun _=>⟨rfl,Hn1⟩,h5,h6,h7,fun y=>⟨(h8 y).1,hI ((h8 y).2.out.below Hb1.o)⟩,fun y=>absurd (hLi.symm.trans (h9 y).1) (by decide),fun y=>absurd (hLi.symm.trans (h10 y).1) (by decide),h11⟩
  ·have f1:A.tmps[1]?.getD undef= .pointer (some ⟨w.heap.size,0,none⟩):=hF.out 1 (by decide);go_wp2;rw[HC.o];exact⟨_,rfl,e,gs,gp,gb,rfl,h0,h1,h2,h3,h4,fun _=>rfl,h6,h7,h8,h9,h10,h11⟩
  ·have a5:=(hA.out 5 8 rfl).trans (h5 (haf ⟨5,.data⟩ (by simp) rfl));go_wp2;rw[HC.o];exact⟨_,rfl,e,gs,gp,gb,rfl,h0,h1,h2,h3,h4,h5,fun _=>rfl,h7,h8,h9,h10,h11⟩
  ·have a6:=(hA.out 6 9 rfl).trans (h6 (haf ⟨6,.data⟩ (by simp) rfl));go_wp2;rw[HC.o];exact⟨_,rfl,e,gs,gp,gb,rfl,h0,h1,h2,h3,h4,h5,h6,fun _=>rfl,h8,h9,h10,h11⟩
  ·have a7:=(hA.out 7 10 rfl).trans (h7 (haf ⟨7,.data⟩ (by simp) rfl));go_wp2_with (at_make;refine wpList_make_full _ rfl _ _ 113 rfl e.w.heap.size 4 _ (.bool false) 1 Tryz.underlying113 hi2 hi2a hi2b .i64 .i64 _ _ n (ev_of a7) (ev_of a7) rfl rfl (by rw[hi2c];omega) (by unfold maxLen;omega) (Nat.le_refl _) ?_;intro w1 hown1 hg1;have Hb1:=hI ((Below.refl e.w.heap.size e.w).grown hg1 (Nat.le_refl _) (fun k hk=>by cases hk));have Hn1:=hI (made_blk hse hown1);clear hown1 hg1);rw[HC.o];exact⟨_,rfl,⟨_,e.b.trans (Hb1.o.mono hse)⟩,gs,e.w.heap.size,gb,rfl,h0,h1,h2,h3,fun y=>⟨(h4 y).1,hI ((h4 y).2.out.below Hb1.o)⟩,h5,h6,h7,fun _=>⟨rfl,Hn1⟩,fun y=>absurd (hLi.symm.trans (h9 y).2.1) (by decide),fun y=>absurd (hLi.symm.trans (h10 y).2.1) (by decide),h11⟩
  ·have a0:=(hA.out 0 3 rfl).trans (h0 (haf ⟨0,.data⟩ (by simp) rfl));have a4:=(hA.out 4 7 rfl).trans (h4 (haf ⟨4,.data⟩ (by simp) rfl)).1;have a8:=(hA.out 8 11 rfl).trans (h8 (haf ⟨8,.data⟩ (by simp) rfl)).1;have l4:=haf ⟨4,.data⟩ (by simp) rfl;have l8:=haf ⟨8,.data⟩ (by simp) rfl;go_wp2;rw[HC.o];exact⟨_,rfl,e,gs,gp,gb,rfl,h0,h1,h2,h3,h4,h5,h6,h7,h8,fun _=>⟨l4,l8,rfl⟩,h10,h11⟩
  ·have l9:=h9 (haf ⟨9,.data⟩ (by simp) rfl);have a9:=(hA.out 9 12 rfl).trans l9.2.2;go_wp2;have hNew:Below e.w.heap.size e.w (e.w.alloc (.cells #[.slice j.TA n j.tc,.slice j.RA j.res.length j.rc,.slice (some ⟨gs,0,none⟩) n n,.slice (some ⟨gp,0,none⟩) n n,.int .i64 0] 115)):=(Below.refl _ _).alloc (Nat.le_refl _) _;rw[HC.o];exact⟨_,rfl,⟨_,e.b.trans (hNew.mono hse)⟩,gs,gp,e.w.heap.size,rfl,h0,h1,h2,h3,fun y=>⟨(h4 y).1,hI ((h4 y).2.out.below hNew)⟩,h5,h6,h7,fun y=>⟨(h8 y).1,hI ((h8 y).2.out.below hNew)⟩,h9,fun _=>⟨l9.1,l9.2.1,rfl,hI (NewBlk.new hse)⟩,fun y=>absurd (hLi.symm.trans (h11 y).1) (by decide)⟩
  ·have l10:=h10 (haf ⟨10,.data⟩ (by simp) rfl);have l10':=haf ⟨10,.data⟩ (by simp) rfl;have a10:=(hA.out 10 13 rfl).trans l10.2.2.1;go_wp2;rw[HC.o];exact⟨_,rfl,e,gs,gp,gb,rfl,h0,h1,h2,h3,h4,h5,h6,h7,h8,h9,h10,fun _=>⟨l10',rfl⟩⟩
 ·rintro L V w' hL hInv;rw[HC.o] at hInv;obtain⟨e,gs,gp,gb,rfl,_,_,_,_,h4,_,_,_,h8,_,h10,h11⟩:=hInv;have b4:=(h4 (hL 4 (by simp))).2.out;have b8:=(h8 (hL 8 (by simp))).2.out;have b10:=(h10 (hL 10 (by simp))).2.2.2.out;have v11:=(h11 (hL 11 (by simp))).2;have HR:=hI (show OpenR j w (.returned (.pointer (some ⟨gb,0,none⟩))) e.w from⟨⟨gb,gs,gp,rfl,⟨by rw[Hn.o];exact b10.2,by rw[show(bd0 j.p).st.map (Value.int .i64)=List.replicate n (.int .i64 0) by unfold bd0;rw[j.nt,Hn.o,List.map_replicate]];exact b4.2,by rw[show(bd0 j.p).pl.map Value.bool=List.replicate n (.bool false) by unfold bd0;rw[j.nt,Hn.o,List.map_replicate]];exact b8.2,by simp[bd0,j.nt],by simp[bd0,j.nt]⟩,Nat.le_trans (by omega) b10.1,Nat.le_trans (by omega) b4.1,Nat.le_trans (by omega) b8.1⟩,HU0.o _ e.b⟩);clear h4 h8 h10 h11 hL HC b4 b8 b10;simp only[putAll];rw[v11];go_frame;go_wp2;go_ret;exact HR.o
end Go.Proofs.YtjpgnfekbojcaaaGreat
