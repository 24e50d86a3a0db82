/- A board: placing a task at the first start at which it fits. -/
import Derived.Test.YtjpgnfekbojcaaaGreatWSortI
set_option maxHeartbeats 8000000
set_option maxRecDepth 100000
namespace W8
open W7
theorem find_hit {α:Type} {P:α->Bool} {xs:List α} {k:Nat} (hk:k<xs.length) (h:idxB P xs=(k:Int)):xs.find? P=some xs[k]:=by
 unfold idxB at h;cases hf:xs.findIdx? P with
 | none=>rw[hf] at h;exact absurd (show(-1:Int)=(k:Int) from h) (by omega)
 | some j=>
  rw[hf] at h;have hj:j=k:=Int.ofNat.inj h;subst hj;rw[List.findIdx?_eq_some_iff_getElem] at hf;obtain⟨h1,h2,h3⟩:=hf;rw[List.find?_eq_some_iff_getElem];exact⟨h2,j,h1,rfl,fun i hi=>by simpa using h3 i hi⟩
theorem find_no {α:Type} {P:α->Bool} {xs:List α} (h: ¬ 0<=idxB P xs):xs.find? P=none:=by
 unfold idxB at h;cases hf:xs.findIdx? P with
 | none=>
  rw[List.findIdx?_eq_none_iff] at hf;rw[List.find?_eq_none];intro x hx
  simpa using hf x hx
 | some j=>rw[hf] at h;exact absurd (by simp) h
end W8
namespace Go.Proofs.YtjpgnfekbojcaaaGreat
open Go.RowKit W7 W8
attribute [local go_sem] Oper.semAt_some
theorem elemI:Elem Tryz.prog 26 3 (.int .i64 0) 1 8:=Elem.mk' Tryz.underlying26 (by kernel_rfl) rfl (by decide) (by decide)
theorem flat_int:∀xs:List Int,xs.flatMap encInt1=xs.map (Value.int .i64)
 | []=>rfl
 | x::l=>by show encInt1 x++l.flatMap encInt1=_;rw[flat_int l];rfl
theorem BdIn.putS {X:World} {g sb pb n:Nat} {j:Job} {b:Bd} {fr s:Int} (h:BdIn X g sb pb j b fr) (h1:g≠sb) (h3:sb≠pb):BdIn (X.setCell ⟨sb,n,none⟩ (.int .i64 s)) g sb pb j ⟨b.st.set n s,b.pl⟩ fr:=by
 refine⟨?_,?_,?_,by simp[h.ns],h.np⟩
 ·rw[blk_set_ne (Ne.symm h1)];exact h.hg
 ·rw[blk_set h.hs];simp[List.map_set]
 ·rw[blk_set_ne h3];exact h.hp
theorem BdIn.putP {X:World} {g sb pb n:Nat} {j:Job} {b:Bd} {fr:Int} {x:Bool} (h:BdIn X g sb pb j b fr) (h2:g≠pb) (h3:sb≠pb):BdIn (X.setCell ⟨pb,n,none⟩ (.bool x)) g sb pb j ⟨b.st,b.pl.set n x⟩ fr:=by
 refine⟨?_,?_,?_,h.ns,by simp[h.np]⟩
 ·rw[blk_set_ne (Ne.symm h2)];exact h.hg
 ·rw[blk_set_ne (Ne.symm h3)];exact h.hs
 ·rw[blk_set h.hp];simp[List.map_set]
theorem place_any (j:Job) (b:Bd) (fr:Int) (k g sb pb B:Nat) (w:World) (hb:BdIn w g sb pb j b fr) (hj:JIn w B j) (hB:B<=w.heap.size) (hne:g≠sb/\g≠pb/\sb≠pb) (hG:JGood j.p) (hs:BOk b) (hk:k<j.tasks.length) (hfr:0<=fr/\fr<=200000) :
  Calls Tryz.prog 134 #[.pointer (some ⟨g,0,none⟩),.int .i64 (k:Int)] w fun e w'=>e= .returned (.bool (placeR j.p b fr k).1)/\Kept2 w w' sb pb/\BdIn w' g sb pb j (placeR j.p b fr k).2 fr:=by
 obtain⟨n,hn⟩:=eX j.tasks.length;obtain⟨W0,HW0,hs0,HB0,HX00,HX01,HU0⟩:=boxes2 w (.cells #[.pointer (some ⟨g,0,none⟩)] 110) (.cells #[.int .i64 (k:Int)] 3);have h64:n<=64:=by have:=hG.nt;rw[j.nt] at this;omega
 have hlc:=hj.tl;have hc2:=hj.tc;have hlr:=hj.rl;have hcr:=hj.rc;rw[hn] at hlc;have HB:=hI (show ∀X:World,Bl W0 X->BdIn X g sb pb j b fr/\JIn X B j from fun X hX=>⟨hb.below (HU0.o X hX),hj.below ((HU0.o X hX).mono hB)⟩);have hgl:=blk_lt hb.hg;have hsl:=blk_lt hb.hs;have hpl:=blk_lt hb.hp;have HG:=hI hG;have HS:=hI hs;have Hn:=hI hn;have Hne:=hI hne;have hkn:k<n:=by omega
 have hkp:k<j.p.tasks.length:=by rw[j.nt];exact hk
 have HRd:=hI (ready_any j b fr k g sb pb B W0 (HB.o W0 (zX _ _)).1 (HB.o W0 (zX _ _)).2 (by omega) hG hs hk hfr);obtain⟨fst,hfst⟩:=eX (readyV j.p b fr k);have hfb:=ready_bd hG hs hfr hkp;rw[hfst] at HRd hfb
 have HTr:=hI (show triesV j.p b fr k=(fst::endsAfter j.p b fst n)++usesAfter j.p fst (j.T k).p.uses by
  unfold triesV;rw[hfst,j.nt,hn,j.pT];rfl)
 have HTk:=hI (j.T_mem hk);have HUs:=hI (fun(X:World) (hX:Bl W0 X)=>((HB.o X hX).2.tks _ (j.T_mem hk)).us);have hul:=((HB.o W0 (zX _ _)).2.tks _ (j.T_mem hk)).ul;have huc:=((HB.o W0 (zX _ _)).2.tks _ (j.T_mem hk)).uc;have hul16:=uses_len hG (j.Tp_mem hk);have HEb:=hI (fun i (hi:i<=n)=>ends_bd hG hs fst (k:=i) (by rw[j.nt,hn];exact hi));have HUg:=hI (hG.uses _ (j.Tp_mem hk));have q0:=kC 0 (HX00.o W0 (zX _ _)) rfl;have p0:=kC 0 (HX01.o W0 (zX _ _)) rfl;clear hb hj hG hs hn hne hk hkp hfst;go_enter Tryz.func134,Tryz.ntmps134;go_upto_region 1 with fail;rw[<- HW0.o];go_upto_region 2 with(go_at_call 182;refine HRd.o.mono ?_;rintro e w2 ⟨rfl,hb2⟩;have hs2:=hb2.size;have Hb2:=hI hb2;clear hb2)
 clear q0 p0 HRd;go_upto_region 3 with fail;obtain⟨W3,hW3⟩:=eY (w2.alloc (.cells #[.int .i64 fst] 3));have hs3:w2.heap.size+1<=W3.heap.size:=by rw[hW3];simp
 have HB3:=hI (show Bl W0 W3 by rw[hW3];exact Hb2.o.alloc (by omega) _);have HO3:=hI (show W3.ownsRow W0.heap.size 3 1 (.slice (some ⟨w2.heap.size,0,none⟩) 1 1) 1 (([fst]).map (Value.int .i64)) from⟨rfl,.inr ⟨w2.heap.size,1,#[.int .i64 fst],rfl,by omega,by rw[hW3];exact zW _ _,by omega,by decide,rfl,rfl⟩⟩);rw[<- hW3];clear hW3;obtain⟨TA,hTA⟩:=eX j.TA;have HTA:=hI hTA;have q0:=kC 0 (HB.o W3 HB3.o).1.hg rfl;rw[hTA,Hn.o] at q0;have v0:=kC 0 (HX00.o W3 HB3.o) rfl;clear hTA;go_wp2;clear q0 v0;go_loopw [6,24] (fun v6 v24 wr=>∃i:Nat,i<=n/\v24= .int .i64 i/\Hid (Bl W0 wr)/\Hid (wr.ownsRow W0.heap.size 3 1 v6 (fst::endsAfter j.p b fst i).length ((fst::endsAfter j.p b fst i).map (Value.int .i64)))) (fun _ v24 _=>n-(intOf v24).toNat);case atStart=>exact⟨0,by omega,rfl,HB3,HO3⟩
 case round=>
  obtain⟨i,hi,rfl,Hb,Ho⟩:=hrel;have hsr:=Hb.o.size
  by_cases hlt:i<n
  ·have hil:i<j.tasks.length:=by have:=Hn.o;omega
   obtain⟨hbd,hjn⟩:=HB.o wr Hb.o;have p1:=kC 3 hbd.hg rfl;rw[Hn.o] at p1;have cp:=hbd.pl hil;have v0:=kC 0 (HX00.o wr Hb.o) rfl;have HE:=hI (fun(X:World) (hX:Bl W0 X)=>end_any j b fr g sb pb B i X (HB.o X hX).1 (HB.o X hX).2 HG.o hil (HS.o i));have HSt:=hI (endsAfter_succ j.p b fst i);have hle:=ends_len j.p b fst i;generalize b.pl.getD i false=pl at cp HSt;generalize endV j.p b i=ev at HE HSt;clear hbd hjn;cases pl
   ·have HN:=hI (show endsAfter j.p b fst (i+1)=endsAfter j.p b fst i by rw[HSt.o];simp);go_wp2;go_roundw;case rel=>exact⟨i+1,by omega,by go_num,Hb,by rw[HN.o];exact Ho⟩
    case measure=>simp[intOf];omega
   cases h1:decide (fst<ev)
   ·have HN:=hI (show endsAfter j.p b fst (i+1)=endsAfter j.p b fst i by rw[HSt.o,h1];simp);go_wp2_with (go_at_call 138;refine(HE.o wr Hb.o).mono ?_;rintro e w' ⟨rfl,kk,rfl⟩);go_roundw;case rel=>exact⟨i+1,by omega,by go_num,hI (zO Hb.o _),by rw[HN.o];exact hI (own_below Ho.o (zO (zX _ _) _))⟩
    case measure=>simp[intOf];omega
   ·have HN:=hI (show(fst::endsAfter j.p b fst (i+1)).map (Value.int .i64)=(fst::endsAfter j.p b fst i).map (Value.int .i64)++[.int .i64 ev] by rw[HSt.o,h1];simp);have HL:=hI (show(fst::endsAfter j.p b fst (i+1)).length=(fst::endsAfter j.p b fst i).length+1 by rw[HSt.o,h1];simp);go_upto_region 7 with(go_at_call 138;refine(HE.o wr Hb.o).mono ?_;rintro e w' ⟨rfl,kk,rfl⟩)
    obtain⟨X,hX⟩:=eY (wr.drewN kk);have HbX:=hI (show Bl W0 X by rw[hX];exact zO Hb.o _);have HoX:=hI (own_below Ho.o (show Bl wr X by rw[hX];exact zO (zX _ _) _));have hsX:=HbX.o.size;rw[<- hX];clear hX p1 cp v0;have v0:=kC 0 (HX00.o X HbX.o) rfl;go_wp2_with (first | (go_at_call 138;refine(HE.o X HbX.o).mono ?_;rintro e w' ⟨rfl,k2,rfl⟩) | (at_builtin;refine wpList_append1 rfl _ _ 26 rfl W0.heap.size 3 _ 1 8 elemI _ _ _ rfl (own_below HoX.o (zO (zX _ _) _)) #[.int .i64 ev] 1 _ rfl (by simp) rfl (by simp[Value.oneCell']) (by simp;omega) (by simp;omega) ?_;intro v6 w6 hown6 hb6 hsz6 hg6 hblk6;have Ho6:=hI hown6;have Hb6:=hI hb6;clear hown6 hb6 hsz6 hg6 hblk6));go_roundw;case rel=>exact⟨i+1,by omega,by go_num,hI ((zO HbX.o _).trans Hb6.o),by rw[HN.o,HL.o];exact Ho6⟩
    case measure=>simp[intOf];omega
  ·obtain rfl:i=n:=by omega
   obtain⟨hbd,hjn⟩:=HB.o wr Hb.o;obtain⟨tb,off,hTb,htb⟩:=hjn.ta (by have:=Hn.o;omega);have hTe:TA=some ⟨tb,off,none⟩:=by rw[<- HTA.o];exact hTb
   subst hTe;obtain⟨_,_,_,c3⟩:=hjn.tcells hTb (show k<j.tasks.length by have:=Hn.o;omega);have p0:=kC 0 hbd.hg rfl;rw[hTb,Hn.o] at p0;have v0:=kC 0 (HX00.o wr Hb.o) rfl;have v1:=kC 0 (HX01.o wr Hb.o) rfl;obtain⟨E0,hE0⟩:=eX (fst::endsAfter j.p b fst i);have hE0l:E0.length<=65:=by rw[<- hE0];have:=ends_len j.p b fst i;simp;omega
   have HEm:=hI (show ∀x∈E0,0<=x/\x<=200000 by
    rw[<- hE0];intro x hx;rcases List.mem_cons.1 hx with rfl | hx
    ·exact hfb
    ·exact HEb.o i (zm _) x hx)
   rw[hE0] at Ho;have HTr2:=hI (show triesV j.p b fr k=E0++usesAfter j.p fst (j.T k).p.uses by rw[HTr.o,hE0]);generalize j.T k=t at HTr2 HTk HUs hul huc hul16 HUg c3;obtain⟨UA,hUA⟩:=eX t.UA;obtain⟨nu,hnu⟩:=eX t.p.uses.length;rw[hUA,hnu] at c3;rw[hUA] at HUs;rw[hnu] at hul hul16;have Hnu:=hI hnu;clear hbd hjn hE0 hUA hnu HTr HEb hTb;go_wp2
   go_quiet (fail)
   go_wp2;clear p0 v0 v1 c3;obtain⟨wa,rfl⟩:∃wa:World,wa=wr:=⟨_,rfl⟩
   go_loopw [6,58] (fun v6 v58 wr2=>∃q:Nat,q<=nu/\v58= .int .i64 q/\Hid (Bl W0 wr2)/\Hid (wr2.ownsRow W0.heap.size 3 1 v6 (E0++usesAfter j.p fst (t.p.uses.take q)).length ((E0++usesAfter j.p fst (t.p.uses.take q)).map (Value.int .i64)))) (fun _ v58 _=>nu-(intOf v58).toNat)
   case atStart=>exact⟨0,by omega,rfl,hI (zO Hb.o _),hI (by
    have h:=own_below Ho.o (zO (zX _ wa) nq)
    simpa [usesAfter] using h)⟩
   case round=>
    obtain⟨q,hq,rfl,Hb2,Ho2⟩:=hrel;have hsr2:=Hb2.o.size
    by_cases hlt2:q<nu
    ·have hql:q<t.p.uses.length:=by have:=Hnu.o;omega
     obtain⟨ub,uoff,hue,hub,hcells⟩:=(HUs.o _ Hb2.o) (by omega)
     subst hue;have c0:wr.cell? ⟨ub,uoff+q*2,none⟩=some (.int .i64 t.p.uses[q].res):=hcells q hql 0 _ rfl;have c1:wr.cell? ⟨ub,uoff+q*2+1,none⟩=some (.int .i64 t.p.uses[q].many):=hcells q hql 1 _ rfl;have hug:=HUg.o _ (zC hql);have HTq:=hI (show usesAfter j.p fst (t.p.uses.take (q+1))=usesAfter j.p fst (t.p.uses.take q)++offsAfter fst (j.p.res.getD t.p.uses[q].res.toNat default).off by rw[zK hql,usesAfter_snoc]);have hbl:=usesA_len HG.o fst (l:=t.p.uses.take q) (fun u hu=>by have:=HUg.o u (List.mem_of_mem_take hu);omega);rw[List.length_take] at hbl;have hbl2:(usesAfter j.p fst (t.p.uses.take q)).length<=256:=by omega
     generalize t.p.uses[q]=u at c0 c1 hug HTq;obtain⟨rn,hrn⟩:∃rn:Nat,u.res=rn:=⟨u.res.toNat,by omega⟩
     rw[hrn] at c0 hug HTq;rw[zZ,j.pR] at HTq;have hrl:rn<j.res.length:=by have:=hug.2.1;rw[j.nr] at this;omega
     clear hcells hbl hrn;obtain⟨W4,hW4⟩:=eY (wr.alloc (.cells #[.int .i64 (rn:Int),.int .i64 u.many] 48));have hs4:wr.heap.size+1<=W4.heap.size:=by rw[hW4];simp
     have HB4:=hI (show Bl W0 W4 by rw[hW4];exact Hb2.o.alloc hsr2 _);have r0:W4.cell? ⟨wr.heap.size,0,none⟩=some (.int .i64 (rn:Int)):=by rw[hW4];exact alloc_cell rfl
     have Ho4:=hI (own_below Ho2.o (show Bl wr W4 by rw[hW4];exact(zX _ _).alloc (zm _) _));go_upto_region 12 with fail;rw[<- hW4];clear hW4 c0 c1;obtain⟨hbd,hjn⟩:=HB.o W4 HB4.o;obtain⟨rb,roff,hRA,hrb⟩:=hjn.ra (by omega);obtain⟨_,_,c2⟩:=hjn.rcells hRA hrl;have p1:=kC 1 hbd.hg rfl;rw[hRA] at p1;have v0:=kC 0 (HX00.o W4 HB4.o) rfl;have HRs:=hI (fun(X:World) (hX:Bl W0 X)=>((HB.o X hX).2.rss _ (j.R_mem hrl)).os);have hol:=(hjn.rss _ (j.R_mem hrl)).ol;have hoc:=(hjn.rss _ (j.R_mem hrl)).oc;have hno:=HG.o.noff _ (j.Rp_mem hrl);have HOf:=hI (HG.o.off _ (j.Rp_mem hrl));generalize j.R rn=r at HTq c2 HRs hol hoc hno HOf;obtain⟨OA,hOA⟩:=eX r.OA;obtain⟨no,hnoe⟩:=eX r.p.off.length;rw[hOA,hnoe] at c2;rw[hOA] at HRs;rw[hnoe] at hol hno;have Hno:=hI hnoe;clear hbd hjn hOA hnoe hRA;go_wp2
     go_quiet (fail)
     go_wp2;clear p1 v0 c2 r0;obtain⟨F0,hF0⟩:=eX (E0++usesAfter j.p fst (t.p.uses.take q));rw[hF0] at Ho4;have hF0l:F0.length<=321:=by rw[<- hF0];simp;omega
     have HF0:=hI hF0;clear hF0;obtain⟨wb,rfl⟩:∃wb:World,wb=wr:=⟨_,rfl⟩
     go_loopw [6,73] (fun v6 v73 wr3=>∃z:Nat,z<=no/\v73= .int .i64 z/\Hid (Bl W0 wr3)/\Hid (wr3.ownsRow W0.heap.size 3 1 v6 (F0++offsAfter fst (r.p.off.take z)).length ((F0++offsAfter fst (r.p.off.take z)).map (Value.int .i64)))) (fun _ v73 _=>no-(intOf v73).toNat)
     case atStart=>exact⟨0,by omega,rfl,hI (zO HB4.o _),hI (by
      have h:=own_below Ho4.o (zO (zX _ W4) ‹_›)
      simpa [offsAfter] using h)⟩
     case round=>
      obtain⟨z,hz,rfl,Hb3,Ho3⟩:=hrel;have hsr3:=Hb3.o.size
      by_cases hlt3:z<no
      ·have hzl:z<r.p.off.length:=by have:=Hno.o;omega
       obtain⟨ob,ooff,hoe,hob,hcells⟩:=(HRs.o _ Hb3.o) (by omega)
       subst hoe;have c0:wr.cell? ⟨ob,ooff+z*2,none⟩=some (.int .i64 r.p.off[z].lo):=hcells z hzl 0 _ rfl;have c1:wr.cell? ⟨ob,ooff+z*2+1,none⟩=some (.int .i64 r.p.off[z].hi):=hcells z hzl 1 _ rfl;have hob3:=HOf.o _ (zC hzl);have HTz:=hI (show offsAfter fst (r.p.off.take (z+1))=offsAfter fst (r.p.off.take z)++(if fst<r.p.off[z].hi+1 then[r.p.off[z].hi+1] else[]) by rw[zK hzl,offsAfter_snoc]);have hol2:=offs_len fst (r.p.off.take z);rw[List.length_take] at hol2;have hol3:(offsAfter fst (r.p.off.take z)).length<=16:=by omega
       generalize r.p.off[z]=sp at c0 c1 hob3 HTz;obtain⟨W5,hW5⟩:=eY (wr.alloc (.cells #[.int .i64 sp.lo,.int .i64 sp.hi] 50));have hs5:wr.heap.size+1<=W5.heap.size:=by rw[hW5];simp
       have HB5:=hI (show Bl W0 W5 by rw[hW5];exact Hb3.o.alloc hsr3 _);have r1:W5.cell? ⟨wr.heap.size,1,none⟩=some (.int .i64 sp.hi):=by rw[hW5];exact alloc_cell rfl
       have Ho5:=hI (own_below Ho3.o (show Bl wr W5 by rw[hW5];exact(zX _ _).alloc (zm _) _));clear hcells hol2;go_upto_region 15 with fail;rw[<- hW5];clear hW5 c0 c1;cases h1:decide (fst<sp.hi+1)
       ·have HN:=hI (show offsAfter fst (r.p.off.take (z+1))=offsAfter fst (r.p.off.take z) by rw[HTz.o,if_neg (zH h1)];simp);go_wp2;go_roundw;case rel=>exact⟨z+1,by omega,by go_num,HB5,by rw[HN.o];exact Ho5⟩
        case measure=>simp[intOf];omega
       ·have HN:=hI (show(F0++offsAfter fst (r.p.off.take (z+1))).map (Value.int .i64)=(F0++offsAfter fst (r.p.off.take z)).map (Value.int .i64)++[.int .i64 (sp.hi+1)] by rw[HTz.o,if_pos (zI h1)];simp);have HL:=hI (show(F0++offsAfter fst (r.p.off.take (z+1))).length=(F0++offsAfter fst (r.p.off.take z)).length+1 by rw[HTz.o,if_pos (zI h1)];simp;omega);go_wp2_with (at_builtin;refine wpList_append1 rfl _ _ 26 rfl W0.heap.size 3 _ 1 8 elemI _ _ _ rfl Ho5.o #[.int .i64 (sp.hi+1)] 1 _ rfl (by simp) rfl (by simp[Value.oneCell']) (by simp;omega) (by omega) ?_;intro v6 w6 hown6 hb6 hsz6 hg6 hblk6;have Ho6:=hI hown6;have Hb6:=hI hb6;clear hown6 hb6 hsz6 hg6 hblk6);go_roundw;case rel=>exact⟨z+1,by omega,by go_num,hI (HB5.o.trans Hb6.o),by rw[HN.o,HL.o];exact Ho6⟩
        case measure=>simp[intOf];omega
      ·have HE:=hI (show F0++offsAfter fst (r.p.off.take z)=E0++usesAfter j.p fst (t.p.uses.take (q+1)) by rw[HTq.o,zG (by have:=Hno.o;omega),<-HF0.o,List.append_assoc]);rw[HE.o] at Ho3;go_wp2;go_roundw;case rel=>exact⟨q+1,by omega,by go_num,Hb3,Ho3⟩
       case measure=>simp[intOf];omega
    ·have HE:=hI (show E0++usesAfter j.p fst (t.p.uses.take q)=triesV j.p b fr k by rw[HTr2.o,zG (by have:=Hnu.o;omega)]);have hUl:=usesA_len HG.o fst (l:=t.p.uses.take q) (fun u hu=>by have:=HUg.o u (List.mem_of_mem_take hu);omega);rw[List.length_take] at hUl;have hTl:(triesV j.p b fr k).length<=321:=by rw[<- HE.o];simp only[zF];omega
     have hkj:k<j.tasks.length:=by have:=Hn.o;omega
     have hkp:k<j.p.tasks.length:=by rw[j.nt];exact hkj
     have HTb:=hI (tries_bd HG.o HS.o hfr hkp);have HPl:=hI (show placeV j.p b fr k=(sortI (triesV j.p b fr k)).find? (fitsV j.p b k) from rfl);have hT0:0<(triesV j.p b fr k).length:=by rw[HTr2.o];unfold triesV at HTr2;rw[<- HTr2.o];simp
     rw[HE.o] at Ho2;clear hUl;generalize triesV j.p b fr k=T at Ho2 hTl HTb HPl hT0;obtain⟨gA,cap,hv6,hgA,hgA2,hTc,hcap,_⟩:=owns_cells Ho2.o hT0;subst hv6;have HSo:=hI (sortInt_any T W0.heap.size gA cap wr Ho2.o (by omega));go_upto_region 20 with(go_at_call 130;refine HSo.o.mono ?_;rintro e w5 ⟨rfl,ho5,hg5⟩;have Ho5:=hI ho5;have Hb5:=hI (Hb2.o.grown hg5 hsr2 (fun k hk=>by cases hk;exact hgA));have hs5:=hg5.size;clear ho5 hg5)
     have hSl:(sortI T).length=T.length:=sortI_length T;have HSb:=hI (show ∀x∈sortI T,0<=x/\x<=200000 from fun x hx=>HTb.o x ((sortI_perm T).mem_iff.1 hx));generalize sortI T=S at HPl Ho5 hSl HSb;have hSlI:=sl_own2 (k:=1) (enc:=encInt1) (fun _=>rfl) (xs:=S) (A:=some ⟨gA,0,none⟩) (c:=cap) (base:=W0.heap.size) (e:=3) (w:=w5) (by rw[hSl,flat_int];exact Ho5.o);have HUW:=hI (show ∀X:World,Bl w5 X->Bl W0 X from fun X hX=>Hb5.o.trans (hX.mono (by omega)));have HI:=hI (idxPlace_any (fun x=>fitsV j.p b k x) (.pointer (some ⟨w.heap.size,0,none⟩)) (.pointer (some ⟨w.heap.size+1,0,none⟩)) S T.length hSl.symm (some ⟨gA,0,none⟩) cap w5.heap.size w5 hSlI (zm _) (by omega) (fun x hx W hW=>place1_any j b fr x k _ _ g sb pb B W (HB.o W (HUW.o W hW)).1 (HB.o W (HUW.o W hW)).2 (by have:=hW.size;omega) HG.o HS.o hkj (by have:=HSb.o x hx;omega) (kC 0 (HX00.o W (HUW.o W hW)) rfl) (kC 0 (HX01.o W (HUW.o W hW)) rfl)));clear hSlI
     by_cases hv:0<=idxB (fun x=>fitsV j.p b k x) S
     ·obtain⟨kk,hkk,hvk⟩:=idx_lt hv;have hp1:placeV j.p b fr k=some S[kk]:=by rw[HPl.o];exact find_hit hkk hvk
      have hsb:=place_bd HG.o HS.o hfr hkp hp1;have HR:=hI (show placeR j.p b fr k=(true,b.put k S[kk]) by unfold placeR;rw[hp1])
      have HCk:=hI (show ∀X:World,Bl w5 X->X.cell? ⟨gA,kk,none⟩=some (.int .i64 S[kk]) from fun X hX=>by
       have h1:=own_below Ho5.o hX;obtain⟨g9,c9,e9,_,_,_,_,h9⟩:=owns_cells h1 hT0;cases e9;have h10:=h9 kk (.int .i64 S[kk]) (by simp[hkk])
       rwa [Nat.zero_add] at h10)
      have hkl:kk<T.length:=by omega
      rw[hvk] at HI;generalize S[kk]=s at HR HCk hsb;clear hp1 hv hvk;go_upto_region 23 with(go_at_call 132;refine HI.o.mono ?_;rintro e w6 ⟨rfl,hb6⟩;have hs6:=hb6.size;have Hb6:=hI hb6;clear hb6)
      obtain⟨hbd,_⟩:=HB.o w6 (HUW.o _ Hb6.o);have p1:=zV (kC 2 hbd.hg rfl) (by omega);have v0:=zV (kC 0 (HX00.o w6 (HUW.o _ Hb6.o)) rfl) (by omega);have v1:=zV (kC 0 (HX01.o w6 (HUW.o _ Hb6.o)) rfl) (by omega);have v2:=zV (HCk.o w6 Hb6.o) (by omega);rw[Hn.o] at p1;have Hbd6:=hI hbd;clear hbd;refine wp_region_later_tail 10 (by kernel_rfl) (by kernel_rfl) ?_;simp only[List.take_succ_cons,List.take_zero,List.drop_succ_cons,List.drop_zero]
      repeat (any_goals (first | go_big_quiet_step ((fail)) | quiet_step ((fail))))
      refine wpQuiet_nil ?_;rintro w' ⟨e,rfl⟩;have HE6:=hI (show Bl W0 e.w from HUW.o _ (Hb6.o.trans (e.b.mono hs6)));have hse:=e.b.size;have Hbe:=hI (Hbd6.o.below e.b);generalize e.w=w7 at HE6 hse Hbe;clear p1 v0 v1 v2;have f0:=W7.bf (j:=k) Hbe.o.hs;have d0:=Hbe.o.st hkj;go_upto_region 24 with fail;obtain⟨X1,hX1⟩:=eY (w7.setCell ⟨sb,k,none⟩ (.int .i64 s));have Hb1:=hI (show BdIn X1 g sb pb j ⟨b.st.set k s,b.pl⟩ fr by rw[hX1];exact Hbe.o.putS Hne.o.1 Hne.o.2.2);have HK1:=hI (show Kept2 w X1 sb pb by rw[hX1];exact(Kept2.of_below (HU0.o _ HE6.o)).trans (Kept2.setL _ _ _ _ _));have hs1:w.heap.size<X1.heap.size:=by rw[hX1];simp[World.setCell];omega
      have hv0:X1.cell? ⟨w.heap.size,0,none⟩=some (.pointer (some ⟨g,0,none⟩)):=by
       have h:=blk_set_ne (X:=w7) (g:=w.heap.size) (b:=sb) (j:=k) (by omega) (.int .i64 s);rw[<- hX1] at h;exact kC 0 (h.trans (HX00.o _ HE6.o)) rfl
      have hv1:X1.cell? ⟨w.heap.size+1,0,none⟩=some (.int .i64 (k:Int)):=by
       have h:=blk_set_ne (X:=w7) (g:=w.heap.size+1) (b:=sb) (j:=k) (by omega) (.int .i64 s);rw[<- hX1] at h;exact kC 0 (h.trans (HX01.o _ HE6.o)) rfl
      have hs2:w.heap.size+1<X1.heap.size:=by rw[hX1];simp[World.setCell];omega
      rw[<- hX1];clear hX1 f0 d0;have p1:=zV (kC 3 Hb1.o.hg rfl) (by omega);rw[Hn.o] at p1;have v0:=zV hv0 (by omega);have v1:=zV hv1 (by omega);clear hv0 hv1;refine wp_region_later_tail 6 (by kernel_rfl) (by kernel_rfl) ?_;simp only[List.take_succ_cons,List.take_zero,List.drop_succ_cons,List.drop_zero]
      repeat (any_goals (first | go_big_quiet_step ((fail)) | quiet_step ((fail))))
      refine wpQuiet_nil ?_;rintro w' ⟨e,rfl⟩;have Hb2:=hI (Hb1.o.below e.b);have HK2:=hI (HK1.o.trans (Kept2.of_below e.b));generalize e.w=w8 at Hb2 HK2;clear p1 v0 v1;have f0:=W7.bf (j:=k) Hb2.o.hp;have d0:=Hb2.o.pl hkj;go_wp2;go_ret;rw[HR.o];exact⟨rfl,HK2.o.trans (Kept2.setR _ _ _ _ _),Hb2.o.putP Hne.o.2.1 Hne.o.2.2⟩
     ·have hp0:placeV j.p b fr k=none:=by rw[HPl.o];exact find_no hv
      have HR:=hI (show placeR j.p b fr k=(false,b) by unfold placeR;rw[hp0]);generalize idxB (fun x=>fitsV j.p b k x) S=iv at hv HI;clear hp0;go_wp2_with (go_at_call 132;refine HI.o.mono ?_;rintro e w6 ⟨rfl,hb6⟩;have Hb6:=hI hb6;clear hb6);go_ret;rw[HR.o];exact⟨rfl,Kept2.of_below (HU0.o _ (HUW.o _ Hb6.o)),(HB.o _ (HUW.o _ Hb6.o)).1⟩
end Go.Proofs.YtjpgnfekbojcaaaGreat
