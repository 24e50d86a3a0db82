/- The specification's spans with one more (off). -/
import Derived.Test.YtjpgnfekbojcaaaGreatWFls0
set_option maxHeartbeats 8000000
set_option maxRecDepth 100000
namespace W8
open W7
theorem offGo_before {s x:JSpan} {l out:List JSpan} {p:Bool} (h:s.hi+1<x.lo):offGo (s::l) out p x=offGo l (out++[s]) p x:=by simp only[offGo];rw[if_pos h]
theorem offGo_behind {s x:JSpan} {l out:List JSpan} {p:Bool} (h: ¬s.hi+1<x.lo) (h2:x.hi+1<s.lo):offGo (s::l) out p x=offGo l ((if p then out else out++[x])++[s]) true x:=by simp only[offGo];rw[if_neg h,if_pos h2]
theorem offGo_over {s x:JSpan} {l out:List JSpan} {p:Bool} (h: ¬s.hi+1<x.lo) (h2: ¬x.hi+1<s.lo):offGo (s::l) out p x=offGo l out p ⟨min x.lo s.lo,max x.hi s.hi⟩:=by simp only[offGo];rw[if_neg h,if_neg h2]
end W8
namespace Go.Proofs.YtjpgnfekbojcaaaGreat
open Go.RowKit W7 W8
attribute [local go_sem] Oper.semAt_some
theorem refOff_any (l:List JSpan) (x:JSpan) (A:Option Addr) (n c B:Nat) (w:World) (hn:n=l.length) (hA:Sl w B 2 encJSpan A l) (hB:B<=w.heap.size) (hn1:n<=1000) (hb:∀s∈x::l,0<=s.lo/\s.lo<=1000000/\0<=s.hi/\s.hi<=1000000) :
  Calls Tryz.prog 78 #[.slice A n c,.agg #[.int .i64 x.lo,.int .i64 x.hi]] w fun e w'=>∃v,e= .returned v/\w'.ownsRow w.heap.size 50 2 v (offV l x).length ((offV l x).flatMap encJSpan)/\Bl w w':=by
 have hmx:=max_run Tryz.prog;have hmn:=min_run Tryz.prog;obtain⟨W0,hW0⟩:∃W0,W0=w.alloc (.cells #[.int .i64 x.lo,.int .i64 x.hi] 50):=⟨_,rfl⟩
 have hs0:W0.heap.size=w.heap.size+1:=by rw[hW0];simp
 have HB0:=hI (show Bl w W0 by rw[hW0];exact(Below.refl _ _).alloc (Nat.le_refl _) _);have HX0:=hI (show W0.heap[w.heap.size]? =some (.cells #[.int .i64 x.lo,.int .i64 x.hi] 50 (0,0)) by rw[hW0];exact heap_alloc_new _ _);have HA:=hI hA;have Hn:=hI hn;have HBd:=hI (show ∀s∈l,0<=s.lo/\s.lo<=1000000/\0<=s.hi/\s.hi<=1000000 from fun s hs=>hb s (List.mem_cons_of_mem _ hs));have HXb:=hI (hb x (List.mem_cons_self ..));have HJ:=hI (show offGo (l.drop 0) [] false x=offV l x by rw[List.drop_zero];rfl);generalize offV l x=J at HJ;have HW0:=hI hW0;clear hA hn hb hW0;go_enter Tryz.func78,Tryz.ntmps78;go_upto_region 1 with fail;rw[<- HW0.o];go_wp2
 go_loopw [5,6,7] (fun v5 v6 v7 wr=>∃(i:Nat) (out:List JSpan) (p:Bool) (y:JSpan),i<=n/\out.length<=2*i/\v7= .int .i64 i/\v6= .bool p/\Hid (wr.ownsRow W0.heap.size 50 2 v5 out.length (out.flatMap encJSpan))/\Hid (wr.heap[w.heap.size]? =some (.cells #[.int .i64 y.lo,.int .i64 y.hi] 50 (0,0)))/\Hid (offGo (l.drop i) out p y=J)/\Hid (0<=y.lo/\y.lo<=1000000/\0<=y.hi/\y.hi<=1000000)/\Hid (Bl w wr)/\Hid (W0.heap.size<=wr.heap.size)) (fun _ _ v7 _=>n-(intOf v7).toNat);case atStart=>exact⟨0,[],false,x,by omega,by simp,rfl,rfl,hI (World.ownsRow_nil _ _ _ _),HX0,HJ,HXb,HB0,hI (Nat.le_refl _)⟩
 case round=>
  obtain⟨i,out,p,y,hi,hol,rfl,rfl,Ho,Hx,HG,Hyb,Hb,Hsz⟩:=hrel;have hsz:=Hsz.o;obtain⟨A5,c5,rfl,q1,q2⟩:=own_cap' Ho.o
  by_cases hlt:i<n
  ·have hil:i<l.length:=by have:=Hn.o;omega
   obtain⟨ab,aoff,hAe,hab,hac⟩:=(HA.o.below (Hb.o.mono hB)) (by omega)
   have c0:=hac i hil 0 _ rfl;have c1:=hac i hil 1 _ rfl;rw[Nat.add_zero] at c0;have hsb:=HBd.o _ (List.getElem_mem hil);have HDr:=hI (show l.drop i=l[i]::l.drop (i+1) from List.drop_eq_getElem_cons hil);have hyb:=Hyb.o;subst hAe;clear hac;generalize l[i]=s at c0 c1 hsb HDr;obtain⟨sl,sh⟩:=s;obtain⟨yl,yh⟩:=y;rw[HDr.o] at HG;simp only at c0 c1 hsb hyb;have hx:=Hx.o;simp only at hx;have y0:=bc (j:=0) hx rfl;have y1:=bc (j:=1) hx rfl;have Hsb:=hI hsb;have hbw:w.heap.size<wr.heap.size:=by omega
   have haw:ab<wr.heap.size:=by omega
   clear hx HDr;cases h1:decide (sh+1<yl);rotate_left
   ·have HN:=hI ((offGo_before (p:=p) (l:=l.drop (i+1)) (out:=out) (s:=⟨sl,sh⟩) (x:=⟨yl,yh⟩) (of_decide_eq_true h1)).symm.trans HG.o);go_wp2
    go_quiet (fail)
    go_wp2_with (at_builtin;refine wpList_append1 rfl _ _ 41 rfl W0.heap.size 50 _ 2 16 elemP _ _ _ rfl (own_below Ho.o (below_drewN (Below.refl _ _) _)) #[.int .i64 sl,.int .i64 sh] 1 _ rfl (by simp) rfl (by simp[Value.oneCell']) (by omega) (by first | omega | (simp;omega)) ?_;intro v8 w8 hown8 hb8 hsz8 hg8 hblk8;have Ho8:=hI hown8;have Hb8:=hI hb8;have hs8:=hsz8;clear hown8 hb8 hsz8 hg8 hblk8);have hs9:wr.heap.size<w8.heap.size:=hs8;go_roundw;case rel=>exact⟨i+1,out++[⟨sl,sh⟩],p,⟨yl,yh⟩,by omega,by simp;omega,by go_num,rfl,hI (by rw[spans_snoc,List.length_append];exact Ho8.o),hI ((Hb8.o.block _ (by omega)).trans Hx.o),HN,Hyb,hI ((below_drewN (B:=w.heap.size) Hb.o _).trans (Hb8.o.mono (by omega))),hI (by omega)⟩
    case measure=>simp[intOf];omega
   cases h2:decide (yh+1<sl);rotate_left
   ·have HN:=hI ((offGo_behind (p:=p) (l:=l.drop (i+1)) (out:=out) (s:=⟨sl,sh⟩) (x:=⟨yl,yh⟩) (of_decide_eq_false h1) (of_decide_eq_true h2)).symm.trans HG.o);cases p
    ·go_wp2
     go_quiet (fail)
     go_wp2
     go_quiet (fail)
     go_upto_region 12 with(at_builtin;refine wpList_append1 rfl _ _ 41 rfl W0.heap.size 50 _ 2 16 elemP _ _ _ rfl (own_below Ho.o (below_drewN (Below.refl _ _) _)) #[.int .i64 yl,.int .i64 yh] 1 _ rfl (by simp) rfl (by simp[Value.oneCell']) (by omega) (by first | omega | (simp;omega)) ?_;intro v8 w8 hown8 hb8 hsz8 hg8 hblk8;obtain⟨A8,c8,rfl,q8,q9⟩:=own_cap' hown8;have Ho8:=hI hown8;have Hb8:=hI ((below_drewN (B:=w.heap.size) Hb.o _).trans (hb8.mono (by omega)));have c0:=(hb8.cell (p:=⟨ab,aoff+i*2,none⟩) (by simp;omega)).trans c0;have c1:=(hb8.cell (p:=⟨ab,aoff+i*2+1,none⟩) (by simp;omega)).trans c1;have Hx8:=hI ((hb8.block _ (by omega)).trans Hx.o);have hs8:wr.heap.size<w8.heap.size:=hsz8;clear hown8 hb8 hsz8 hg8 hblk8)
     go_wp2_with (at_builtin;refine wpList_append1 rfl _ _ 41 rfl W0.heap.size 50 _ 2 16 elemP _ _ _ rfl Ho8.o #[.int .i64 sl,.int .i64 sh] 1 _ rfl (by simp) rfl (by simp[Value.oneCell']) (by omega) (by first | omega | (simp;omega)) ?_;intro v9 w9 hown9 hb9 hsz9 hg9 hblk9;have Ho9:=hI hown9;have Hb9:=hI hb9;have hs9:=hsz9;clear hown9 hb9 hsz9 hg9 hblk9);go_roundw;case rel=>exact⟨i+1,out++[⟨yl,yh⟩]++[⟨sl,sh⟩],true,⟨yl,yh⟩,by omega,by simp;omega,by go_num,rfl,hI (by rw[spans_snoc,spans_snoc,List.length_append,List.length_append];exact Ho9.o),hI ((Hb9.o.block _ (by omega)).trans Hx8.o),HN,Hyb,hI (Hb8.o.trans (Hb9.o.mono (by omega))),hI (by omega)⟩
     case measure=>simp[intOf];omega
    ·go_wp2
     go_quiet (fail)
     go_wp2
     go_quiet (fail)
     go_wp2_with (at_builtin;refine wpList_append1 rfl _ _ 41 rfl W0.heap.size 50 _ 2 16 elemP _ _ _ rfl (own_below Ho.o (below_drewN (Below.refl _ _) _)) #[.int .i64 sl,.int .i64 sh] 1 _ rfl (by simp) rfl (by simp[Value.oneCell']) (by omega) (by first | omega | (simp;omega)) ?_;intro v8 w8 hown8 hb8 hsz8 hg8 hblk8;have Ho8:=hI hown8;have Hb8:=hI hb8;have hs8:=hsz8;clear hown8 hb8 hsz8 hg8 hblk8);have hs9:wr.heap.size<w8.heap.size:=hs8;go_roundw;case rel=>exact⟨i+1,out++[⟨sl,sh⟩],true,⟨yl,yh⟩,by omega,by simp;omega,by go_num,rfl,hI (by rw[spans_snoc,List.length_append];exact Ho8.o),hI ((Hb8.o.block _ (by omega)).trans Hx.o),HN,Hyb,hI ((below_drewN (B:=w.heap.size) Hb.o _).trans (Hb8.o.mono (by omega))),hI (by omega)⟩
     case measure=>simp[intOf];omega
   ·have HN:=hI ((offGo_over (p:=p) (l:=l.drop (i+1)) (out:=out) (s:=⟨sl,sh⟩) (x:=⟨yl,yh⟩) (of_decide_eq_false h1) (of_decide_eq_false h2)).symm.trans HG.o);go_wp2
    go_quiet (fail)
    go_wp2
    go_quiet (fail)
    go_wp2;have HbX:=hI (fun k m=>below_drewN (B:=w.heap.size) (below_drewN (B:=w.heap.size) Hb.o k) m);have HoX:=hI (fun k m=>own_below Ho.o (below_drewN (B:=wr.heap.size) (below_drewN (B:=wr.heap.size) (Below.refl _ wr) k) m));generalize hWX:World.drewN (World.drewN wr _) _=WX;have hBX:Hid (Bl w WX):=hI (by rw[<- hWX];exact HbX.o _ _);have hOX:Hid (WX.ownsRow W0.heap.size 50 2 (.slice A5 out.length c5) out.length (out.flatMap encJSpan)):=hI (by rw[<- hWX];exact HoX.o _ _);have hxX:WX.heap[w.heap.size]? =some (.cells #[.int .i64 yl,.int .i64 yh] 50 (0,0)):=by rw[<- hWX];exact Hx.o
    have hc0:WX.cell? ⟨ab,aoff+i*2,none⟩=some (.int .i64 sl):=by rw[<- hWX];exact c0
    have hc1:WX.cell? ⟨ab,aoff+i*2+1,none⟩=some (.int .i64 sh):=by rw[<- hWX];exact c1
    have hsX:wr.heap.size=WX.heap.size:=by rw[<- hWX];rfl
    have m0:=later_cell (bc (j:=0) hxX rfl) (by omega);have m1:=later_cell (bc (j:=1) hxX rfl) (by omega);have m2:=later_cell hc0 (by omega);have m3:=later_cell hc1 (by omega);have m4:=later_free (W7.bf (j:=0) hxX) (by omega);have m5:=later_free (W7.bf (j:=1) hxX) (by omega);have HX:=hI hxX;clear hWX HbX HoX c0 c1 y0 y1 hxX hc0 hc1;refine wp_region_later_tail 17 (by kernel_rfl) (by kernel_rfl) ?_;simp only[List.take_succ_cons,List.take_zero,List.drop_succ_cons,List.drop_zero]
    repeat (any_goals (first | go_big_quiet_step ((fail)) | quiet_step ((fail))))
    refine wpQuiet_nil ?_;rintro w' ⟨e,rfl⟩;have HxE:=hI ((e.b.block _ (by omega)).trans HX.o);have HbE:=hI ((hBX.out.trans (e.b.mono (by omega))).setCell (p:=⟨w.heap.size,0,none⟩) (Nat.le_refl _) (.int .i64 (min yl sl)));have HoE:=hI (own_below hOX.out e.b);go_wp2;go_roundw;case rel=>exact⟨i+1,out,p,⟨min yl sl,max yh sh⟩,by omega,by omega,by go_num,rfl,hI (ownsRow_setCell_below (ownsRow_setCell_below HoE.o (show w.heap.size<W0.heap.size by omega) _) (show w.heap.size<W0.heap.size by omega) _),hI (by rw[blk_set (blk_set HxE.o _)];rfl),HN,hI (by have:=Hsb.o;simp only;omega),hI (HbE.o.setCell (p:=⟨w.heap.size,1,none⟩) (Nat.le_refl _) _),hI (by have:=e.b.size;simp[World.setCell];omega)⟩
    case measure=>simp[intOf];omega
  ·have HE:=hI (show(if p then out else out++[y])=J by rw[<- HG.o,List.drop_of_length_le (by have:=Hn.o;omega)];rfl);have y0:=bc (j:=0) Hx.o rfl;have y1:=bc (j:=1) Hx.o rfl;cases p
   ·go_wp2_with (at_builtin;refine wpList_append1 rfl _ _ 41 rfl W0.heap.size 50 _ 2 16 elemP _ _ _ rfl Ho.o #[.int .i64 y.lo,.int .i64 y.hi] 1 _ rfl (by simp) rfl (by simp[Value.oneCell']) (by omega) (by first | omega | (simp;omega)) ?_;intro v8 w8 hown8 hb8 hsz8 hg8 hblk8;have Ho8:=hI hown8;have Hb8:=hI hb8;clear hown8 hb8 hsz8 hg8 hblk8);go_ret;have he:out++[y]=J:=by have h:=HE.o;simpa using h
    exact⟨_,rfl,by rw[<- he,spans_snoc,List.length_append];exact own_mono Ho8.o (by omega),Hb.o.trans (Hb8.o.mono (by omega))⟩
   ·go_wp2;go_ret;have he:out=J:=by have h:=HE.o;simpa using h
    exact⟨_,rfl,by rw[<- he];exact own_mono Ho.o (by omega),Hb.o⟩
end Go.Proofs.YtjpgnfekbojcaaaGreat
