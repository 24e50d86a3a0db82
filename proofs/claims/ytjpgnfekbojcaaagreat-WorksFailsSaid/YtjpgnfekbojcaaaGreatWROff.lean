/- The specification's spans with one more (off). -/
import Derived.Test.YtjpgnfekbojcaaaGreatWFls0
import Derived.Test.YtjpgnfekbojcaaaGreatWQue2
set_option maxHeartbeats 8000000
set_option maxRecDepth 100000
namespace W8
open W7
theorem offGo_before {s x:JSpan} {l out:List JSpan} {p:Bool} (h:s.hi+1<x.lo):offGo (s::l) out p x=offGo l (out++[s]) p x:=by simp only[offGo];rw[if_pos h]
theorem offGo_behind {s x:JSpan} {l out:List JSpan} {p:Bool} (h: ¬s.hi+1<x.lo) (h2:x.hi+1<s.lo):offGo (s::l) out p x=offGo l ((if p then out else out++[x])++[s]) true x:=by simp only[offGo];rw[if_neg h,if_pos h2]
theorem offGo_over {s x:JSpan} {l out:List JSpan} {p:Bool} (h: ¬s.hi+1<x.lo) (h2: ¬x.hi+1<s.lo):offGo (s::l) out p x=offGo l out p ⟨min x.lo s.lo,max x.hi s.hi⟩:=by simp only[offGo];rw[if_neg h,if_neg h2]
end W8
namespace Go.Proofs.YtjpgnfekbojcaaaGreat
open Go.RowKit W7 W8
attribute [local go_sem] Oper.semAt_some
theorem refOff_any (l:List JSpan) (x:JSpan) (A:Option Addr) (n c B:Nat) (w:World) (hn:n=l.length) (hA:Sl w B 2 encJSpan A l) (hB:B<=w.heap.size) (hn1:n<=1000) (hb:∀s∈x::l,0<=s.lo/\s.lo<=1000000/\0<=s.hi/\s.hi<=1000000) :
  Calls Tryz.prog 78 #[.slice A n c,.agg #[.int .i64 x.lo,.int .i64 x.hi]] w fun e w'=>∃v,e= .returned v/\w'.ownsRow w.heap.size 50 2 v (offV l x).length ((offV l x).flatMap encJSpan)/\Bl w w':=by
 have hmx:=max_run Tryz.prog;have hmn:=min_run Tryz.prog;obtain⟨W0,hW0⟩:=eY (w.alloc (.cells #[.int .i64 x.lo,.int .i64 x.hi] 50));have hs0:W0.heap.size=w.heap.size+1:=by rw[hW0];simp
 have HB0:=hI (show Bl w W0 by rw[hW0];exact(zX _ _).alloc (zm _) _);have HX0:=hI (show W0.heap[w.heap.size]? =some (.cells #[.int .i64 x.lo,.int .i64 x.hi] 50 (0,0)) by rw[hW0];exact zW _ _);have HA:=hI hA;have Hn:=hI hn;have HBd:=hI (show ∀s∈l,0<=s.lo/\s.lo<=1000000/\0<=s.hi/\s.hi<=1000000 from fun s hs=>hb s (zQ _ hs));have HXb:=hI (hb x (zL ..));have HJ:=hI (show offGo (l.drop 0) [] false x=offV l x by rw[List.drop_zero];rfl);generalize offV l x=J at HJ;have HW0:=hI hW0;clear hA hn hb hW0;go_enter Tryz.func78,Tryz.ntmps78;go_upto_region 1 with fail;rw[<- HW0.o];go_wp2
 go_loopw [5,6,7] (fun v5 v6 v7 wr=>∃(i:Nat) (out:List JSpan) (p:Bool) (y:JSpan),i<=n/\out.length<=2*i/\v7= .int .i64 i/\v6= .bool p/\Hid (wr.ownsRow W0.heap.size 50 2 v5 out.length (out.flatMap encJSpan))/\Hid (wr.heap[w.heap.size]? =some (.cells #[.int .i64 y.lo,.int .i64 y.hi] 50 (0,0)))/\Hid (offGo (l.drop i) out p y=J)/\Hid (0<=y.lo/\y.lo<=1000000/\0<=y.hi/\y.hi<=1000000)/\Hid (Bl w wr)/\Hid (W0.heap.size<=wr.heap.size)) (fun _ _ v7 _=>n-(intOf v7).toNat);case atStart=>exact⟨0,[],false,x,by omega,by simp,rfl,rfl,hI (zU _ _ _ _),HX0,HJ,HXb,HB0,hI (zm _)⟩
 case round=>
  obtain⟨i,out,p,y,hi,hol,rfl,rfl,Ho,Hx,HG,Hyb,Hb,Hsz⟩:=hrel;have hsz:=Hsz.o;obtain⟨A5,c5,rfl,q1,q2⟩:=own_cap' Ho.o
  by_cases hlt:i<n
  ·have hil:i<l.length:=by have:=Hn.o;omega
   obtain⟨ab,aoff,hAe,hab,hac⟩:=(HA.o.below (Hb.o.mono hB)) (by omega)
   have c0:=hac i hil 0 _ rfl;have c1:=hac i hil 1 _ rfl;rw[Nat.add_zero] at c0;have hsb:=HBd.o _ (zC hil);have HDr:=hI (show l.drop i=l[i]::l.drop (i+1) from List.drop_eq_getElem_cons hil);have hyb:=Hyb.o;subst hAe;clear hac;generalize l[i]=s at c0 c1 hsb HDr;obtain⟨sl,sh⟩:=s;obtain⟨yl,yh⟩:=y;rw[HDr.o] at HG;simp only at c0 c1 hsb hyb;have hx:=Hx.o;simp only at hx;have y0:=kC 0 hx rfl;have y1:=kC 1 hx rfl;have Hsb:=hI hsb;have hbw:w.heap.size<wr.heap.size:=by omega
   have haw:ab<wr.heap.size:=by omega
   clear hx HDr;cases h1:decide (sh+1<yl);rotate_left
   ·have HN:=hI ((offGo_before (p:=p) (l:=l.drop (i+1)) (out:=out) (s:=⟨sl,sh⟩) (x:=⟨yl,yh⟩) (zI h1)).symm.trans HG.o);go_wp2
    go_quiet (fail)
    go_wp2_with (at_builtin;refine wpList_append1 rfl _ _ 41 rfl W0.heap.size 50 _ 2 16 elemP _ _ _ rfl (own_below Ho.o (zO (zX _ _) _)) #[.int .i64 sl,.int .i64 sh] 1 _ rfl (by simp) rfl (by simp[Value.oneCell']) (by omega) (by first | omega | (simp;omega)) ?_;intro v8 w8 hown8 hb8 hsz8 hg8 hblk8;have Ho8:=hI hown8;have Hb8:=hI hb8;have hs8:=hsz8;clear hown8 hb8 hsz8 hg8 hblk8);have hs9:wr.heap.size<w8.heap.size:=hs8;go_roundw;case rel=>exact⟨i+1,out++[⟨sl,sh⟩],p,⟨yl,yh⟩,by omega,by simp;omega,by go_num,rfl,hI (by rw[spans_snoc,zF];exact Ho8.o),hI ((Hb8.o.block _ (by omega)).trans Hx.o),HN,Hyb,hI ((zO (B:=w.heap.size) Hb.o _).trans (Hb8.o.mono (by omega))),hI (by omega)⟩
    case measure=>simp[intOf];omega
   cases h2:decide (yh+1<sl);rotate_left
   ·have HN:=hI ((offGo_behind (p:=p) (l:=l.drop (i+1)) (out:=out) (s:=⟨sl,sh⟩) (x:=⟨yl,yh⟩) (zH h1) (zI h2)).symm.trans HG.o);cases p
    ·go_wp2
     go_quiet (fail)
     go_wp2
     go_quiet (fail)
     go_upto_region 12 with(at_builtin;refine wpList_append1 rfl _ _ 41 rfl W0.heap.size 50 _ 2 16 elemP _ _ _ rfl (own_below Ho.o (zO (zX _ _) _)) #[.int .i64 yl,.int .i64 yh] 1 _ rfl (by simp) rfl (by simp[Value.oneCell']) (by omega) (by first | omega | (simp;omega)) ?_;intro v8 w8 hown8 hb8 hsz8 hg8 hblk8;obtain⟨A8,c8,rfl,q8,q9⟩:=own_cap' hown8;have Ho8:=hI hown8;have Hb8:=hI ((zO (B:=w.heap.size) Hb.o _).trans (hb8.mono (by omega)));have c0:=(hb8.cell (p:=⟨ab,aoff+i*2,none⟩) (by simp;omega)).trans c0;have c1:=(hb8.cell (p:=⟨ab,aoff+i*2+1,none⟩) (by simp;omega)).trans c1;have Hx8:=hI ((hb8.block _ (by omega)).trans Hx.o);have hs8:wr.heap.size<w8.heap.size:=hsz8;clear hown8 hb8 hsz8 hg8 hblk8)
     go_wp2_with (at_builtin;refine wpList_append1 rfl _ _ 41 rfl W0.heap.size 50 _ 2 16 elemP _ _ _ rfl Ho8.o #[.int .i64 sl,.int .i64 sh] 1 _ rfl (by simp) rfl (by simp[Value.oneCell']) (by omega) (by first | omega | (simp;omega)) ?_;intro v9 w9 hown9 hb9 hsz9 hg9 hblk9;have Ho9:=hI hown9;have Hb9:=hI hb9;have hs9:=hsz9;clear hown9 hb9 hsz9 hg9 hblk9);go_roundw;case rel=>exact⟨i+1,out++[⟨yl,yh⟩]++[⟨sl,sh⟩],true,⟨yl,yh⟩,by omega,by simp;omega,by go_num,rfl,hI (by rw[spans_snoc,spans_snoc,zF,zF];exact Ho9.o),hI ((Hb9.o.block _ (by omega)).trans Hx8.o),HN,Hyb,hI (Hb8.o.trans (Hb9.o.mono (by omega))),hI (by omega)⟩
     case measure=>simp[intOf];omega
    ·go_wp2
     go_quiet (fail)
     go_wp2
     go_quiet (fail)
     go_wp2_with (at_builtin;refine wpList_append1 rfl _ _ 41 rfl W0.heap.size 50 _ 2 16 elemP _ _ _ rfl (own_below Ho.o (zO (zX _ _) _)) #[.int .i64 sl,.int .i64 sh] 1 _ rfl (by simp) rfl (by simp[Value.oneCell']) (by omega) (by first | omega | (simp;omega)) ?_;intro v8 w8 hown8 hb8 hsz8 hg8 hblk8;have Ho8:=hI hown8;have Hb8:=hI hb8;have hs8:=hsz8;clear hown8 hb8 hsz8 hg8 hblk8);have hs9:wr.heap.size<w8.heap.size:=hs8;go_roundw;case rel=>exact⟨i+1,out++[⟨sl,sh⟩],true,⟨yl,yh⟩,by omega,by simp;omega,by go_num,rfl,hI (by rw[spans_snoc,zF];exact Ho8.o),hI ((Hb8.o.block _ (by omega)).trans Hx.o),HN,Hyb,hI ((zO (B:=w.heap.size) Hb.o _).trans (Hb8.o.mono (by omega))),hI (by omega)⟩
     case measure=>simp[intOf];omega
   ·have HN:=hI ((offGo_over (p:=p) (l:=l.drop (i+1)) (out:=out) (s:=⟨sl,sh⟩) (x:=⟨yl,yh⟩) (zH h1) (zH h2)).symm.trans HG.o);go_wp2
    go_quiet (fail)
    go_wp2
    go_quiet (fail)
    go_wp2;have HbX:=hI (fun k m=>zO (B:=w.heap.size) (zO (B:=w.heap.size) Hb.o k) m);have HoX:=hI (fun k m=>own_below Ho.o (zO (B:=wr.heap.size) (zO (B:=wr.heap.size) (zX _ wr) k) m));generalize hWX:World.drewN (World.drewN wr _) _=WX;have hBX:Hid (Bl w WX):=hI (by rw[<- hWX];exact HbX.o _ _);have hOX:Hid (WX.ownsRow W0.heap.size 50 2 (.slice A5 out.length c5) out.length (out.flatMap encJSpan)):=hI (by rw[<- hWX];exact HoX.o _ _);have hxX:WX.heap[w.heap.size]? =some (.cells #[.int .i64 yl,.int .i64 yh] 50 (0,0)):=by rw[<- hWX];exact Hx.o
    have hc0:WX.cell? ⟨ab,aoff+i*2,none⟩=some (.int .i64 sl):=by rw[<- hWX];exact c0
    have hc1:WX.cell? ⟨ab,aoff+i*2+1,none⟩=some (.int .i64 sh):=by rw[<- hWX];exact c1
    have hsX:wr.heap.size=WX.heap.size:=by rw[<- hWX];rfl
    have m0:=zV (kC 0 hxX rfl) (by omega);have m1:=zV (kC 1 hxX rfl) (by omega);have m2:=zV hc0 (by omega);have m3:=zV hc1 (by omega);have m4:=later_free (kF 0 hxX) (by omega);have m5:=later_free (kF 1 hxX) (by omega);have HX:=hI hxX;clear hWX HbX HoX c0 c1 y0 y1 hxX hc0 hc1;refine wp_region_later_tail 17 (by kernel_rfl) (by kernel_rfl) ?_;simp only[List.take_succ_cons,List.take_zero,List.drop_succ_cons,List.drop_zero]
    repeat (any_goals (first | go_big_quiet_step ((fail)) | quiet_step ((fail))))
    refine wpQuiet_nil ?_;rintro w' ⟨e,rfl⟩;have HxE:=hI ((e.b.block _ (by omega)).trans HX.o);have HbE:=hI ((hBX.out.trans (e.b.mono (by omega))).setCell (p:=⟨w.heap.size,0,none⟩) (zm _) (.int .i64 (min yl sl)));have HoE:=hI (own_below hOX.out e.b);go_wp2;go_roundw;case rel=>exact⟨i+1,out,p,⟨min yl sl,max yh sh⟩,by omega,by omega,by go_num,rfl,hI (ownsRow_setCell_below (ownsRow_setCell_below HoE.o (show w.heap.size<W0.heap.size by omega) _) (show w.heap.size<W0.heap.size by omega) _),hI (by rw[blk_set (blk_set HxE.o _)];rfl),HN,hI (by have:=Hsb.o;simp only;omega),hI (HbE.o.setCell (p:=⟨w.heap.size,1,none⟩) (zm _) _),hI (by have:=e.b.size;simp[World.setCell];omega)⟩
    case measure=>simp[intOf];omega
  ·have HE:=hI (show(if p then out else out++[y])=J by rw[<- HG.o,List.drop_of_length_le (by have:=Hn.o;omega)];rfl);have y0:=kC 0 Hx.o rfl;have y1:=kC 1 Hx.o rfl;cases p
   ·go_wp2_with (at_builtin;refine wpList_append1 rfl _ _ 41 rfl W0.heap.size 50 _ 2 16 elemP _ _ _ rfl Ho.o #[.int .i64 y.lo,.int .i64 y.hi] 1 _ rfl (by simp) rfl (by simp[Value.oneCell']) (by omega) (by first | omega | (simp;omega)) ?_;intro v8 w8 hown8 hb8 hsz8 hg8 hblk8;have Ho8:=hI hown8;have Hb8:=hI hb8;clear hown8 hb8 hsz8 hg8 hblk8);go_ret;have he:out++[y]=J:=by have h:=HE.o;simpa using h
    exact⟨_,rfl,by rw[<- he,spans_snoc,zF];exact own_mono Ho8.o (by omega),Hb.o.trans (Hb8.o.mono (by omega))⟩
   ·go_wp2;go_ret;have he:out=J:=by have h:=HE.o;simpa using h
    exact⟨_,rfl,by rw[<- he];exact own_mono Ho.o (by omega),Hb.o⟩
theorem SrIn.keptS {X Y:World} {d:SrD} {l:Line} {tab:List (List TCall)} {stops:List Int} {S:Nat->Prop} (h:SrIn X d l tab stops) (g:KeptS X Y S) (hS:∀i,S i->d.B<=i/\Alien X i):SrIn Y d l tab stops:=by
 have hne:∀(i:Nat) (o:Obj),X.heap[i]? =some o->(∀cs T,o=Obj.cells cs T (0,0)->T=133\/T=190\/T=195\/T=191\/T=3)->(∃cs T,o=Obj.cells cs T (0,0))->Y.heap[i]? =some o:=fun i o hi ht ⟨cs,T,ho⟩=>by
  refine(g.block i (blk_lt hi) (fun hs=> ?_)).trans hi;have h1:=ht cs T ho;have h2:=(hS i hs).2 cs T (by rw[hi,ho]);rcases h1 with h1 | h1 | h1 | h1 | h1
  ·exact h2.1 h1
  ·exact h2.2.1 h1
  ·exact h2.2.2.1 h1
  ·exact h2.2.2.2.1 h1
  ·exact h2.2.2.2.2 h1
 have hmin:∀c f,MinIn X c f->MinIn Y c f:=fun c f ⟨cs,h1,h2⟩=>⟨cs,hne c _ h1 (fun cs T e=>by cases e;exact .inr (.inr (.inl rfl))) ⟨_,_,rfl⟩,h2⟩
 have hown:∀ {T:TypeId} {v:Value} {n:Nat} {xs:List Value},X.ownsRow d.base T 1 v n xs->(T=133\/T=190\/T=195\/T=191\/T=3)->Y.ownsRow d.base T 1 v n xs:=fun{T v n xs} hr hT=>
  ⟨hr.1,hr.2.imp id fun⟨c,cap,cur,h1,h2,h3,h4⟩=>⟨c,cap,cur,h1,h2,hne c _ h3 (fun cs T' e=>by cases e;exact hT) ⟨_,_,rfl⟩,h4⟩⟩
 have hbl:Below d.B X Y:=g.below h.hB (fun i hi=>(hS i hi).1)
 exact⟨hne _ _ h.blk (fun cs T e=>by cases e;exact .inl rfl) ⟨_,_,rfl⟩,
  ⟨hne _ _ h.trk.blk (fun cs T e=>by cases e;exact .inr (.inl rfl)) ⟨_,_,rfl⟩,hown h.trk.sr (.inr (.inr (.inr (.inl rfl)))),hown h.trk.kr (.inr (.inr (.inr (.inl rfl)))),fun i hi=>hmin _ _ (h.trk.st i hi),fun i hi=>hmin _ _ (h.trk.se i hi),h.trk.nd,h.trk.ge,h.trk.ne⟩,
  h.ln.below hbl,Nat.le_trans h.hB g.size,hown h.sp (.inr (.inr (.inr (.inr rfl)))),h.sl,h.kl,h.ok,h.st⟩
structure RIn (X:World) (d:SrD) (l:Line) (tab:List (List TCall)) (stops:List Int) (base qb:Nat) (v:Value) (s:RSt):Prop where
 sr:SrIn X d l tab stops
 mp:MapIn X d.mb s.seen (fun _ _=>true)
 q:QIn X base qb v s.q
 hm:d.B<=d.mb
 hb:d.B<=base
 hbq:base<=qb
 hbs:base<=X.heap.size
section
variable {X Y:World} {d:SrD} {l:Line} {tab:List (List TCall)} {stops:List Int} {base qb:Nat} {v:Value} {s:RSt}
theorem QIn.kept {ms:List (Nat×Int)} (h:QIn X base qb v ms) (h1:Y.heap[qb]? =X.heap[qb]?) (h2:∀g,v.ownBlock=some g->Y.heap[g]? =X.heap[g]?):QIn Y base qb v ms:=⟨h1.trans h.blk,h.row.kept h2⟩
theorem RIn.below (h:RIn X d l tab stops base qb v s) (hb:Bl X Y):RIn Y d l tab stops base qb v s:=
 ⟨h.sr.below hb,h.mp.below hb,h.q.kept (hb.block _ (blk_lt h.q.blk)) (fun _ hg=>hb.block _ (h.q.row.lt hg).2.1),h.hm,h.hb,h.hbq,Nat.le_trans h.hbs hb.size⟩
theorem RIn.mq (h:RIn X d l tab stops base qb v s):d.mb≠qb/\∀g,v.ownBlock=some g->g≠d.mb:=by
 obtain⟨es,c,h1⟩:=h.mp.is;refine⟨fun e=> ?_,fun g hg e=> ?_⟩
 ·rw[e,h.q.blk] at h1;cases h1
 ·obtain⟨_,_,cs,h2⟩:=h.q.row.lt hg;rw[e,h1] at h2;cases h2
theorem RIn.alien (h:RIn X d l tab stops base qb v s):Alien X qb/\∀g,v.ownBlock=some g->Alien X g:=by
 refine⟨fun cs T hc=> ?_,fun g hg cs T hc=> ?_⟩
 ·rw[h.q.blk] at hc;cases hc
  decide
 ·obtain⟨_,_,cs',h2⟩:=h.q.row.lt hg;rw[h2] at hc;cases hc
  decide
end
structure VisR (d:SrD) (l:Line) (tab:List (List TCall)) (stops:List Int) (base qb:Nat) (v:Value) (s:RSt) (w:World) (e:Ending) (w':World):Prop where
 val:e= .returned (.tuple #[])
 ex:∃v',RIn w' d l tab stops base qb v' s/\(v'.ownBlock=v.ownBlock\/∃g,v'.ownBlock=some g/\w.heap.size<=g)
 k:KeptS w w' (fun i=>i=d.mb\/i=qb\/v.ownBlock=some i)
theorem visit_any (d:SrD) (l:Line) (tab:List (List TCall)) (stops:List Int) (base qb sbx:Nat) (v:Value) (s:RSt) (ready:Int) (k:Nat) (t:Int) (w:World) (h:RIn w d l tab stops base qb v s) (hi:RInv l tab stops ready s) (hk:k<stops.length) (ht: -1000<=t/\t<=1000000)
  (hql:s.q.length<=10000000) (hsb:w.cell? ⟨sbx,0,none⟩=some (.pointer (some ⟨d.sg,0,none⟩))) (hsl:sbx<w.heap.size) :
  Calls Tryz.prog 154 #[moV k t,.pointer (some ⟨sbx,0,none⟩),.pointer (some ⟨qb,0,none⟩)] w (VisR d l tab stops base qb v (visV l tab stops s k t) w):=by
 obtain⟨W0,hW0⟩:=eY (w.alloc (.cells #[.int .i64 (k:Int),.int .i64 t] 136));have hs0:W0.heap.size=w.heap.size+1:=by rw[hW0];simp
 have hB0:Bl w W0:=by rw[hW0];exact(zX _ _).alloc (zm _) _
 have hX0:W0.heap[w.heap.size]? =some (.cells #[.int .i64 (k:Int),.int .i64 t] 136 (0,0)):=by rw[hW0];exact zW _ _
 have H0:=hI (h.below hB0);have hs16:=h.sr.st.len;have Hkb:=hI (show KeyB k t from⟨by omega,by omega,by omega⟩);have hseen:=hi.len
 have hsl2:s.seen.length<1000000000:=by
  have h3:stops.length*100001<=16*100001:=Nat.mul_le_mul_right _ hs16;omega
 obtain⟨rm,hrm⟩:=eX (roomB l tab stops k t);have HRo:=hI (fun(e:Later W0)=>by have h5:=sroom_any d l tab stops k t e.w (H0.o.below e.b).sr hk;rw[hrm] at h5;exact h5);obtain⟨ct,hct⟩:=eX (s.seen.contains (k,t))
 have yl:∀e:Later W0,(Instr.lookup 131 (.map (some d.mb)) (.agg #[.int .i64 (k:Int),.int .i64 t]) false).run Tryz.prog e.w= .ok (.bool ct) e.w:=fun e=>by
  have h5:=(H0.o.mp.below e.b).look Hkb.o;rw[hct,Bool.and_true] at h5;exact h5
 have hblk:=H0.o.sr.blk;have y0:=zV ((hB0.cell (p:=⟨sbx,0,none⟩) hsl).trans hsb) (by omega);have y1:=zV (kC 2 hblk rfl) (blk_lt hblk);have y2:=zV (kC 0 hX0 rfl) (by omega);have y3:=zV (kC 1 hX0 rfl) (by omega);have HV:=hI (show visV l tab stops s k t=if rm&& !ct then⟨(k,t)::s.seen,s.q++[(k,t)],s.best⟩ else s by unfold visV;rw[hrm,hct]);have HSame:=hI (show ∀X,visV l tab stops s k t=s->Bl w X->VisR d l tab stops base qb v (visV l tab stops s k t) w (.returned (.tuple #[])) X from fun X hv hX=>⟨rfl,⟨v,by rw[hv];exact h.below hX,.inl rfl⟩,KeptS.of_below hX⟩);have HB0:=hI hB0;have HX0:=hI hX0;have HW0:=hI hW0;have Hct:=hI hct;have Hw:=hI h;have Hsb:=hI hsb;have hsmb:=h.sr.blk;unfold moV;clear hW0 hB0 hX0 h hi hrm hct hblk hsmb hsb;go_enter Tryz.func154,Tryz.ntmps154;go_upto_region 1 with fail;rw[<- HW0.o];cases rm
 ·have HR:=hI (show visV l tab stops s k t=s by rw[HV.o];rfl);refine wp_region_later (by kernel_rfl) (by kernel_rfl) ?_
  repeat (any_goals (first | go_big_quiet_step ((go_at_call 155;exact later_call _ (HRo.o _))) | quiet_step ((go_at_call 155;exact later_call _ (HRo.o _)))))
  refine wpQuiet_nil ?_;rintro w' ⟨e,rfl⟩;have HRr:=hI (HSame.o e.w HR.o (HB0.o.trans (e.b.mono (by omega))));go_wp2;go_end0;exact HRr.o
 cases ct;rotate_left
 ·have HR:=hI (show visV l tab stops s k t=s by rw[HV.o];rfl);refine wp_region_later (by kernel_rfl) (by kernel_rfl) ?_
  repeat (any_goals (first | go_big_quiet_step ((go_at_call 155;exact later_call _ (HRo.o _))) | quiet_step ((go_at_call 155;exact later_call _ (HRo.o _)))))
  refine wpQuiet_nil ?_;rintro w' ⟨e,rfl⟩;have HRr:=hI (HSame.o e.w HR.o (HB0.o.trans (e.b.mono (by omega))));go_wp2;go_end0;exact HRr.o
 have HR:=hI (show visV l tab stops s k t=⟨(k,t)::s.seen,s.q++[(k,t)],s.best⟩ by rw[HV.o];rfl);refine wp_region_later (by kernel_rfl) (by kernel_rfl) ?_
 repeat (any_goals (first | go_big_quiet_step ((go_at_call 155;exact later_call _ (HRo.o _))) | quiet_step ((go_at_call 155;exact later_call _ (HRo.o _)))))
 refine wpQuiet_nil ?_;rintro w' ⟨e,rfl⟩;obtain⟨W1,hW1⟩:=eY e.w;have HB1:=hI (show Bl W0 W1 by rw[hW1];exact e.b);have H1:=hI (H0.o.below HB1.o);have hX1:=(HB1.o.block _ (by omega)).trans HX0.o;have hb1:=H1.o.sr.blk;have z0:=zV ((HB1.o.cell (p:=⟨sbx,0,none⟩) (show sbx<W0.heap.size by omega)).trans ((HB0.o.cell (p:=⟨sbx,0,none⟩) hsl).trans Hsb.o)) (by have:=HB1.o.size;omega);have z1:=zV (kC 2 hb1 rfl) (blk_lt hb1);have z2:=zV (kC 0 hX1 rfl) (blk_lt hX1);have z3:=zV (kC 1 hX1 rfl) (blk_lt hX1);go_upto_region 2 with fail;rw[<- hW1];clear hW1 y0 y1 y2 y3 yl hX1 hb1;refine wp_region_later_tail 5 (by kernel_rfl) (by kernel_rfl) ?_;simp only[List.take_succ_cons,List.take_zero,List.drop_succ_cons,List.drop_zero]
 repeat (any_goals (first | go_big_quiet_step ((fail)) | quiet_step ((fail))))
 refine wpQuiet_nil ?_;rintro w' ⟨e2,rfl⟩;obtain⟨W2,hW2⟩:=eY e2.w;have HB2:=hI (show Bl W1 W2 by rw[hW2];exact e2.b);have H2:=hI (H1.o.below HB2.o);rw[<- hW2];clear hW2 z0 z1 z2 z3;have hs2:w.heap.size+1<=W2.heap.size:=by have:=HB1.o.size;have:=HB2.o.size;omega
 go_upto_region 3 with(at_mapUpdate;go_loud (refine wpList_mapIn_put rfl rfl _ _ _ rfl d.mb s.seen (fun _ _=>true) k t H2.o.mp rfl rfl rfl Hkb.o hsl2 ?_);intro w3 hm3 hg3;have Hm3:=hI hm3;have Hg3:=hI hg3;have hs3:=hg3.size;clear hm3 hg3)
 have HX2:=hI ((HB2.o.block w.heap.size (by have:=HB1.o.size;omega)).trans ((HB1.o.block _ (by omega)).trans HX0.o));have hmq:=H2.o.mq;have hmw:d.mb≠w.heap.size:=by have:=Hw.o.mp.lt;omega
 have hX3:=(Hg3.o.block w.heap.size (by omega) (fun e9=>hmw (zJ e9).symm)).trans HX2.o;have HQ3:=hI (show QIn w3 base qb v s.q from H2.o.q.kept (Hg3.o.block _ (blk_lt H2.o.q.blk) (fun e9=>hmq.1 (zJ e9).symm)) (fun g hg=>Hg3.o.block _ (H2.o.q.row.lt hg).2.1 (fun e9=>hmq.2 g hg (zJ e9))));have HS3:=hI (show SrIn w3 d l tab stops from H2.o.sr.grown Hg3.o H2.o.hm H2.o.mp.alien);have HPu:=hI (by have h5:=put_any base qb v s.q k t w3 HQ3.o (by omega) (by have:=H2.o.hbs;omega);unfold moV at h5;exact h5);have x0:=kC 0 hX3 rfl;have x1:=kC 1 hX3 rfl;clear hX3 hmq;go_wp2_with (go_at_call 156;go_loud (refine HPu.o.mono ?_);rintro e4 w4 ⟨rfl,hx4,hk4⟩;have Hx4:=hI hx4;have Hk4:=hI hk4;clear hx4 hk4);go_end0;have hmq:=H2.o.mq;have hal:=H2.o.alien;obtain⟨v',hq4,ho4⟩:=Hx4.o;have hk4:=Hk4.o
 have hal3:Alien w3 qb/\∀g,v.ownBlock=some g->Alien w3 g:=by
  refine⟨fun cs T hc=> ?_,fun g hg cs T hc=> ?_⟩
  ·rw[HQ3.o.blk] at hc;cases hc;decide
  ·obtain⟨_,_,cs',h2⟩:=HQ3.o.row.lt hg;rw[h2] at hc;cases hc;decide
 have hS4:SrIn w4 d l tab stops:=HS3.o.keptS hk4 (fun i hi=>by
  rcases hi with hi | hi
  ·rw[hi];exact⟨by have:=H2.o.hb;have:=H2.o.hbq;omega,hal3.1⟩
  ·exact⟨by have:=(HQ3.o.row.lt hi).1;have:=H2.o.hb;omega,hal3.2 i hi⟩)
 have hm4:MapIn w4 d.mb ((k,t)::s.seen) (fun _ _=>true):=by
  have h5:=Hm3.o;unfold insK at h5;rw[Hct.o,if_neg (by decide)] at h5
  exact h5.kept (hk4.block _ h5.lt (fun hs=>by
   rcases hs with hs | hs
   ·exact hmq.1 hs
   ·exact hmq.2 _ hs rfl))
 have hBw2:Bl w W2:=HB0.o.trans ((HB1.o.trans (HB2.o.mono HB1.o.size)).mono (by omega));refine⟨rfl,⟨v',by rw[HR.o];exact⟨hS4,hm4,hq4,H2.o.hm,H2.o.hb,H2.o.hbq,Nat.le_trans H2.o.hbs (Nat.le_trans hs3 hk4.size)⟩,ho4.imp id (fun⟨g,h1,h2⟩=>⟨g,h1,by omega⟩)⟩,?_⟩;exact((KeptS.of_below hBw2).trans (KeptS.of_grown Hg3.o (fun i hi=> .inl (zJ hi).symm))).trans (hk4.mono (fun i hi=> .inr hi))
end Go.Proofs.YtjpgnfekbojcaaaGreat
