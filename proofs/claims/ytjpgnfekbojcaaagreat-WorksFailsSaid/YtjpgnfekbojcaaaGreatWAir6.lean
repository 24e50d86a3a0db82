/- Stays: a stay of a list with those of the same worker ahead of it. -/
import Derived.Test.YtjpgnfekbojcaaaGreatWJob2
set_option maxHeartbeats 8000000
set_option maxRecDepth 100000
namespace Go.Proofs.YtjpgnfekbojcaaaGreat
open Go.RowKit W7 W8
attribute [local go_sem] Oper.semAt_some
def aheadOf (l:List Dive) (i:Nat) (who:ByteArray):List Dive:=(l.take i).filter (fun x=>strEq x.who who)
theorem ahead_succ {l:List Dive} {i:Nat} (hi:i<l.length) (who:ByteArray):aheadOf l (i+1) who=aheadOf l i who++if strEq l[i].who who=true then[l[i]] else[]:=by
 unfold aheadOf;rw[zK hi,List.filter_append]
 congr 1
 by_cases h:strEq l[i].who who=true
 ·rw[if_pos h];simp[h]
 ·rw[if_neg h];simp[h]
theorem ahead_len (l:List Dive) (i:Nat) (who:ByteArray):(aheadOf l i who).length<=i:=by
 unfold aheadOf;exact Nat.le_trans (List.length_filter_le _ _) (by rw[List.length_take];omega)
theorem own_other {w w':World} {base e e' size n lb:Nat} {v:Value} {xs:List Value} {cs:Array Value} {fz:Nat×Nat} (h:w.ownsRow base e size v n xs) (hL:w.heap[lb]? =some (.cells cs e' fz)) (hne:e'≠e) (hg:w.grownBy w' (some lb)):w'.ownsRow base e size v n xs:=by
 refine h.kept (row:=some lb) hg ?_;cases hv:v.ownBlock with
 | none=>exact .inl rfl
 | some k=>
  refine .inr fun hk=> ?_
  obtain rfl:=zJ hk;obtain⟨cs',hc⟩:=owns_block h k hv;rw[hL] at hc;simp only[Option.some.injEq,Obj.cells.injEq] at hc;exact hne hc.2.1
theorem grown_set (w:World) (g j:Nat) (x:Value):w.grownBy (w.setCell ⟨g,j,none⟩ x) (some g):=
 ⟨rfl,rfl,rfl,by simp[World.setCell],fun k _ hk=>Below.heap_setCell _ _ _ _ (fun h=>hk (by rw[h]))⟩
def stayC (t:Table) (d:Dive) (v:Value):Array Value:= #[.slice t.A t.rows.length t.c,.int .i64 t.rest,.int .i64 t.day,.string d.who,.int .i64 d.pr,.int .i64 d.tin,.int .i64 d.leave,.int .i64 d.out,v]
theorem stay_store {w:World} {g:Nat} {u0 u1 u2 u3 u4 u5 u6 u7 u8:Value} {T:Nat} (h:w.heap[g]? =some (.cells #[u0,u1,u2,u3,u4,u5,u6,u7,u8] T (0,0))) (x0 x1 x2 x3 x4 x5 x6 x7 x8:Value) :
  (((((((((w.setCell ⟨g,0,none⟩ x0).setCell ⟨g,1,none⟩ x1).setCell ⟨g,2,none⟩ x2).setCell ⟨g,3,none⟩ x3).setCell ⟨g,4,none⟩ x4).setCell ⟨g,5,none⟩ x5).setCell ⟨g,6,none⟩ x6).setCell ⟨g,7,none⟩ x7).setCell ⟨g,8,none⟩ x8).heap[g]? =some (.cells #[x0,x1,x2,x3,x4,x5,x6,x7,x8] T (0,0)):=by
 have step:∀(w:World) (cs:Array Value) (j:Nat) (x:Value),w.heap[g]? =some (.cells cs T (0,0))->(w.setCell ⟨g,j,none⟩ x).heap[g]? =some (.cells (cs.setIfInBounds j x) T (0,0)):=fun w cs j x h=>by
  simp[World.setCell,Array.getElem?_modify,h]
 have:=step _ _ 8 x8 (step _ _ 7 x7 (step _ _ 6 x6 (step _ _ 5 x5 (step _ _ 4 x4 (step _ _ 3 x3 (step _ _ 2 x2 (step _ _ 1 x1 (step _ _ 0 x0 h))))))))
 simpa using this
theorem stays_any (t:Table) (l:List Dive) (A:Option Addr) (n c k B:Nat) (w:World) (hn:n=l.length) (hA:Sl w B 5 encDive A l) (hB:B<=w.heap.size) (hnl:n<=1000000) (hnc:n<=c) (hc:c<=9223372036854775807) (hk:k<n) :
  Calls Tryz.prog 108 #[tabV t,.slice A n c,.int .i64 (k:Int)] w fun e w'=>∃(d:Dive) (A':Option Addr) (m c':Nat),l[k]? =some d/\m=(aheadOf l k d.who).length/\e= .returned (stayV t d A' m c')/\w'.ownsRow w.heap.size 84 5 (.slice A' m c') m ((aheadOf l k d.who).flatMap encDive)/\Bl w w':=by
 have hkl:k<l.length:=by omega
 obtain⟨W0,hW0⟩:=eY ((w.alloc (.cells #[.slice t.A t.rows.length t.c,.int .i64 t.rest,.int .i64 t.day] 74)).alloc (.cells #[.slice none 0 0,.int .i64 0,.int .i64 0,.string ⟨#[]⟩,.int .i64 0,.int .i64 0,.int .i64 0,.int .i64 0,.slice none 0 0] 157));have hs0:W0.heap.size=w.heap.size+2:=by rw[hW0];simp
 have HB0:=hI (show Bl w W0 by rw[hW0];exact((zX w.heap.size w).alloc (zm _) _).alloc (by simp) _)
 have h0:W0.heap[w.heap.size]? =some (.cells #[.slice t.A t.rows.length t.c,.int .i64 t.rest,.int .i64 t.day] 74 (0,0)):=by
  rw[hW0,zP _ _ _ (by simp)];exact zW _ _
 have hres:W0.heap[w.heap.size+1]? =some (.cells #[.slice none 0 0,.int .i64 0,.int .i64 0,.string ⟨#[]⟩,.int .i64 0,.int .i64 0,.int .i64 0,.int .i64 0,.slice none 0 0] 157 (0,0)):=by
  have h:=zW (w.alloc (.cells #[.slice t.A t.rows.length t.c,.int .i64 t.rest,.int .i64 t.day] 74)) (.cells #[.slice none 0 0,.int .i64 0,.int .i64 0,.string ⟨#[]⟩,.int .i64 0,.int .i64 0,.int .i64 0,.int .i64 0,.slice none 0 0] 157);have hz:(w.alloc (.cells #[.slice t.A t.rows.length t.c,.int .i64 t.rest,.int .i64 t.day] 74)).heap.size=w.heap.size+1:=by simp
  rw[hz] at h;rw[hW0];exact h
 have Hres:=hI hres;have q0:W0.cell? ⟨w.heap.size,0,none⟩=some (.slice t.A t.rows.length t.c):=by simp only[World.cell?,h0];rfl
 have q1:W0.cell? ⟨w.heap.size,1,none⟩=some (.int .i64 t.rest):=by simp only[World.cell?,h0];rfl
 have q2:W0.cell? ⟨w.heap.size,2,none⟩=some (.int .i64 t.day):=by simp only[World.cell?,h0];rfl
 have HA:=hI (hA.below (HB0.o.mono hB));have HW0:=hI hW0;have Hn:=hI hn;obtain⟨b,off,hbe,hbB,hcells⟩:=HA.o (by omega);subst hbe;obtain⟨d,hd⟩:=eY (l[k]);have Hd:=hI (show l[k]? =some d by rw[zB hkl,hd]);have c0:W0.cell? ⟨b,off+k*5,none⟩=some (.string d.who):=by rw[hd];exact hcells k hkl 0 _ rfl
 have c1:W0.cell? ⟨b,off+k*5+1,none⟩=some (.int .i64 d.pr):=by rw[hd];exact hcells k hkl 1 _ rfl
 have c2:W0.cell? ⟨b,off+k*5+2,none⟩=some (.int .i64 d.tin):=by rw[hd];exact hcells k hkl 2 _ rfl
 have c3:W0.cell? ⟨b,off+k*5+3,none⟩=some (.int .i64 d.leave):=by rw[hd];exact hcells k hkl 3 _ rfl
 have c4:W0.cell? ⟨b,off+k*5+4,none⟩=some (.int .i64 d.out):=by rw[hd];exact hcells k hkl 4 _ rfl
 clear hW0 h0 hA hn hres hcells hd;unfold tabV;go_enter Tryz.func108,Tryz.ntmps108;go_upto_region 1 with fail;rw[<- HW0.o];have y0:=zV q0 (by omega);have y1:=zV q1 (by omega);have y2:=zV q2 (by omega);have z0:=zV c0 (by omega);have z1:=zV c1 (by omega);have z2:=zV c2 (by omega);have z3:=zV c3 (by omega);have z4:=zV c4 (by omega);clear q0 q1 q2 c0 c1 c2 c3 c4
 obtain⟨R2,hR2⟩:∃R:(Nat->Bool)->Act->World->Prop,R=fun L a' w'=>∃(e:Later W0) (v10 v11 v12 v13 v14 v15 v7:Value),w'=e.w/\a'={ tmps:= #[Value.agg #[Value.slice t.A t.rows.length t.c,Value.int IntKind.i64 t.rest,Value.int IntKind.i64 t.day],Value.slice (some { block:=b,off:=off }) n c,Value.int IntKind.i64 ↑k,Value.pointer (some { block:=w.heap.size,off:=0 }),undef,undef,Value.pointer (some { block:=w.heap.size+1,off:=0 }),v7,undef,undef,v10,v11,v12,v13,v14,v15,undef,undef,undef,undef,undef,undef,undef,undef,undef,undef,undef,undef,undef,undef,undef,undef,undef,undef,undef,undef,undef,undef],defers:=[] }/\(L 0=true->v10= .agg #[.slice t.A t.rows.length t.c,.int .i64 t.rest,.int .i64 t.day])/\(L 1=true->v11= .slice (some ⟨b,off,none⟩) n c)/\(L 2=true->v12= .int .i64 (k:Int))/\(L 3=true->v13= .pointer (some ⟨b,off+k*5,none⟩))/\(L 4=true->v14= .agg #[.string d.who,.int .i64 d.pr,.int .i64 d.tin,.int .i64 d.leave,.int .i64 d.out])/\(L 5=true->v15= .agg #[.slice t.A t.rows.length t.c,.int .i64 t.rest,.int .i64 t.day,.string d.who,.int .i64 d.pr,.int .i64 d.tin,.int .i64 d.leave,.int .i64 d.out,.slice none 0 0])/\(L 6=true->Hid (∃gb,v7= .pointer (some ⟨gb,0,none⟩)/\NewBlk W0 e.w gb (#[.slice none 0 0,.int .i64 0,.int .i64 0,.string ⟨#[]⟩,.int .i64 0,.int .i64 0,.int .i64 0,.int .i64 0,.slice none 0 0]:Array Value) 157)):=⟨_,rfl⟩
 have HR2:=hI hR2;clear hR2;refine wp_region_inv 7 R2 (by kernel_rfl) (by kernel_rfl) (by kernel_rfl) (by kernel_rfl) (by decide) (by kernel_rfl) ?_ ?_ ?_
 ·rw[HR2.o];exact⟨⟨_,(zX W0.heap.size W0).drew⟩,_,_,_,_,_,_,_,rfl,rfl,nff,nff,nff,nff,nff,nff,nff⟩
 ·rintro L a' w' i o hi ho hLi haf hInv;rw[HR2.o] at hInv;obtain⟨e,v10,v11,v12,v13,v14,v15,v7,rfl,rfl,h0,h1,h2,h3,h4,h5,h6⟩:=hInv;have hse:W0.heap.size<=e.w.heap.size:=e.b.size;rcases i with _ | _ | _ | _ | _ | _ | _ | i;case succ.succ.succ.succ.succ.succ.succ=>omega
  all_goals (simp only[zR,zS,Option.some.injEq] at ho;subst ho)
  ·go_wp2;rw[HR2.o];exact⟨e,_,_,_,_,_,_,_,rfl,rfl,fun _=>rfl,h1,h2,h3,h4,h5,h6⟩
  ·go_wp2;rw[HR2.o];exact⟨e,_,_,_,_,_,_,_,rfl,rfl,h0,fun _=>rfl,h2,h3,h4,h5,h6⟩
  ·go_wp2;rw[HR2.o];exact⟨e,_,_,_,_,_,_,_,rfl,rfl,h0,h1,fun _=>rfl,h3,h4,h5,h6⟩
  ·obtain rfl:=h1 (haf ⟨1,.data⟩ (by simp) rfl);obtain rfl:=h2 (haf ⟨2,.data⟩ (by simp) rfl);go_wp2;rw[HR2.o];exact⟨e,_,_,_,_,_,_,_,rfl,rfl,h0,fun _=>rfl,fun _=>rfl,fun _=>rfl,h4,h5,h6⟩
  ·obtain rfl:=h3 (haf ⟨3,.data⟩ (by simp) rfl);go_wp2;rw[HR2.o];exact⟨e,_,_,_,_,_,_,_,rfl,rfl,h0,h1,h2,fun _=>rfl,fun _=>rfl,h5,h6⟩
  ·obtain rfl:=h0 (haf ⟨0,.data⟩ (by simp) rfl);obtain rfl:=h4 (haf ⟨4,.data⟩ (by simp) rfl);go_wp2;rw[HR2.o];exact⟨e,_,_,_,_,_,_,_,rfl,rfl,fun _=>rfl,h1,h2,h3,fun _=>rfl,fun _=>rfl,h6⟩
  ·have hNew:Below e.w.heap.size e.w (e.w.alloc (.cells #[.slice none 0 0,.int .i64 0,.int .i64 0,.string ⟨#[]⟩,.int .i64 0,.int .i64 0,.int .i64 0,.int .i64 0,.slice none 0 0] 157)):=(zX _ _).alloc (zm _) _;go_wp2;rw[HR2.o];exact⟨⟨_,e.b.alloc hse (.cells #[.slice none 0 0,.int .i64 0,.int .i64 0,.string ⟨#[]⟩,.int .i64 0,.int .i64 0,.int .i64 0,.int .i64 0,.slice none 0 0] 157)⟩,_,_,_,_,_,_,_,rfl,rfl,h0,h1,h2,h3,h4,h5,fun _=>hI ⟨_,rfl,NewBlk.new hse⟩⟩
 ·rintro L a' w' hL hInv;rw[HR2.o] at hInv;obtain⟨e,v10,v11,v12,v13,v14,v15,v7,rfl,rfl,h0,h1,h2,h3,h4,h5,h6⟩:=hInv;obtain rfl:=h0 (hL 0 (by omega));obtain rfl:=h1 (hL 1 (by omega));obtain rfl:=h2 (hL 2 (by omega));obtain rfl:=h3 (hL 3 (by omega));obtain rfl:=h4 (hL 4 (by omega));obtain rfl:=h5 (hL 5 (by omega));obtain⟨gb7,rfl,hgb7⟩:=(h6 (hL 6 (by omega))).out;have hse:W0.heap.size<=e.w.heap.size:=e.b.size;clear h0 h1 h2 h3 h4 h5 h6 hL HR2;have hg:=hgb7.1;have hgl:=hgb7.lt;have hh:=hgb7.2;have u0:e.w.cell? ⟨gb7,0,none⟩=some (.slice none 0 0):=by simp only[World.cell?,hh];rfl
  have u1:e.w.cell? ⟨gb7,1,none⟩=some (.int .i64 0):=by simp only[World.cell?,hh];rfl
  have u2:e.w.cell? ⟨gb7,2,none⟩=some (.int .i64 0):=by simp only[World.cell?,hh];rfl
  have u3:e.w.cell? ⟨gb7,3,none⟩=some (.string ⟨#[]⟩):=by simp only[World.cell?,hh];rfl
  have u4:e.w.cell? ⟨gb7,4,none⟩=some (.int .i64 0):=by simp only[World.cell?,hh];rfl
  have u5:e.w.cell? ⟨gb7,5,none⟩=some (.int .i64 0):=by simp only[World.cell?,hh];rfl
  have u6:e.w.cell? ⟨gb7,6,none⟩=some (.int .i64 0):=by simp only[World.cell?,hh];rfl
  have u7:e.w.cell? ⟨gb7,7,none⟩=some (.int .i64 0):=by simp only[World.cell?,hh];rfl
  have u8:e.w.cell? ⟨gb7,8,none⟩=some (.slice none 0 0):=by simp only[World.cell?,hh];rfl
  have f0:e.w.frozen? ⟨gb7,0,none⟩=false:=by simp[World.frozen?,hh]
  have f1:e.w.frozen? ⟨gb7,1,none⟩=false:=by simp[World.frozen?,hh]
  have f2:e.w.frozen? ⟨gb7,2,none⟩=false:=by simp[World.frozen?,hh]
  have f3:e.w.frozen? ⟨gb7,3,none⟩=false:=by simp[World.frozen?,hh]
  have f4:e.w.frozen? ⟨gb7,4,none⟩=false:=by simp[World.frozen?,hh]
  have f5:e.w.frozen? ⟨gb7,5,none⟩=false:=by simp[World.frozen?,hh]
  have f6:e.w.frozen? ⟨gb7,6,none⟩=false:=by simp[World.frozen?,hh]
  have f7:e.w.frozen? ⟨gb7,7,none⟩=false:=by simp[World.frozen?,hh]
  have f8:e.w.frozen? ⟨gb7,8,none⟩=false:=by simp[World.frozen?,hh]
  have HX:=hI (show(((((((((e.w.setCell ⟨gb7,0,none⟩ (.slice t.A t.rows.length t.c)).setCell ⟨gb7,1,none⟩ (.int .i64 t.rest)).setCell ⟨gb7,2,none⟩ (.int .i64 t.day)).setCell ⟨gb7,3,none⟩ (.string d.who)).setCell ⟨gb7,4,none⟩ (.int .i64 d.pr)).setCell ⟨gb7,5,none⟩ (.int .i64 d.tin)).setCell ⟨gb7,6,none⟩ (.int .i64 d.leave)).setCell ⟨gb7,7,none⟩ (.int .i64 d.out)).setCell ⟨gb7,8,none⟩ (.slice none 0 0)).heap[gb7]? =some (.cells (stayC t d (.slice none 0 0)) 157 (0,0)) from stay_store hh _ _ _ _ _ _ _ _ _)
  have HBx:=hI (show Below W0.heap.size W0 (((((((((e.w.setCell ⟨gb7,0,none⟩ (.slice t.A t.rows.length t.c)).setCell ⟨gb7,1,none⟩ (.int .i64 t.rest)).setCell ⟨gb7,2,none⟩ (.int .i64 t.day)).setCell ⟨gb7,3,none⟩ (.string d.who)).setCell ⟨gb7,4,none⟩ (.int .i64 d.pr)).setCell ⟨gb7,5,none⟩ (.int .i64 d.tin)).setCell ⟨gb7,6,none⟩ (.int .i64 d.leave)).setCell ⟨gb7,7,none⟩ (.int .i64 d.out)).setCell ⟨gb7,8,none⟩ (.slice none 0 0)) from(((((((((e.b.setCell (p:=⟨gb7,0,none⟩) hg _).setCell (p:=⟨gb7,1,none⟩) hg _).setCell (p:=⟨gb7,2,none⟩) hg _).setCell (p:=⟨gb7,3,none⟩) hg _).setCell (p:=⟨gb7,4,none⟩) hg _).setCell (p:=⟨gb7,5,none⟩) hg _).setCell (p:=⟨gb7,6,none⟩) hg _).setCell (p:=⟨gb7,7,none⟩) hg _).setCell (p:=⟨gb7,8,none⟩) hg _))
  have hgx:gb7<(((((((((e.w.setCell ⟨gb7,0,none⟩ (.slice t.A t.rows.length t.c)).setCell ⟨gb7,1,none⟩ (.int .i64 t.rest)).setCell ⟨gb7,2,none⟩ (.int .i64 t.day)).setCell ⟨gb7,3,none⟩ (.string d.who)).setCell ⟨gb7,4,none⟩ (.int .i64 d.pr)).setCell ⟨gb7,5,none⟩ (.int .i64 d.tin)).setCell ⟨gb7,6,none⟩ (.int .i64 d.leave)).setCell ⟨gb7,7,none⟩ (.int .i64 d.out)).setCell ⟨gb7,8,none⟩ (.slice none 0 0)).heap.size:=by simp only[World.setCell,Array.size_modify];exact hgl
  clear y0 y1 y2 z0 z1 z2 z3 z4 hgb7 hh;go_upto_region 2 with fail
  revert HX HBx hgx
  generalize (((((((((e.w.setCell ⟨gb7,0,none⟩ (.slice t.A t.rows.length t.c)).setCell ⟨gb7,1,none⟩ (.int .i64 t.rest)).setCell ⟨gb7,2,none⟩ (.int .i64 t.day)).setCell ⟨gb7,3,none⟩ (.string d.who)).setCell ⟨gb7,4,none⟩ (.int .i64 d.pr)).setCell ⟨gb7,5,none⟩ (.int .i64 d.tin)).setCell ⟨gb7,6,none⟩ (.int .i64 d.leave)).setCell ⟨gb7,7,none⟩ (.int .i64 d.out)).setCell ⟨gb7,8,none⟩ (.slice none 0 0))=w3;intro HX HBx hgx;clear u0 u1 u2 u3 u4 u5 u6 u7 u8 f0 f1 f2 f3 f4 f5 f6 f7 f8 hgl hse;go_wp2;go_loopw [20] (fun v wr=>∃(i:Nat) (A':Option Addr) (m c':Nat),i<=k/\v= .int .i64 i/\Hid (m=(aheadOf l i d.who).length)/\Hid (Bl W0 wr)/\Hid (wr.heap[gb7]? =some (.cells (stayC t d (.slice A' m c')) 157 (0,0)))/\Hid (wr.ownsRow W0.heap.size 84 5 (.slice A' m c') m ((aheadOf l i d.who).flatMap encDive))) (fun v _=>k-(intOf v).toNat);case atStart=>exact⟨0,none,0,0,by omega,rfl,hI rfl,HBx,HX,hI (zU _ _ _ _)⟩
  case round=>
   obtain⟨i,A',m,c',hi,rfl,Hm,Hb,Hx,Ho⟩:=hrel;have hsr:=Hb.o.size;have hgr:gb7<wr.heap.size:=(zT.1 Hx.o).1;have hx:=Hx.o;unfold stayC at hx;have p3:wr.cell? ⟨gb7,3,none⟩=some (.string d.who):=by simp only[World.cell?,hx];rfl
   have p8:wr.cell? ⟨gb7,8,none⟩=some (.slice A' m c'):=by simp only[World.cell?,hx];rfl
   by_cases hlt:i<k
   ·have hil:i<l.length:=by have:=Hn.o;omega
    obtain⟨b2,off2,hbe,hbB2,hcells⟩:=(HA.o.below (Hb.o.mono (by omega))) (by omega)
    cases hbe;have c0:wr.cell? ⟨b,off+i*5,none⟩=some (.string l[i].who):=hcells i hil 0 _ rfl;have c1:wr.cell? ⟨b,off+i*5+1,none⟩=some (.int .i64 l[i].pr):=hcells i hil 1 _ rfl;have c2:wr.cell? ⟨b,off+i*5+2,none⟩=some (.int .i64 l[i].tin):=hcells i hil 2 _ rfl;have c3:wr.cell? ⟨b,off+i*5+3,none⟩=some (.int .i64 l[i].leave):=hcells i hil 3 _ rfl;have c4:wr.cell? ⟨b,off+i*5+4,none⟩=some (.int .i64 l[i].out):=hcells i hil 4 _ rfl;have Hsu:=hI (ahead_succ hil d.who);generalize l[i]=x at c0 c1 c2 c3 c4 Hsu;have hml:m<=1000000:=by have h1:=Hm.o;have h2:=ahead_len l i d.who;omega
    clear hcells hx;go_upto_region 5 with fail;obtain⟨W2,hW2⟩:=eY (wr.alloc (.cells #[.string x.who,.int .i64 x.pr,.int .i64 x.tin,.int .i64 x.leave,.int .i64 x.out] 84));rw[<- hW2];have hs2:W2.heap.size=wr.heap.size+1:=by rw[hW2];simp
    have HB2:=hI (show Bl wr W2 by rw[hW2];exact(zX _ _).alloc (zm _) _);have r0:W2.cell? ⟨wr.heap.size,0,none⟩=some (.string x.who):=by rw[hW2];exact alloc_cell rfl
    have r1:W2.cell? ⟨wr.heap.size,1,none⟩=some (.int .i64 x.pr):=by rw[hW2];exact alloc_cell rfl
    have r2:W2.cell? ⟨wr.heap.size,2,none⟩=some (.int .i64 x.tin):=by rw[hW2];exact alloc_cell rfl
    have r3:W2.cell? ⟨wr.heap.size,3,none⟩=some (.int .i64 x.leave):=by rw[hW2];exact alloc_cell rfl
    have r4:W2.cell? ⟨wr.heap.size,4,none⟩=some (.int .i64 x.out):=by rw[hW2];exact alloc_cell rfl
    have p3':=(HB2.o.cell (p:=⟨gb7,3,none⟩) hgr).trans p3;have p8':=(HB2.o.cell (p:=⟨gb7,8,none⟩) hgr).trans p8;have HX2:=hI ((HB2.o.block gb7 hgr).trans Hx.o);have HO2:=hI (own_below Ho.o HB2.o);have HC2:=hI (Hb.o.trans (HB2.o.mono hsr));clear hW2 c0 c1 c2 c3 c4 p3 p8;cases hP:strEq x.who d.who
    ·have HS2:=hI (show aheadOf l (i+1) d.who=aheadOf l i d.who by rw[Hsu.o,if_neg (by rw[hP];decide),List.append_nil]);unfold strEq at hP;go_wp2;go_roundw;case rel=>exact⟨i+1,A',m,c',by omega,by go_num,hI (by rw[HS2.o];exact Hm.o),HC2,HX2,hI (by rw[HS2.o];exact HO2.o)⟩
     case measure=>simp[intOf];omega
    ·have HS2:=hI (show aheadOf l (i+1) d.who=aheadOf l i d.who++[x] by rw[Hsu.o,if_pos hP]);unfold strEq at hP;have rn:=row_ne (k:=gb7) HO2.o HX2.o (fun cs h=>by cases h);have hgw2:gb7<W2.heap.size:=by omega
     have hBw:W0.heap.size<=W2.heap.size:=by omega
     go_wp2_with (at_builtin;refine wpList_append1 rfl _ _ 75 rfl W0.heap.size 84 _ 5 48 elemDi _ _ _ rfl HO2.o #[.string x.who,.int .i64 x.pr,.int .i64 x.tin,.int .i64 x.leave,.int .i64 x.out] 1 _ rfl (by first | omega | simp) rfl (by simp[Value.oneCell']) (by omega) (by omega) ?_;intro v6 w6 hown6 hb6 hsz6 hg6 hblk6;obtain⟨An,cn,hv6,hcn1,hcn2⟩:=own_cap' hown6;subst hv6;have Ho6:=hI hown6;have Hg6:=hI hg6;have HX6:=hI ((hg6.block gb7 hgw2 rn).trans HX2.o);have hx6:=HX6.o;unfold stayC at hx6;have t8:w6.cell? ⟨gb7,8,none⟩=some (.slice A' m c'):=(by simp only[World.cell?,hx6];rfl);have t9:w6.frozen? ⟨gb7,8,none⟩=false:=(by simp[World.frozen?,hx6]);clear hown6 hb6 hsz6 hg6 hblk6 hcn1 hcn2 hx6 r0 r1 r2 r3 r4 p3' p8');go_roundw
     case rel=>
      refine⟨i+1,An,m+1,cn,by omega,by go_num,hI (by rw[HS2.o,zF,<-Hm.o];rfl),hI (((HC2.o.grown Hg6.o hBw (fun k hk=>(HO2.o.lt k hk).1))).setCell (p:=⟨gb7,8,none⟩) hg _),hI ?_,hI ?_⟩
      ·simp[World.setCell,Array.getElem?_modify,HX6.o,stayC]
      ·rw[HS2.o,List.flatMap_append];exact own_setK Ho6.o HX6.o (by decide) _
     case measure=>simp[intOf];omega
   ·obtain rfl:i=k:=by omega
    have hx:=Hx.o;unfold stayC at hx;have p0:wr.cell? ⟨gb7,0,none⟩=some (.slice t.A t.rows.length t.c):=by simp only[World.cell?,hx];rfl
    have p1:wr.cell? ⟨gb7,1,none⟩=some (.int .i64 t.rest):=by simp only[World.cell?,hx];rfl
    have p2:wr.cell? ⟨gb7,2,none⟩=some (.int .i64 t.day):=by simp only[World.cell?,hx];rfl
    have p3:wr.cell? ⟨gb7,3,none⟩=some (.string d.who):=by simp only[World.cell?,hx];rfl
    have p4:wr.cell? ⟨gb7,4,none⟩=some (.int .i64 d.pr):=by simp only[World.cell?,hx];rfl
    have p5:wr.cell? ⟨gb7,5,none⟩=some (.int .i64 d.tin):=by simp only[World.cell?,hx];rfl
    have p6:wr.cell? ⟨gb7,6,none⟩=some (.int .i64 d.leave):=by simp only[World.cell?,hx];rfl
    have p7:wr.cell? ⟨gb7,7,none⟩=some (.int .i64 d.out):=by simp only[World.cell?,hx];rfl
    have p8:wr.cell? ⟨gb7,8,none⟩=some (.slice A' m c'):=by simp only[World.cell?,hx];rfl
    have hr0:=(Hb.o.block (w.heap.size+1) (by omega)).trans Hres.o;have u0:wr.cell? ⟨w.heap.size+1,0,none⟩=some (.slice none 0 0):=by simp only[World.cell?,hr0];rfl
    have u1:wr.cell? ⟨w.heap.size+1,1,none⟩=some (.int .i64 0):=by simp only[World.cell?,hr0];rfl
    have u2:wr.cell? ⟨w.heap.size+1,2,none⟩=some (.int .i64 0):=by simp only[World.cell?,hr0];rfl
    have u3:wr.cell? ⟨w.heap.size+1,3,none⟩=some (.string ⟨#[]⟩):=by simp only[World.cell?,hr0];rfl
    have u4:wr.cell? ⟨w.heap.size+1,4,none⟩=some (.int .i64 0):=by simp only[World.cell?,hr0];rfl
    have u5:wr.cell? ⟨w.heap.size+1,5,none⟩=some (.int .i64 0):=by simp only[World.cell?,hr0];rfl
    have u6:wr.cell? ⟨w.heap.size+1,6,none⟩=some (.int .i64 0):=by simp only[World.cell?,hr0];rfl
    have u7:wr.cell? ⟨w.heap.size+1,7,none⟩=some (.int .i64 0):=by simp only[World.cell?,hr0];rfl
    have u8:wr.cell? ⟨w.heap.size+1,8,none⟩=some (.slice none 0 0):=by simp only[World.cell?,hr0];rfl
    have f0:wr.frozen? ⟨w.heap.size+1,0,none⟩=false:=by simp[World.frozen?,hr0]
    have f1:wr.frozen? ⟨w.heap.size+1,1,none⟩=false:=by simp[World.frozen?,hr0]
    have f2:wr.frozen? ⟨w.heap.size+1,2,none⟩=false:=by simp[World.frozen?,hr0]
    have f3:wr.frozen? ⟨w.heap.size+1,3,none⟩=false:=by simp[World.frozen?,hr0]
    have f4:wr.frozen? ⟨w.heap.size+1,4,none⟩=false:=by simp[World.frozen?,hr0]
    have f5:wr.frozen? ⟨w.heap.size+1,5,none⟩=false:=by simp[World.frozen?,hr0]
    have f6:wr.frozen? ⟨w.heap.size+1,6,none⟩=false:=by simp[World.frozen?,hr0]
    have f7:wr.frozen? ⟨w.heap.size+1,7,none⟩=false:=by simp[World.frozen?,hr0]
    have f8:wr.frozen? ⟨w.heap.size+1,8,none⟩=false:=by simp[World.frozen?,hr0]
    go_wp2;obtain⟨W9,hW9⟩:=eY (((((((((wr.setCell ⟨w.heap.size+1,0,none⟩ (.slice t.A t.rows.length t.c)).setCell ⟨w.heap.size+1,1,none⟩ (.int .i64 t.rest)).setCell ⟨w.heap.size+1,2,none⟩ (.int .i64 t.day)).setCell ⟨w.heap.size+1,3,none⟩ (.string d.who)).setCell ⟨w.heap.size+1,4,none⟩ (.int .i64 d.pr)).setCell ⟨w.heap.size+1,5,none⟩ (.int .i64 d.tin)).setCell ⟨w.heap.size+1,6,none⟩ (.int .i64 d.leave)).setCell ⟨w.heap.size+1,7,none⟩ (.int .i64 d.out)).setCell ⟨w.heap.size+1,8,none⟩ (.slice A' m c'));have hs:W9.heap[w.heap.size+1]? =some (.cells #[.slice t.A t.rows.length t.c,.int .i64 t.rest,.int .i64 t.day,.string d.who,.int .i64 d.pr,.int .i64 d.tin,.int .i64 d.leave,.int .i64 d.out,.slice A' m c'] 157 (0,0)):=by rw[hW9];exact stay_store hr0 _ _ _ _ _ _ _ _ _
    have hg9:wr.grownBy W9 (some (w.heap.size+1)):=by
     rw[hW9];exact grown_trans (grown_trans (grown_trans (grown_trans (grown_trans (grown_trans (grown_trans (grown_trans (grown_set _ _ _ _) (grown_set _ _ _ _)) (grown_set _ _ _ _)) (grown_set _ _ _ _)) (grown_set _ _ _ _)) (grown_set _ _ _ _)) (grown_set _ _ _ _)) (grown_set _ _ _ _)) (grown_set _ _ _ _)
    have hb9:Bl w W9:=by
     rw[hW9];exact((((((((((HB0.o.trans (Hb.o.mono (by omega))).setCell (p:=⟨w.heap.size+1,0,none⟩) (by simp) _).setCell (p:=⟨w.heap.size+1,1,none⟩) (by simp) _).setCell (p:=⟨w.heap.size+1,2,none⟩) (by simp) _).setCell (p:=⟨w.heap.size+1,3,none⟩) (by simp) _).setCell (p:=⟨w.heap.size+1,4,none⟩) (by simp) _).setCell (p:=⟨w.heap.size+1,5,none⟩) (by simp) _).setCell (p:=⟨w.heap.size+1,6,none⟩) (by simp) _).setCell (p:=⟨w.heap.size+1,7,none⟩) (by simp) _).setCell (p:=⟨w.heap.size+1,8,none⟩) (by simp) _)
    have HO9:=hI (own_other Ho.o hr0 (by decide) hg9);have g0:W9.cell? ⟨w.heap.size+1,0,none⟩=some (.slice t.A t.rows.length t.c):=by simp only[World.cell?,hs];rfl
    have g1:W9.cell? ⟨w.heap.size+1,1,none⟩=some (.int .i64 t.rest):=by simp only[World.cell?,hs];rfl
    have g2:W9.cell? ⟨w.heap.size+1,2,none⟩=some (.int .i64 t.day):=by simp only[World.cell?,hs];rfl
    have g3:W9.cell? ⟨w.heap.size+1,3,none⟩=some (.string d.who):=by simp only[World.cell?,hs];rfl
    have g4:W9.cell? ⟨w.heap.size+1,4,none⟩=some (.int .i64 d.pr):=by simp only[World.cell?,hs];rfl
    have g5:W9.cell? ⟨w.heap.size+1,5,none⟩=some (.int .i64 d.tin):=by simp only[World.cell?,hs];rfl
    have g6:W9.cell? ⟨w.heap.size+1,6,none⟩=some (.int .i64 d.leave):=by simp only[World.cell?,hs];rfl
    have g7:W9.cell? ⟨w.heap.size+1,7,none⟩=some (.int .i64 d.out):=by simp only[World.cell?,hs];rfl
    have g8:W9.cell? ⟨w.heap.size+1,8,none⟩=some (.slice A' m c'):=by simp only[World.cell?,hs];rfl
    rw[<- hW9];clear hW9;refine bodyPost_ret (v:=stayV t d A' m c') (by simp[results,Tryz.results108,go_sem,g0,g1,g2,g3,g4,g5,g6,g7,g8,stayV]) rfl ?_;exact⟨d,A',m,c',Hd.o,Hm.o,rfl,own_mono HO9.o (by omega),hb9⟩
end Go.Proofs.YtjpgnfekbojcaaaGreat
