/- Ways of trains: does a call follow those ahead (follows);the error of a way (CheckWay). -/
import Derived.Test.YtjpgnfekbojcaaaGreatWTPl1
set_option maxHeartbeats 8000000
set_option maxRecDepth 100000
namespace Go.Proofs.YtjpgnfekbojcaaaGreat
open Go.RowKit W7 W8
attribute [local go_sem] Oper.semAt_some
def encCall (c:TCall):List Value:=[.int .i64 c.st,.int .i64 c.arr,.int .i64 c.lv]
theorem call_cells {X:World} {ws:List TCall} {cb off:Nat} (h:∀(i:Nat) (hi:i<ws.length) (m:Nat) (v:Value),(encCall ws[i])[m]? =some v->X.cell? ⟨cb,off+i*3+m,none⟩=some v) {i:Nat} (hi:i<ws.length) :
  X.cell? ⟨cb,off+i*3,none⟩=some (.int .i64 (ws.getD i default).st)/\X.cell? ⟨cb,off+i*3+1,none⟩=some (.int .i64 (ws.getD i default).arr)/\X.cell? ⟨cb,off+i*3+2,none⟩=some (.int .i64 (ws.getD i default).lv):=by
 have e:ws.getD i default=ws[i]:=by rw[zA,zB hi,Option.getD_some]
 rw[e];exact⟨h i hi 0 _ rfl,h i hi 1 _ rfl,h i hi 2 _ rfl⟩
theorem later_drew {w:World} {n b o:Nat} {v:Value} (h:w.cell? ⟨b,o,none⟩=some v) (hb:b<w.heap.size):∀e:Later (w.drewN n),e.w.cell? ⟨b,o,none⟩=some v:=zV (w:=w.drewN n) h hb
theorem follows_any (l:Line) (ws:List TCall) (CA:Option Addr) (n c i B:Nat) (w:World) (hl:LnIn w B l) (hle:lineErr l=0) (hw:Sl w B 3 encCall CA ws) (hn:n=ws.length) (hnc:n<=c) (hc2:c<=9223372036854775807) (hB:B<=w.heap.size) (hi:i<n) (h0:0<i)
  (hok:∀k,k<=i->(0<=(ws.getD k default).st/\(ws.getD k default).st<l.room.length)/\(0<=(ws.getD k default).arr/\(ws.getD k default).arr<=100000)/\0<=(ws.getD k default).lv/\(ws.getD k default).lv<=100000) :
  Calls Tryz.prog 82 #[lineV l,.slice CA n c,.int .i64 (i:Int)] w fun e w'=>e= .returned (.bool (folB l ws i))/\Bl w w':=by
 obtain⟨RA,hRA⟩:=eX l.RA;obtain⟨MA,hMA⟩:=eX l.MA;obtain⟨r,hr⟩:=eX l.run.length;obtain⟨m,hm⟩:=eX l.room.length;obtain⟨hs1,hs2,h1,h2,h3,h4⟩:=hl;have hlo:=line_ok hle;have hrm:=hlo.2.2.1;have hm16:=hlo.1;rw[hr,hm] at hrm;rw[hm] at hm16;rw[hRA] at hs1;rw[hMA] at hs2;rw[hr] at h1;rw[hm] at h3;obtain⟨W0,hW0⟩:=eY (w.alloc (.cells #[.slice RA r l.rc,.slice MA m l.mc] 52));have hs0:W0.heap.size=w.heap.size+1:=by rw[hW0];simp
 have HB0:=hI (show Bl w W0 by rw[hW0];exact(zX _ _).alloc (zm _) _);have Q0:=hI (show W0.heap[w.heap.size]? =some (.cells #[.slice RA r l.rc,.slice MA m l.mc] 52 (0,0)) by rw[hW0];exact zW _ _);have HRu:=hI (hs1.below (HB0.o.mono hB));obtain⟨cb,off,hCA,hcb,hcs⟩:=(hw.below (HB0.o.mono hB)) (by omega)
 subst hCA;have hca:=call_cells hcs (show i-1<ws.length by omega);have hcc:=call_cells hcs (show i<ws.length by omega);have YZ:=hI (fun(h:1<i)=>(call_cells hcs (show i-2<ws.length by omega)).1);have hcl:cb<W0.heap.size:=by omega
 have YA0:=hI (zV hca.1 hcl);have YA1:=hI (zV hca.2.1 hcl);have YA2:=hI (zV hca.2.2 hcl);have YB0:=hI (zV hcc.1 hcl);have YB1:=hI (zV hcc.2.1 hcl);have YB2:=hI (zV hcc.2.2 hcl);have hok1:=hok (i-1) (by omega);have hok0:=hok i (zm _);have hok2:=hok (i-2) (by omega)
 have HF:=hI (show folB l ws i=((decide ((ws.getD i default).st-(ws.getD (i-1) default).st=1)||decide ((ws.getD i default).st-(ws.getD (i-1) default).st= -1)) &&
  (decide (i<=1)||decide ((ws.getD (i-1) default).st-(ws.getD (i-2) default).st=(ws.getD i default).st-(ws.getD (i-1) default).st)) &&
  decide ((ws.getD i default).arr=(ws.getD (i-1) default).lv+l.run.getD (min (ws.getD (i-1) default).st (ws.getD i default).st).toNat 0)) from rfl)
 have Hn:=hI hn;have HRv:=hI (fun(k:Nat) (hk:k<l.run.length)=>run_at hle hk);have HW0:=hI hW0;have Hr:=hI hr;rw[hm] at hok0 hok1 hok2;generalize ws.getD i default=xb at *;generalize ws.getD (i-1) default=xa at *;generalize ws.getD (i-2) default=xz at *;unfold lineV;rw[hRA,hMA,hr,hm];clear hW0 hs1 hs2 hr hm hRA hMA hw hcs hca hcc hn hle hlo hok;go_enter Tryz.func82,Tryz.ntmps82;go_upto_region 1 with fail;rw[<- HW0.o]
 obtain⟨C,hC⟩:∃C:(Nat->Bool)->(Nat->Value)->World->Prop,C=fun L V w'=>∃(e:Later W0) (ga gb:Nat),w'=e.w/\(L 9=true->W0.heap.size<=ga/\ga<e.w.heap.size/\Hid (∃y z v:Value,e.w.heap[ga]? =some (.cells #[y,z,v] 66 (0,0))/\(L 11=true->y= .int .i64 xa.st/\z= .int .i64 xa.arr/\v= .int .i64 xa.lv)))/\(L 10=true->W0.heap.size<=gb/\gb<e.w.heap.size/\Hid (∃y z v:Value,e.w.heap[gb]? =some (.cells #[y,z,v] 66 (0,0))/\(L 12=true->y= .int .i64 xb.st/\z= .int .i64 xb.arr/\v= .int .i64 xb.lv)))/\(L 9=true->L 10=true->ga≠gb)/\(L 11=true->L 9=true)/\(L 12=true->L 10=true)/\(L 0=true->V 0= .slice (some ⟨cb,off,none⟩) n c)/\(L 1=true->V 1= .int .i64 (i:Int))/\(L 2=true->V 2= .int .i64 ((i:Int)-1))/\(L 3=true->V 3= .pointer (some ⟨cb,off+(i-1)*3,none⟩))/\(L 4=true->V 4= .agg #[.int .i64 xa.st,.int .i64 xa.arr,.int .i64 xa.lv])/\(L 5=true->V 5= .slice (some ⟨cb,off,none⟩) n c)/\(L 6=true->V 6= .int .i64 (i:Int))/\(L 7=true->V 7= .pointer (some ⟨cb,off+i*3,none⟩))/\(L 8=true->V 8= .agg #[.int .i64 xb.st,.int .i64 xb.arr,.int .i64 xb.lv])/\(L 9=true->V 9= .pointer (some ⟨ga,0,none⟩))/\(L 10=true->V 10= .pointer (some ⟨gb,0,none⟩))/\(L 11=true->L 11=true)/\(L 12=true->L 12=true):=⟨_,rfl⟩
 have HC:=hI hC;clear hC;refine wp_region_opsA [10,11,12,13,14,15,16,17,18,7,8] C (by kernel_rfl) (by kernel_rfl) (by decide) (by kernel_rfl) (by kernel_rfl) ?_ ?_ ?_
 ·rw[HC.o];exact⟨⟨W0.drew,⟨rfl,rfl,rfl,zm _,fun _ _=>rfl⟩⟩,0,0,rfl,nff,nff,nff,nff,nff,nff,nff,nff,nff,nff,nff,nff,nff,nff,nff,nff,nff,nff⟩
 ·rintro L V w' ii o AA hii ho hLi haf hInv hAA hFF;rw[HC.o] at hInv;obtain⟨e,ga,gb,rfl,p0,p1,p2,p3,p4,h0,h1,h2,h3,h4,h5,h6,h7,h8,h9,h10,h11,h12⟩:=hInv;rcases ii with _ | _ | _ | _ | _ | _ | _ | _ | _ | _ | _ | _ | _ | ii;case succ.succ.succ.succ.succ.succ.succ.succ.succ.succ.succ.succ.succ=>(simp at hii;try omega)
  all_goals (simp only[zR,zS,Option.some.injEq] at ho;subst ho)
  all_goals clear hii
  ·have f1:AA.tmps[1]?.getD undef= .slice (some ⟨cb,off,none⟩) n c:=hFF.out 1 (by decide);go_wp2;rw[HC.o];exact⟨_,rfl,e,ga,gb,rfl,p0,p1,p2,p3,p4,fun _=>rfl,h1,h2,h3,h4,h5,h6,h7,h8,h9,h10,h11,h12⟩
  ·have f2:AA.tmps[2]?.getD undef= .int .i64 (i:Int):=hFF.out 2 (by decide);go_wp2;rw[HC.o];exact⟨_,rfl,e,ga,gb,rfl,p0,p1,p2,p3,p4,h0,fun _=>rfl,h2,h3,h4,h5,h6,h7,h8,h9,h10,h11,h12⟩
  ·have a1:=(hAA.out 1 11 rfl).trans (h1 (haf ⟨1,.data⟩ (by simp) rfl));go_wp2;rw[HC.o];exact⟨_,rfl,e,ga,gb,rfl,p0,p1,p2,p3,p4,h0,h1,fun _=>rfl,h3,h4,h5,h6,h7,h8,h9,h10,h11,h12⟩
  ·have a0:=(hAA.out 0 10 rfl).trans (h0 (haf ⟨0,.data⟩ (by simp) rfl));have a2:=(hAA.out 2 12 rfl).trans (h2 (haf ⟨2,.data⟩ (by simp) rfl));go_wp2;rw[HC.o];exact⟨_,rfl,e,ga,gb,rfl,p0,p1,p2,p3,p4,h0,h1,h2,fun _=>rfl,h4,h5,h6,h7,h8,h9,h10,h11,h12⟩
  ·have a3:=(hAA.out 3 13 rfl).trans (h3 (haf ⟨3,.data⟩ (by simp) rfl));have z0:=YA0.out e;have z1:=YA1.out e;have z2:=YA2.out e;go_wp2;rw[HC.o];exact⟨_,rfl,e,ga,gb,rfl,p0,p1,p2,p3,p4,h0,h1,h2,h3,fun _=>rfl,h5,h6,h7,h8,h9,h10,h11,h12⟩
  ·have f1:AA.tmps[1]?.getD undef= .slice (some ⟨cb,off,none⟩) n c:=hFF.out 1 (by decide);go_wp2;rw[HC.o];exact⟨_,rfl,e,ga,gb,rfl,p0,p1,p2,p3,p4,h0,h1,h2,h3,h4,fun _=>rfl,h6,h7,h8,h9,h10,h11,h12⟩
  ·have f2:AA.tmps[2]?.getD undef= .int .i64 (i:Int):=hFF.out 2 (by decide);go_wp2;rw[HC.o];exact⟨_,rfl,e,ga,gb,rfl,p0,p1,p2,p3,p4,h0,h1,h2,h3,h4,h5,fun _=>rfl,h7,h8,h9,h10,h11,h12⟩
  ·have a5:=(hAA.out 5 15 rfl).trans (h5 (haf ⟨5,.data⟩ (by simp) rfl));have a6:=(hAA.out 6 16 rfl).trans (h6 (haf ⟨6,.data⟩ (by simp) rfl));go_wp2;rw[HC.o];exact⟨_,rfl,e,ga,gb,rfl,p0,p1,p2,p3,p4,h0,h1,h2,h3,h4,h5,h6,fun _=>rfl,h8,h9,h10,h11,h12⟩
  ·have a7:=(hAA.out 7 17 rfl).trans (h7 (haf ⟨7,.data⟩ (by simp) rfl));have z0:=YB0.out e;have z1:=YB1.out e;have z2:=YB2.out e;go_wp2;rw[HC.o];exact⟨_,rfl,e,ga,gb,rfl,p0,p1,p2,p3,p4,h0,h1,h2,h3,h4,h5,h6,h7,fun _=>rfl,h9,h10,h11,h12⟩
  ·go_wp2;rw[HC.o];exact⟨_,rfl,⟨_,e.b.alloc e.b.size _⟩,e.w.heap.size,gb,rfl,fun _=>⟨e.b.size,(by show _<(World.alloc _ _).heap.size;simp),hI ⟨_,_,_,zW _ _,fun z=>absurd (hLi.symm.trans (p3 z)) (by decide)⟩⟩,fun z=>⟨(p1 z).1,(Nat.lt_of_lt_of_le (p1 z).2.1 (by show _<=(World.alloc _ _).heap.size;simp)),(by obtain⟨y,x2,v,h,k⟩:=(p1 z).2.2.out;exact hI ⟨y,x2,v,(zP _ _ _ (p1 z).2.1).trans h,k⟩)⟩,fun _ z=>(by have:=(p1 z).2.1;omega),fun _=>rfl,p4,h0,h1,h2,h3,h4,h5,h6,h7,h8,fun _=>rfl,h10,h11,h12⟩
  ·go_wp2;rw[HC.o];exact⟨_,rfl,⟨_,e.b.alloc e.b.size _⟩,ga,e.w.heap.size,rfl,fun z=>⟨(p0 z).1,(Nat.lt_of_lt_of_le (p0 z).2.1 (by show _<=(World.alloc _ _).heap.size;simp)),(by obtain⟨y,x2,v,h,k⟩:=(p0 z).2.2.out;exact hI ⟨y,x2,v,(zP _ _ _ (p0 z).2.1).trans h,k⟩)⟩,fun _=>⟨e.b.size,(by show _<(World.alloc _ _).heap.size;simp),hI ⟨_,_,_,zW _ _,fun z=>absurd (hLi.symm.trans (p4 z)) (by decide)⟩⟩,fun z _=>(by have:=(p0 z).2.1;omega),p3,fun _=>rfl,h0,h1,h2,h3,h4,h5,h6,h7,h8,h9,fun _=>rfl,h11,h12⟩
  ·have a9:=(hAA.out 9 7 rfl).trans (h9 (haf ⟨9,.data⟩ (by simp) rfl));have a4:=(hAA.out 4 14 rfl).trans (h4 (haf ⟨4,.data⟩ (by simp) rfl));obtain⟨q0,q1,q2⟩:=p0 (haf ⟨9,.data⟩ (by simp) rfl);obtain⟨y,z,v,hx,_⟩:=q2.out;have n0:=kF 0 hx;have n1:=kF 1 hx;have n2:=kF 2 hx;have m0:=kC 0 hx rfl;have m1:=kC 1 hx rfl;have m2:=kC 2 hx rfl;have Hx:=hI hx;clear hx;go_wp2;rw[HC.o]
   exact⟨rfl,undef,⟨_,((e.b.setCell (p:=⟨ga,0,none⟩) q0 _).setCell (p:=⟨ga,1,none⟩) q0 _).setCell (p:=⟨ga,2,none⟩) q0 _⟩,ga,gb,rfl,fun _=>⟨q0,(by show ga<(World.setCell _ _ _).heap.size;simp[World.setCell];exact q1),hI ⟨.int .i64 xa.st,.int .i64 xa.arr,.int .i64 xa.lv,(by show(((e.w.setCell ⟨ga,0,none⟩ _).setCell ⟨ga,1,none⟩ _).setCell ⟨ga,2,none⟩ _).heap[ga]? =_;rw[blk_set (blk_set (blk_set Hx.o _) _) _];rfl),fun _=>⟨rfl,rfl,rfl⟩⟩⟩,fun y=>⟨(p1 y).1,(by show gb<(World.setCell _ _ _).heap.size;simp[World.setCell];exact(p1 y).2.1),(by obtain⟨a,b2,v,h,k⟩:=(p1 y).2.2.out;have hne:=p2 (haf ⟨9,.data⟩ (by simp) rfl) y;exact hI ⟨a,b2,v,(by show(((e.w.setCell ⟨ga,0,none⟩ _).setCell ⟨ga,1,none⟩ _).setCell ⟨ga,2,none⟩ _).heap[gb]? =_;rw[blk_set_ne hne,blk_set_ne hne,blk_set_ne hne];exact h),k⟩)⟩,p2,fun _=>haf ⟨9,.data⟩ (by simp) rfl,p4,h0,h1,h2,h3,h4,h5,h6,h7,h8,h9,h10,fun _=>rfl,h12⟩
  ·have a10:=(hAA.out 10 8 rfl).trans (h10 (haf ⟨10,.data⟩ (by simp) rfl));have a8:=(hAA.out 8 18 rfl).trans (h8 (haf ⟨8,.data⟩ (by simp) rfl));obtain⟨q0,q1,q2⟩:=p1 (haf ⟨10,.data⟩ (by simp) rfl);obtain⟨y,z,v,hx,_⟩:=q2.out;have n0:=kF 0 hx;have n1:=kF 1 hx;have n2:=kF 2 hx;have m0:=kC 0 hx rfl;have m1:=kC 1 hx rfl;have m2:=kC 2 hx rfl;have Hx:=hI hx;clear hx;go_wp2;rw[HC.o]
   exact⟨rfl,undef,⟨_,((e.b.setCell (p:=⟨gb,0,none⟩) q0 _).setCell (p:=⟨gb,1,none⟩) q0 _).setCell (p:=⟨gb,2,none⟩) q0 _⟩,ga,gb,rfl,fun y=>⟨(p0 y).1,(by show ga<(World.setCell _ _ _).heap.size;simp[World.setCell];exact(p0 y).2.1),(by obtain⟨a,b2,v,h,k⟩:=(p0 y).2.2.out;have hne:=(p2 y (haf ⟨10,.data⟩ (by simp) rfl)).symm;exact hI ⟨a,b2,v,(by show(((e.w.setCell ⟨gb,0,none⟩ _).setCell ⟨gb,1,none⟩ _).setCell ⟨gb,2,none⟩ _).heap[ga]? =_;rw[blk_set_ne hne,blk_set_ne hne,blk_set_ne hne];exact h),k⟩)⟩,fun _=>⟨q0,(by show gb<(World.setCell _ _ _).heap.size;simp[World.setCell];exact q1),hI ⟨.int .i64 xb.st,.int .i64 xb.arr,.int .i64 xb.lv,(by show(((e.w.setCell ⟨gb,0,none⟩ _).setCell ⟨gb,1,none⟩ _).setCell ⟨gb,2,none⟩ _).heap[gb]? =_;rw[blk_set (blk_set (blk_set Hx.o _) _) _];rfl),fun _=>⟨rfl,rfl,rfl⟩⟩⟩,p2,p3,fun _=>haf ⟨10,.data⟩ (by simp) rfl,h0,h1,h2,h3,h4,h5,h6,h7,h8,h9,h10,h11,fun _=>rfl⟩
 rintro L V w' hL hInv;rw[HC.o] at hInv;obtain⟨e,ga,gb,rfl,p0,p1,p2,p3,p4,h0,h1,h2,h3,h4,h5,h6,h7,h8,h9,h10,h11,h12⟩:=hInv;have k0:=h0 (hL 0 (by simp));have k1:=h1 (hL 1 (by simp));have k2:=h2 (hL 2 (by simp));have k3:=h3 (hL 3 (by simp));have k4:=h4 (hL 4 (by simp));have k5:=h5 (hL 5 (by simp));have k6:=h6 (hL 6 (by simp));have k7:=h7 (hL 7 (by simp));have k8:=h8 (hL 8 (by simp));have k9:=h9 (hL 9 (by simp));have k10:=h10 (hL 10 (by simp));have k11:=h11 (hL 11 (by simp));have k12:=h12 (hL 12 (by simp));clear h0 h1 h2 h3 h4 h5 h6 h7 h8 h9 h10 h11 h12 hL HC;obtain⟨g0,g1,g2⟩:=p0 (p3 k11);obtain⟨y0,y1,y2,hxa,hy⟩:=g2.out;obtain⟨rfl,rfl,rfl⟩:=hy k11;obtain⟨g3,g4,g5⟩:=p1 (p4 k12);obtain⟨y0,y1,y2,hxb,hy2⟩:=g5.out;obtain⟨rfl,rfl,rfl⟩:=hy2 k12;have hne:=p2 (p3 k11) (p4 k12);have HB1:=hI (HB0.o.trans (e.b.mono (by omega)));have HE1:=hI (show Bl W0 e.w from e.b)
 generalize e.w=w1 at hxa hxb HB1 HE1 g1 g4;clear k0 k1 k2 k3 k4 k5 k6 k7 k8 k11 k12 p0 p1 p2 p3 p4 hy hy2 g2 g5;simp only[putAll];rw[k9,k10];go_frame;have xa0:=kC 0 hxa rfl;have xa1:=kC 1 hxa rfl;have xa2:=kC 2 hxa rfl;have xb0:=kC 0 hxb rfl;have xb1:=kC 1 hxb rfl;have xb2:=kC 2 hxb rfl;have q0:=kC 0 ((HE1.o.block _ (by omega)).trans Q0.out) rfl;obtain⟨⟨hb0,hb1⟩,⟨hb2,hb3⟩,hb4,hb5⟩:=hok0;obtain⟨⟨ha0,ha1⟩,⟨ha2,ha3⟩,ha4,ha5⟩:=hok1;obtain⟨⟨hz0,hz1⟩,_,_⟩:=hok2;go_upto_region 3 with fail;have xz0:1<i->w1.cell? ⟨cb,off+(i-2)*3,none⟩=some (.int .i64 xz.st):=fun h=>(HE1.o.cell (p:=⟨cb,off+(i-2)*3,none⟩) hcl).trans (YZ.out h)
 by_cases hs1:xb.st-xa.st=1\/xb.st-xa.st= -1
 rotate_left
 ·have hd1:(xb.st-xa.st != 1)=true:=bne_iff_ne.2 (fun h=>hs1 (.inl h));have hd2:(xb.st-xa.st != -1)=true:=bne_iff_ne.2 (fun h=>hs1 (.inr h));have HP:=hI (show(decide (xb.st-xa.st=1)||decide (xb.st-xa.st= -1))=false by simp;exact⟨fun h=>hs1 (.inl h),fun h=>hs1 (.inr h)⟩);clear hs1 xz0
  go_quiet (fail)
  have HB2:=hI (zO HB1.o nq);go_wp2;go_ret;exact⟨ret_bool (by rw[HF.o];rw[HP.o];rfl),HB2.o⟩
 have HP:=hI (show(decide (xb.st-xa.st=1)||decide (xb.st-xa.st= -1))=true by simpa using hs1);obtain⟨k,hk⟩:∃k:Nat,min xa.st xb.st=(k:Int):=⟨(min xa.st xb.st).toNat,by omega⟩
 have hkr:k<r:=by omega
 have HMn:=hI hk;have HSec:=hI (fun X=>by have h:=section_any xa.st xb.st X;rw[hk] at h;exact h);obtain⟨rb,roff,hRe,hrb,hrc⟩:=HRu.o (by rw[Hr.o];omega);subst hRe;have hkl:k<l.run.length:=by rw[Hr.o];exact hkr
 have hr0:W0.cell? ⟨rb,roff+k,none⟩=some (.int .i64 l.run[k]):=by have h:=hrc k hkl 0 _ rfl;rwa [Nat.mul_one,Nat.add_zero] at h
 have u0:=(HE1.o.cell (p:=⟨rb,roff+k,none⟩) (show rb<W0.heap.size by omega)).trans hr0;have HRk:=hI (show l.run.getD ((k:Int)).toNat 0=l.run[k] by rw[zZ,zA,zB hkl,Option.getD_some]);have hrv:=HRv.o k hkl;rw[zA,zB hkl,Option.getD_some] at hrv;generalize l.run[k]=rv at u0 HRk hrv hr0;clear hrc hr0 hk hkl;obtain⟨hrv1,hrv2⟩:=hrv
 by_cases hi1:i<=1
 ·have hd3:decide ((1:Int)<(i:Int))=false:=by simp;omega
  have HI:=hI (show decide (i<=1)=true from zD hi1);clear xz0
  by_cases hs2:xb.st-xa.st=1
  ·have hd1:(xb.st-xa.st != 1)=false:=by rw[hs2];rfl
   clear hs1 hs2
   go_quiet (fail)
   have HB1:=hI (zO HB1.o nq);have ya0:=later_drew (n:=nq) xa0 (by omega);have ya2:=later_drew (n:=nq) xa2 (by omega);have yb0:=later_drew (n:=nq) xb0 (by omega);have yb1:=later_drew (n:=nq) xb1 (by omega);have yq0:=later_drew (n:=nq) q0 (by have:=HE1.o.size;omega);have yu0:=later_drew (n:=nq) u0 (by have:=HE1.o.size;omega);have hsz1:w.heap.size<=(w1.drewN nq).heap.size:=HB1.o.size;go_upto_region 5 with fail;clear xa0 xa1 xa2 xb0 xb1 xb2 q0 u0;refine wp_region_later (by kernel_rfl) (by kernel_rfl) ?_
   repeat (any_goals (first | go_big_quiet_step ((go_at_call 147;exact later_call_same _ (HSec.o _))) | quiet_step ((go_at_call 147;exact later_call_same _ (HSec.o _)))))
   refine wpQuiet_nil ?_;rintro w' ⟨e,rfl⟩;have HB2:=hI (HB1.o.trans (e.b.mono hsz1));go_wp2;go_ret;exact⟨ret_bool (by rw[HF.o,HMn.o,HRk.o];rw[HP.o,HI.o];rfl),HB2.o⟩
  ·have hd1:(xb.st-xa.st != 1)=true:=bne_iff_ne.2 hs2;have hd2:(xb.st-xa.st != -1)=false:=by rw[show xb.st-xa.st= -1 by omega];rfl
   clear hs1 hs2
   go_quiet (fail)
   have HB1:=hI (zO HB1.o nq);have ya0:=later_drew (n:=nq) xa0 (by omega);have ya2:=later_drew (n:=nq) xa2 (by omega);have yb0:=later_drew (n:=nq) xb0 (by omega);have yb1:=later_drew (n:=nq) xb1 (by omega);have yq0:=later_drew (n:=nq) q0 (by have:=HE1.o.size;omega);have yu0:=later_drew (n:=nq) u0 (by have:=HE1.o.size;omega);have hsz1:w.heap.size<=(w1.drewN nq).heap.size:=HB1.o.size;go_upto_region 5 with fail;clear xa0 xa1 xa2 xb0 xb1 xb2 q0 u0;refine wp_region_later (by kernel_rfl) (by kernel_rfl) ?_
   repeat (any_goals (first | go_big_quiet_step ((go_at_call 147;exact later_call_same _ (HSec.o _))) | quiet_step ((go_at_call 147;exact later_call_same _ (HSec.o _)))))
   refine wpQuiet_nil ?_;rintro w' ⟨e,rfl⟩;have HB2:=hI (HB1.o.trans (e.b.mono hsz1));go_wp2;go_ret;exact⟨ret_bool (by rw[HF.o,HMn.o,HRk.o];rw[HP.o,HI.o];rfl),HB2.o⟩
 ·have hd3:decide ((1:Int)<(i:Int))=true:=by simp;omega
  have HI:=hI (show decide (i<=1)=false from zE hi1);have x0:=xz0 (by omega);clear xz0
  by_cases hs3:xa.st-xz.st=xb.st-xa.st
  ·have hd4:(xa.st-xz.st != xb.st-xa.st)=false:=by rw[hs3];simp
   have HZ:=hI (show decide (xa.st-xz.st=xb.st-xa.st)=true from zD hs3);clear hs3
   by_cases hs2:xb.st-xa.st=1
   ·have hd1:(xb.st-xa.st != 1)=false:=by rw[hs2];rfl
    clear hs1 hs2
    go_quiet (fail)
    have HB1:=hI (zO HB1.o nq);have ya0:=later_drew (n:=nq) xa0 (by omega);have ya2:=later_drew (n:=nq) xa2 (by omega);have yb0:=later_drew (n:=nq) xb0 (by omega);have yb1:=later_drew (n:=nq) xb1 (by omega);have yq0:=later_drew (n:=nq) q0 (by have:=HE1.o.size;omega);have yu0:=later_drew (n:=nq) u0 (by have:=HE1.o.size;omega);have hsz1:w.heap.size<=(w1.drewN nq).heap.size:=HB1.o.size;go_upto_region 5 with fail;clear xa0 xa1 xa2 xb0 xb1 xb2 q0 u0;refine wp_region_later (by kernel_rfl) (by kernel_rfl) ?_
    repeat (any_goals (first | go_big_quiet_step ((go_at_call 147;exact later_call_same _ (HSec.o _))) | quiet_step ((go_at_call 147;exact later_call_same _ (HSec.o _)))))
    refine wpQuiet_nil ?_;rintro w' ⟨e,rfl⟩;have HB2:=hI (HB1.o.trans (e.b.mono hsz1));go_wp2;go_ret;exact⟨ret_bool (by rw[HF.o,HMn.o,HRk.o];rw[HP.o,HI.o,HZ.o];rfl),HB2.o⟩
   ·have hd1:(xb.st-xa.st != 1)=true:=bne_iff_ne.2 hs2;have hd2:(xb.st-xa.st != -1)=false:=by rw[show xb.st-xa.st= -1 by omega];rfl
    clear hs1 hs2
    go_quiet (fail)
    have HB1:=hI (zO HB1.o nq);have ya0:=later_drew (n:=nq) xa0 (by omega);have ya2:=later_drew (n:=nq) xa2 (by omega);have yb0:=later_drew (n:=nq) xb0 (by omega);have yb1:=later_drew (n:=nq) xb1 (by omega);have yq0:=later_drew (n:=nq) q0 (by have:=HE1.o.size;omega);have yu0:=later_drew (n:=nq) u0 (by have:=HE1.o.size;omega);have hsz1:w.heap.size<=(w1.drewN nq).heap.size:=HB1.o.size;go_upto_region 5 with fail;clear xa0 xa1 xa2 xb0 xb1 xb2 q0 u0;refine wp_region_later (by kernel_rfl) (by kernel_rfl) ?_
    repeat (any_goals (first | go_big_quiet_step ((go_at_call 147;exact later_call_same _ (HSec.o _))) | quiet_step ((go_at_call 147;exact later_call_same _ (HSec.o _)))))
    refine wpQuiet_nil ?_;rintro w' ⟨e,rfl⟩;have HB2:=hI (HB1.o.trans (e.b.mono hsz1));go_wp2;go_ret;exact⟨ret_bool (by rw[HF.o,HMn.o,HRk.o];rw[HP.o,HI.o,HZ.o];rfl),HB2.o⟩
  ·have hd4:(xa.st-xz.st != xb.st-xa.st)=true:=bne_iff_ne.2 hs3;have HZ:=hI (show decide (xa.st-xz.st=xb.st-xa.st)=false from zE hs3);clear hs3
   by_cases hs2:xb.st-xa.st=1
   ·have hd1:(xb.st-xa.st != 1)=false:=by rw[hs2];rfl
    clear hs1 hs2
    go_quiet (fail)
    have HB2:=hI (zO HB1.o nq);go_wp2;go_ret;exact⟨ret_bool (by rw[HF.o];rw[HP.o,HI.o,HZ.o];rfl),HB2.o⟩
   ·have hd1:(xb.st-xa.st != 1)=true:=bne_iff_ne.2 hs2;have hd2:(xb.st-xa.st != -1)=false:=by rw[show xb.st-xa.st= -1 by omega];rfl
    clear hs1 hs2
    go_quiet (fail)
    have HB2:=hI (zO HB1.o nq);go_wp2;go_ret;exact⟨ret_bool (by rw[HF.o];rw[HP.o,HI.o,HZ.o];rfl),HB2.o⟩
theorem CheckWay_any (l:Line) (ws:List TCall) (CA:Option Addr) (n c B:Nat) (w:World) (hl:LnIn w B l) (hw:Sl w B 3 encCall CA ws) (hn:n=ws.length) (hnc:n<=c) (hc2:c<=9223372036854775807) (hB:B<=w.heap.size) :
  Calls Tryz.prog 28 #[lineV l,.slice CA n c] w fun e w'=>e= .returned (.int .i64 (wayErr2 l ws))/\Bl w w':=by
 obtain⟨RA,hRA⟩:=eX l.RA;obtain⟨MA,hMA⟩:=eX l.MA;obtain⟨r,hr⟩:=eX l.run.length;obtain⟨m,hm⟩:=eX l.room.length;have h1:=hl.rlc;have h2:=hl.rc2;have h3:=hl.mlc;have h4:=hl.mc2;rw[hr] at h1;rw[hm] at h3;have hlv:lineV l= .agg #[.slice RA r l.rc,.slice MA m l.mc]:=by unfold lineV;rw[hRA,hMA,hr,hm]
 obtain⟨W0,hW0⟩:=eY (w.alloc (.cells #[.slice RA r l.rc,.slice MA m l.mc] 52));have hs0:W0.heap.size=w.heap.size+1:=by rw[hW0];simp
 have HB0:=hI (show Bl w W0 by rw[hW0];exact(zX _ _).alloc (zm _) _);have Q0:=hI (show W0.heap[w.heap.size]? =some (.cells #[.slice RA r l.rc,.slice MA m l.mc] 52 (0,0)) by rw[hW0];exact zW _ _)
 have HL:=hI (show ∀X,Bl W0 X->LnIn X B l/\Sl X B 3 encCall CA ws from fun X hX=>by
  have h:=HB0.o.trans (hX.mono (by omega));exact⟨⟨hl.run.below (h.mono hB),hl.room.below (h.mono hB),hl.rlc,hl.rc2,hl.mlc,hl.mc2⟩,hw.below (h.mono hB)⟩)
 obtain⟨le,hle⟩:=eX (lineErr l);have HC:=hI (CheckLine_any l B W0 (HL.o W0 (zX _ _)).1 (by omega));rw[hlv,hle] at HC;rw[hlv];have Hlv:=hI hlv;have HW0:=hI hW0;have Hn:=hI hn;have Hm:=hI hm;have Hle:=hI hle;have q0:=kC 0 Q0.out rfl;have q1:=kC 1 Q0.out rfl;clear hW0 hl hw hn hm hr hRA hMA hlv hle;go_enter Tryz.func28,Tryz.ntmps28;go_upto_region 1 with fail;rw[<- HW0.o];go_upto_region 2 with(go_at_call 26;go_loud (refine HC.o.mono ?_);rintro e w1 ⟨rfl,hb1⟩;have hs1:=hb1.size;have Hb1:=hI hb1;clear hb1)
 clear q0 q1 HC;cases h0:(le==0)
 ·have h0':(le != 0)=true:=by simp[bne,h0]
  have hne:le≠0:=fun h=>by rw[h] at h0;cases h0
  have HE:=hI (show wayErr2 l ws=le by unfold wayErr2;rw[if_pos (by rw[Hle.o];exact hne),Hle.o]);clear hne;go_wp2;go_ret;exact⟨ret_int HE.o.symm,HB0.o.trans (Hb1.o.mono (by omega))⟩
 have h0':(le != 0)=false:=by simp[bne,h0]
 have Hl0:=hI (show lineErr l=0 by rw[Hle.o];exact eq_of_beq h0)
 by_cases hn0:n=0
 ·have hn0':((n:Int)==0)=true:=by rw[hn0];rfl
  have HE:=hI (show wayErr2 l ws=1 by unfold wayErr2;rw[if_neg (by rw[Hl0.o];decide),if_pos (by rw[<- Hn.o];exact hn0)]);clear hn0;go_wp2;go_ret;exact⟨ret_int HE.o.symm,HB0.o.trans (Hb1.o.mono (by omega))⟩
 have hn0':((n:Int)==0)=false:=beq_false_of_ne (by omega);have HE:=hI (show wayErr2 l ws=firstErr (callErrAt l ws) ws.length by unfold wayErr2;rw[if_neg (by rw[Hl0.o];decide),if_neg (by rw[<- Hn.o];exact hn0)]);clear hn0;go_wp2;go_loopw [18] (fun v18 wr=>∃i:Nat,i<=n/\v18= .int .i64 i/\Hid (Bl W0 wr)/\Hid (firstErr (callErrAt l ws) i=0)) (fun v18 _=>n-(intOf v18).toNat);case atStart=>exact⟨0,by omega,rfl,Hb1,hI rfl⟩
 case round=>
  obtain⟨i,hi,rfl,Hb,Hf⟩:=hrel;have hsr:=Hb.o.size
  by_cases hlt:i<n
  ·have hil:i<ws.length:=by have:=Hn.o;omega
   obtain⟨cb,off,hCA,hcb,hcs⟩:=(HL.o wr Hb.o).2 (by omega);subst hCA;obtain⟨c0,c1,c2⟩:=call_cells hcs hil;clear hcs;have Hat:=hI (show callErrAt l ws i≠0->wayErr2 l ws=callErrAt l ws i from fun h=>HE.o.trans (firstErr_at Hf.o h hil));have Hsn:=hI (show firstErr (callErrAt l ws) (i+1)=callErrAt l ws i from firstErr_succ Hf.o)
   have HV:=hI (show callErrAt l ws i=(if withinB (ws.getD i default).st 0 ((l.room.length:Int)-1) then
    (if isTm (ws.getD i default).arr&&isTm (ws.getD i default).lv&&decide ((ws.getD i default).arr<=(ws.getD i default).lv) then
     (if decide (i=0)||folB l ws i then 0 else 8) else 1) else 7) from rfl)
   rw[Hm.o] at HV
   have Hws:=hI (show ∀k,k<i->withinB (ws.getD k default).st 0 ((l.room.length:Int)-1)=true/\(isTm (ws.getD k default).arr&&isTm (ws.getD k default).lv)=true from fun k hk=>by
    have h5:=firstErr_all Hf.o k hk;unfold callErrAt at h5
    split at h5
    ·rename_i a
     split at h5
     ·rename_i b
      exact⟨a,(Bool.and_eq_true_iff.1 b).1⟩
     ·exact absurd h5 (by decide)
    ·exact absurd h5 (by decide))
   obtain⟨x,hx⟩:=eX (ws.getD i default);rw[hx] at c0 c1 c2 HV;have Hx:=hI hx;obtain⟨W4,hW4⟩:=eY (wr.alloc (.cells #[.int .i64 x.st,.int .i64 x.arr,.int .i64 x.lv] 66));have hs4:W4.heap.size=wr.heap.size+1:=by rw[hW4];simp
   have HB4:=hI (show Bl W0 W4 by rw[hW4];exact Hb.o.alloc hsr _);have HT4:=hI (show W4.heap[wr.heap.size]? =some (.cells #[.int .i64 x.st,.int .i64 x.arr,.int .i64 x.lv] 66 (0,0)) by rw[hW4];exact zW _ _);have q0:=kC 0 ((HB4.o.block _ (by omega)).trans Q0.out) rfl;have q1:=kC 1 ((HB4.o.block _ (by omega)).trans Q0.out) rfl;have b0:=kC 0 HT4.o rfl;have b1:=kC 1 HT4.o rfl;have b2:=kC 2 HT4.o rfl;have HBn:=hI (show Bl w W4 from HB0.o.trans (HB4.o.mono (by omega)));clear hx;go_upto_region 9 with fail;rw[<- hW4];clear hW4 c0 c1 c2;cases hs:withinB x.st 0 ((m:Int)-1)
   ·have HVe:=hI (show callErrAt l ws i=7 by rw[HV.o,hs];rfl);have HR:=hI (show wayErr2 l ws=7 by rw[Hat.o (by rw[HVe.o];decide),HVe.o]);go_wp2_with (go_at_call 62;refine(within_any _ _ _ _).mono ?_;rintro e w' ⟨rfl,rfl⟩);go_ret;exact⟨ret_int HR.o.symm,HBn.o⟩
   cases ht:(isTm x.arr&&isTm x.lv&&decide (x.arr<=x.lv))
   ·have HVe:=hI (show callErrAt l ws i=1 by rw[HV.o,hs,ht];rfl);have HR:=hI (show wayErr2 l ws=1 by rw[Hat.o (by rw[HVe.o];decide),HVe.o]);clear HV;cases h8:isTm x.arr
    ·go_wp2_with (first | (go_at_call 62;refine(within_any _ _ _ _).mono ?_;rintro e w' ⟨rfl,rfl⟩) | (go_at_call 70;refine(isTime_any _ _).mono ?_;rintro e w' ⟨rfl,rfl⟩));go_ret;exact⟨ret_int HR.o.symm,HBn.o⟩
    cases h9:isTm x.lv
    ·go_wp2_with (first | (go_at_call 62;refine(within_any _ _ _ _).mono ?_;rintro e w' ⟨rfl,rfl⟩) | (go_at_call 70;refine(isTime_any _ _).mono ?_;rintro e w' ⟨rfl,rfl⟩));go_ret;exact⟨ret_int HR.o.symm,HBn.o⟩
    have hlt9:decide (x.lv<x.arr)=true:=by
     rw[h8,h9] at ht;simp at ht;simp;omega
    clear ht;go_wp2_with (first | (go_at_call 62;refine(within_any _ _ _ _).mono ?_;rintro e w' ⟨rfl,rfl⟩) | (go_at_call 70;refine(isTime_any _ _).mono ?_;rintro e w' ⟨rfl,rfl⟩));go_ret;exact⟨ret_int HR.o.symm,HBn.o⟩
   have HV2:=hI (show callErrAt l ws i=(if decide (i=0)||folB l ws i then 0 else 8) by rw[HV.o,hs,ht];rfl);have Hst:=hI hs;have Htm:=hI ht;simp only[zY,decide_eq_true_eq] at ht;obtain⟨⟨h8,h9⟩,h10⟩:=ht;have hlt9:decide (x.lv<x.arr)=false:=by simp;omega
   clear h10 HV
   by_cases hi0:i=0
   ·subst hi0;have HN:=hI (show firstErr (callErrAt l ws) 1=0 by rw[Hsn.o,HV2.o];rfl);go_wp2_with (first | (go_at_call 62;refine(within_any _ _ _ _).mono ?_;rintro e w' ⟨rfl,rfl⟩) | (go_at_call 70;refine(isTime_any _ _).mono ?_;rintro e w' ⟨rfl,rfl⟩));go_roundw;case rel=>exact⟨1,by omega,by go_num,HB4,HN⟩
    case measure=>simp[intOf];omega
   have hgt:0<i:=by omega
   have HFo:=hI (follows_any l ws (some ⟨cb,off,none⟩) n c i B W4 (HL.o W4 HB4.o).1 Hl0.o (HL.o W4 HB4.o).2 Hn.o hnc hc2 (by omega) hlt (by omega) (fun k hk=>by
    have hw1:withinB (ws.getD k default).st 0 ((l.room.length:Int)-1)=true/\(isTm (ws.getD k default).arr&&isTm (ws.getD k default).lv)=true:=by
     rcases Nat.lt_or_ge k i with h | h
     ·exact Hws.o k h
     ·obtain rfl:k=i:=by omega
      rw[Hx.o,Hm.o];exact⟨Hst.o,(Bool.and_eq_true_iff.1 Htm.o).1⟩
    have e1:=withinB_true.1 hw1.1;have e2:=Bool.and_eq_true_iff.1 hw1.2;have e3:=isTm_true.1 e2.1;have e4:=isTm_true.1 e2.2;omega))
   rw[Hlv.o] at HFo;have HV3:=hI (show callErrAt l ws i=(if folB l ws i then 0 else 8) by rw[HV2.o,zE hi0];rfl);generalize folB l ws i=fo at HFo HV3;clear hi0 HV2;cases fo
   ·have HVe:=hI (show callErrAt l ws i=8 by rw[HV3.o];rfl);have HR:=hI (show wayErr2 l ws=8 by rw[Hat.o (by rw[HVe.o];decide),HVe.o]);go_wp2_with (first | (go_at_call 62;refine(within_any _ _ _ _).mono ?_;rintro e w' ⟨rfl,rfl⟩) | (go_at_call 70;refine(isTime_any _ _).mono ?_;rintro e w' ⟨rfl,rfl⟩) | (go_at_call 82;go_loud (refine HFo.o.mono ?_);rintro e w5 ⟨rfl,hb5⟩;have Hb5:=hI hb5;clear hb5));go_ret;exact⟨ret_int HR.o.symm,HBn.o.trans (Hb5.o.mono (by omega))⟩
   ·have HN:=hI (show firstErr (callErrAt l ws) (i+1)=0 by rw[Hsn.o,HV3.o];rfl);go_wp2_with (first | (go_at_call 62;refine(within_any _ _ _ _).mono ?_;rintro e w' ⟨rfl,rfl⟩) | (go_at_call 70;refine(isTime_any _ _).mono ?_;rintro e w' ⟨rfl,rfl⟩) | (go_at_call 82;go_loud (refine HFo.o.mono ?_);rintro e w5 ⟨rfl,hb5⟩;have Hb5:=hI hb5;clear hb5));go_roundw;case rel=>exact⟨i+1,by omega,by go_num,hI (HB4.o.trans (Hb5.o.mono (by omega))),HN⟩
    case measure=>simp[intOf];omega
  ·have HR:=hI (show wayErr2 l ws=0 by
    have h1:i=ws.length:=by have:=Hn.o;omega
    rw[HE.o,<-h1];exact Hf.o)
   go_wp2;go_ret;exact⟨ret_int HR.o.symm,HB0.o.trans (Hb.o.mono (by omega))⟩
end Go.Proofs.YtjpgnfekbojcaaaGreat
