/- The specification's test of which list is less,and the length of a schedule. -/
import Derived.Test.YtjpgnfekbojcaaaGreatWRJobA
import Derived.Test.YtjpgnfekbojcaaaGreatWBst0
set_option maxHeartbeats 16000000
set_option maxRecDepth 100000
namespace Go.Proofs.YtjpgnfekbojcaaaGreat
open Go.RowKit W7 W8
attribute [local go_sem] Oper.semAt_some
theorem refLess_any (s t:List Int) (A A':Option Addr) (n c n' c':Nat) (w:World) (hn:s.length=n) (hn':t.length=n') (hA:Sl w w.heap.size 1 encInt1 A s) (hA':Sl w w.heap.size 1 encInt1 A' t) (hl:n<=1000) (hl':n'<=1000) :
  Calls Tryz.prog 177 #[.slice A n c,.slice A' n' c'] w fun e w'=>e= .returned (.bool (lessL s t))/\Bl w w':=by
 have HA:=hI (show ∀X:World,Bl w X->Sl X w.heap.size 1 encInt1 A s/\Sl X w.heap.size 1 encInt1 A' t from fun X hX=>⟨hA.below hX,hA'.below hX⟩);have Hn:=hI hn;have Hn':=hI hn';have HEn:=hI (fun i h1 h2 h3=>less_end (s:=s) (t:=t) (i:=i) h1 h2 h3);obtain⟨lv,hlv⟩:∃x,lessL s t=x:=⟨_,rfl⟩
 have Hlv:=hI (show lessL (s.drop 0) (t.drop 0)=lv from hlv);rw[hlv];clear hA hA' hn hn' hlv;go_enter Tryz.func177,Tryz.ntmps177;go_wp2;go_loopw [5] (fun v5 wr=>∃i:Nat,i<=n/\i<=n'/\v5= .int .i64 i/\Hid (lessL (s.drop i) (t.drop i)=lv)/\Hid (Bl w wr)) (fun v5 _=>n-(intOf v5).toNat);case atStart=>exact⟨0,by omega,by omega,rfl,Hlv,hI (Below.refl _ _)⟩
 case round=>
  obtain⟨i,hi,hi',rfl,HL,Hb⟩:=hrel;have hsr:=Hb.o.size
  by_cases h1:i<n
  rotate_left
  ·have HE:=hI (show lv=decide (n<n') by rw[<- HL.o,HEn.o i (by have:=Hn.o;omega) (by have:=Hn'.o;omega) (by have:=Hn.o;omega),Hn.o,Hn'.o]);go_wp2;go_ret;exact⟨ret_bool HE.o.symm,Hb.o⟩
  by_cases h2:i<n'
  rotate_left
  ·have HE:=hI (show lv=decide (n<n') by rw[<- HL.o,HEn.o i (by have:=Hn.o;omega) (by have:=Hn'.o;omega) (by have:=Hn'.o;omega),Hn.o,Hn'.o]);go_wp2;go_ret;exact⟨ret_bool HE.o.symm,Hb.o⟩
  obtain⟨b,o,hbe,hb,x0⟩:=sl_at (HA.o wr Hb.o).1 (i:=i) (by have:=Hn.o;omega);obtain⟨b',o',hbe',hb',y0⟩:=sl_at (HA.o wr Hb.o).2 (i:=i) (by have:=Hn'.o;omega);have HLs:=hI (show lessL (s.drop i) (t.drop i)=if s.getD i 0=t.getD i 0 then lessL (s.drop (i+1)) (t.drop (i+1)) else decide (s.getD i 0<t.getD i 0) by rw[drop_at (by have:=Hn.o;omega),drop_at (l:=t) (by have:=Hn'.o;omega)];rfl);rw[HL.o] at HLs;generalize s.getD i 0=x at x0 HLs;generalize t.getD i 0=y at y0 HLs;have zx:=later_cell x0 (by omega);have zy:=later_cell y0 (by omega);subst hbe hbe';cases hxy:(x==y)
  ·have hxy':(x != y)=true:=by simp[bne,hxy]
   have HE:=hI (show lv=decide (x<y) by rw[HLs.o,if_neg (fun h=>by rw[h] at hxy;simp at hxy)]);go_upto_region 4 with fail;clear x0 y0;refine wp_region_later (by kernel_rfl) (by kernel_rfl) ?_
   repeat (any_goals (first | go_big_quiet_step ((fail)) | quiet_step ((fail))))
   refine wpQuiet_nil ?_;rintro w' ⟨e5,rfl⟩;have Hb5:=hI (Hb.o.trans (e5.b.mono hsr));have hs5:=e5.b.size;have x5:=zx e5;have y5:=zy e5;clear zx zy;generalize e5.w=w5 at Hb5 hs5 x5 y5;have zx:=later_cell x5 (by omega);have zy:=later_cell y5 (by omega);go_upto_region 5 with fail;clear x5 y5;refine wp_region_later (by kernel_rfl) (by kernel_rfl) ?_
   repeat (any_goals (first | go_big_quiet_step ((fail)) | quiet_step ((fail))))
   refine wpQuiet_nil ?_;rintro w' ⟨e6,rfl⟩;have Hb6:=hI (Hb5.o.trans (e6.b.mono (by omega)));go_wp2;go_ret;exact⟨ret_bool HE.o.symm,Hb6.o⟩
  ·have hxy':(x != y)=false:=by simp[bne,hxy]
   have HV:=hI (show lessL (s.drop (i+1)) (t.drop (i+1))=lv by rw[HLs.o,if_pos (eq_of_beq hxy)]);go_upto_region 4 with fail;clear x0 y0;refine wp_region_later (by kernel_rfl) (by kernel_rfl) ?_
   repeat (any_goals (first | go_big_quiet_step ((fail)) | quiet_step ((fail))))
   refine wpQuiet_nil ?_;rintro w' ⟨e5,rfl⟩;have Hb5:=hI (Hb.o.trans (e5.b.mono hsr));go_wp2;go_roundw;case rel=>exact⟨i+1,by omega,by omega,by go_num,HV,Hb5⟩
   case measure=>simp[intOf];omega
theorem reflen_any (j:Job) (st:List Int) (SA:Option Addr) (sc B:Nat) (w:World) (hj:JIn w B j) (hB:B<=w.heap.size) (hG:JGood j.p) (hst:st.length=j.tasks.length) (hT:∀i,0<=st.getD i 0/\st.getD i 0<=100000) (hS:Sl w B 1 encInt1 SA st) :
  Calls Tryz.prog 103 #[jobV j,.slice SA j.tasks.length sc] w fun e w'=>e= .returned (.int .i64 (lenOf j.p st))/\Bl w w':=by
 obtain⟨n,hn⟩:∃n,j.tasks.length=n:=⟨_,rfl⟩
 obtain⟨TA,hTA⟩:∃x,j.TA=x:=⟨_,rfl⟩
 have hjv:jobV j= .agg #[.slice TA n j.tc,.slice j.RA j.res.length j.rc]:=by unfold jobV;rw[hn,hTA]
 rw[hn] at hst;rw[hjv,hn];obtain⟨W0,HW0,hs0,HB0,HX00,HU0⟩:=boxes1 w (.cells #[.slice TA n j.tc,.slice j.RA j.res.length j.rc] 25);have h64:n<=64:=by have:=hG.nt;rw[j.nt] at this;omega
 have hlc:=hj.tl;have hc2:=hj.tc;rw[hn] at hlc;have HJ:=hI (show ∀X:World,Bl W0 X->JIn X B j/\Sl X B 1 encInt1 SA st from fun X hX=>⟨hj.below ((HU0.o X hX).mono hB),hS.below ((HU0.o X hX).mono hB)⟩);have HG:=hI hG;have Hn:=hI hn;have HTA:=hI hTA;have Hst:=hI hst;have HT:=hI hT;have HL:=hI (show lenOf j.p st=lenTo j.p st n by unfold lenOf;rw[j.nt,hn]);have q0:=W7.bc (j:=0) (HX00.o W0 (Below.refl _ _)) rfl;have hmx:=max_run Tryz.prog;clear hj hG hn hTA hjv hst hS hT;go_enter Tryz.func103,Tryz.ntmps103;go_upto_region 1 with fail;rw[<- HW0.o];go_wp2;clear q0;go_loopw [5,6] (fun v5 v6 wr=>∃i:Nat,i<=n/\v6= .int .i64 i/\v5= .int .i64 (lenTo j.p st i)/\Hid (Bl W0 wr)) (fun _ v6 _=>n-(intOf v6).toNat);case atStart=>exact⟨0,by omega,rfl,rfl,hI (Below.refl _ _)⟩
 case round=>
  obtain⟨i,hi,rfl,rfl,Hb⟩:=hrel;have hsr:=Hb.o.size
  by_cases hlt:i<n
  ·have hil:i<j.tasks.length:=by have:=Hn.o;omega
   obtain⟨hjn,hsn⟩:=HJ.o wr Hb.o;obtain⟨tb,off,hTb,htb⟩:=hjn.ta (by omega);have hTe:TA=some ⟨tb,off,none⟩:=by rw[<- HTA.o];exact hTb
   subst hTe;obtain⟨ub,uoff,hue,hub,hcs⟩:=hsn (by have:=Hst.o;omega);subst hue
   have s0:wr.cell? ⟨ub,uoff+i,none⟩=some (.int .i64 (st.getD i 0)):=by
    have hks:i<st.length:=by have:=Hst.o;omega
    have h:=hcs i hks 0 _ rfl;rw[Nat.mul_one,Nat.add_zero] at h;rw[h,List.getD_eq_getElem?_getD,List.getElem?_eq_getElem hks]
    rfl
   obtain⟨c0,c1,c2,c3⟩:=hjn.tcells hTb hil;have htk:=HG.o.takes _ (j.Tp_mem hil);have hst9:=HT.o i;have hlb:=lenTo_le HG.o HT.o i (by rw[j.nt];omega);have HSn:=hI (show lenTo j.p st (i+1)=max (lenTo j.p st i) (st.getD i 0+(j.T i).p.takes) by rw[<- j.pT];rfl);generalize j.T i=t at c0 c1 c2 c3 htk HSn;generalize st.getD i 0=s at s0 hst9 HSn;generalize lenTo j.p st i=L at hlb HSn;obtain⟨tk,htk'⟩:∃x,t.p.takes=x:=⟨_,rfl⟩
   rw[htk'] at c1 htk HSn;clear hjn hsn hcs hTb htk';have q0:=W7.bc (j:=0) (HX00.o wr Hb.o) rfl;go_upto_region 5 with fail
   go_quiet (fail)
   go_wp2;go_roundw;case rel=>exact⟨i+1,by omega,by go_num,by rw[HSn.o],hI (below_drewN Hb.o _)⟩
   case measure=>simp[intOf];omega
  ·have HE:=hI (show lenOf j.p st=lenTo j.p st i by rw[HL.o,show n=i by omega]);go_wp2;go_ret;exact⟨ret_int HE.o.symm,HU0.o _ Hb.o⟩
theorem blk_src1 {w:World} {gb:Nat} {x:Int} {T:Nat} (h:w.heap[gb]? =some (.cells #[.int .i64 x] T (0,0))):Src w 1 (some ⟨gb,0,none⟩) 1 [.int .i64 x]:=by
 refine .inr ⟨_,rfl,by simp,fun k u hu=> ?_⟩;have h1:(⟨gb,0,none⟩:Addr).add k=⟨gb,k,none⟩:=by unfold Addr.add;split<;>simp_all
 rw[h1];exact W7.bc h (by simpa using hu)
theorem one_intsB (l:List Int):∀u∈l.map (Value.int .i64),u.oneCell'=true:=by
 intro u hu;obtain⟨x,_,rfl⟩:=List.mem_map.1 hu
 rfl
theorem own_capZ {w:World} {base e size n:Nat} {g gb:Nat} {xs:List Value} {cs:Array Value} {T:Nat} {fz:Nat×Nat} (h:w.ownsRow base e size (.slice (some ⟨g,0,none⟩) n 0) n xs) (hb:w.heap[gb]? =some (.cells cs T fz)) (hs:0<cs.size):some gb≠(Value.slice (some ⟨g,0,none⟩) n 0).ownBlock:=by
 intro e1;have e2:gb=g:=Option.some.inj e1;subst e2;rcases h.2 with⟨e0,_⟩ | ⟨g',cap,cur,e0,_,hg,_,_,hsz,_⟩
 ·cases e0
 ·simp only[Value.slice.injEq,Option.some.injEq,Addr.mk.injEq,and_true] at e0;obtain⟨rfl,_,rfl⟩:=e0;rw[hb] at hg;simp only[Option.some.injEq,Obj.cells.injEq] at hg;rw[hg.1,hsz] at hs;simp at hs
structure FdIn (X:World) (F:BFd) (A:Option Addr) (c:Nat) (l:List Int) (m:Int):Prop where
 le:l.length<=c
 cap:c<=9223372036854775807
 small:l.length<=64
 row:∃base,X.ownsRow base 3 1 (.slice A l.length c) l.length (l.map (Value.int .i64))
 ok:∀p,F=some p->p=(l,m)
def fdV (F:BFd) (A:Option Addr) (c:Nat) (l:List Int) (m:Int):Value:= .agg #[.bool F.isSome,.slice A l.length c,.int .i64 m]
theorem FdIn.below {X Y:World} {F:BFd} {A:Option Addr} {c:Nat} {l:List Int} {m:Int} (h:FdIn X F A c l m) (hb:Bl X Y):FdIn Y F A c l m:=⟨h.le,h.cap,h.small,h.row.imp fun _ h1=>own_below h1 hb,h.ok⟩
theorem FdIn.sl {X:World} {F:BFd} {A:Option Addr} {c:Nat} {l:List Int} {m:Int} (h:FdIn X F A c l m):Sl X X.heap.size 1 encInt1 A l:=by
 obtain⟨base,h1⟩:=h.row;exact sl_own2 (k:=1) (fun _=>rfl) (base:=base) (e:=3) (c:=c) (by rw[flat_int];exact h1)
structure TryR (FN:BFd) (w:World) (e:Ending) (w':World):Prop where
 ex:∃A c l m,e= .returned (fdV FN A c l m)/\FdIn w' FN A c l m
 bel:Bl w w'
def put3 (w:World) (b:Nat) (x y z:Value):World:=((w.setCell ⟨b,0,none⟩ x).setCell ⟨b,1,none⟩ y).setCell ⟨b,2,none⟩ z
theorem put3_blk {w:World} {b T:Nat} {a0 a1 a2:Value} (h:w.heap[b]? =some (.cells #[a0,a1,a2] T (0,0))) (x y z:Value):(put3 w b x y z).heap[b]? =some (.cells #[x,y,z] T (0,0)):=by
 unfold put3;rw[blk_set (blk_set (blk_set h x) y) z]
 rfl
theorem put3_ne {w:World} {b g:Nat} (hne:b≠g) (x y z:Value):(put3 w b x y z).heap[g]? =w.heap[g]? :=by
 unfold put3;rw[blk_set_ne hne,blk_set_ne hne,blk_set_ne hne]
theorem put3_size (w:World) (b:Nat) (x y z:Value):(put3 w b x y z).heap.size=w.heap.size:=by simp[put3,World.setCell]
theorem put3_below {B:Nat} {w X:World} {b:Nat} (h:Below B w X) (hb:B<=b) (x y z:Value):Below B w (put3 X b x y z):=
 ((h.setCell (p:=⟨b,0,none⟩) hb _).setCell (p:=⟨b,1,none⟩) hb _).setCell (p:=⟨b,2,none⟩) hb _
theorem own_put3 {X:World} {base b n:Nat} {v a0 a1 a2:Value} {xs:List Value} (h:X.ownsRow base 3 1 v n xs) (hb:X.heap[b]? =some (.cells #[a0,a1,a2] 175 (0,0))) (x y z:Value):(put3 X b x y z).ownsRow base 3 1 v n xs:=by
 unfold put3;exact own_setK (own_setK (own_setK h hb (by decide) _) (blk_set hb _) (by decide) _) (blk_set (blk_set hb _) _) (by decide) _
theorem FdIn.put3 {X:World} {F:BFd} {A:Option Addr} {c b:Nat} {l:List Int} {m:Int} {a0 a1 a2:Value} (h:FdIn X F A c l m) (hb:X.heap[b]? =some (.cells #[a0,a1,a2] 175 (0,0))) (x y z:Value):FdIn (put3 X b x y z) F A c l m:=
 ⟨h.le,h.cap,h.small,h.row.imp fun _ h1=>own_put3 h1 hb x y z,h.ok⟩
theorem src_st {X:World} {B:Nat} {A:Option Addr} {n:Nat} {l:List Int} (h:Sl X B 1 encInt1 A l) (hn:n=l.length):Src X 1 A n (l.map (Value.int .i64)):=by
 cases A with
 | none=>
  by_cases h0:0<l.length
  ·obtain⟨b,o,he,_⟩:=h h0;cases he
  ·exact .inl ⟨rfl,by omega,by rw[List.length_eq_zero_iff.1 (show l.length=0 by omega)];rfl⟩
 | some ad=>rw[<- flat_int];exact src_I h hn
theorem refTry0_any (j:Job) (B:Nat) (hj0:jobErr j.p=0) (h:List Int) (H:HaveOk j.p 0 h) (F:BFd) (A:Option Addr) (c:Nat) (l:List Int) (m:Int) (HA:Option Addr) (hn hc:Nat) (w:World) (hj:JIn w B j) (hB:B<=w.heap.size) (hh:StIn w w.heap.size HA hn hc h) (hF:FdIn w F A c l m) :
  Calls Tryz.prog 128 #[jobV j,.slice HA hn hc,fdV F A c l m] w (TryR (tryV j.p h F) w):=by
 have hG:=good_of hj0;obtain⟨n,hN⟩:∃n,j.tasks.length=n:=⟨_,rfl⟩
 obtain⟨TA,hTA⟩:∃x,j.TA=x:=⟨_,rfl⟩
 have htl:=hj.tl;have htc:=hj.tc;rw[hN] at htl;have hn64:n<=64:=by have:=hG.nt;rw[j.nt,hN] at this;exact this
 have hjv:jobV j= .agg #[.slice TA n j.tc,.slice j.RA j.res.length j.rc]:=by unfold jobV;rw[hN,hTA]
 have hhn:hn=n:=by have h1:=H.len;have h2:=hh.len;rw[j.nt,hN] at h1;omega
 have hperm:=H.isPerm;obtain⟨lb,hlb⟩:∃x,l.length=x:=⟨_,rfl⟩
 rw[hjv];unfold fdV;rw[hlb];obtain⟨W0,hW0⟩:∃W0,W0=(((w.alloc (.cells #[.slice TA n j.tc,.slice j.RA j.res.length j.rc] 25)).alloc (.cells #[.bool F.isSome,.slice A lb c,.int .i64 m] 175)).alloc (.cells #[.bool false,.slice none 0 0,.int .i64 0] 175)):=⟨_,rfl⟩
 have hs0:W0.heap.size=w.heap.size+3:=by rw[hW0];simp
 have HB0:=hI (show Bl w W0 by rw[hW0];exact(((Below.refl w.heap.size w).alloc (Nat.le_refl _) _).alloc (by simp) _).alloc (by simp;omega) _);have HX00:=hI (show ∀X:World,Bl W0 X->X.heap[w.heap.size]? =some (.cells #[.slice TA n j.tc,.slice j.RA j.res.length j.rc] 25 (0,0)) from fun X hX=>(hX.block _ (by omega)).trans (by rw[hW0,Below.heap_alloc _ _ _ (by simp;try omega),Below.heap_alloc _ _ _ (by simp)];exact heap_alloc_new _ _))
 have HX01:=hI (show ∀X:World,Bl W0 X->X.heap[w.heap.size+1]? =some (.cells #[.bool F.isSome,.slice A lb c,.int .i64 m] 175 (0,0)) from fun X hX=>(hX.block _ (by omega)).trans (by rw[hW0,Below.heap_alloc _ _ _ (by simp;try omega)];exact(by have h9:=heap_alloc_new (w.alloc (.cells #[.slice TA n j.tc,.slice j.RA j.res.length j.rc] 25)) (.cells #[.bool F.isSome,.slice A lb c,.int .i64 m] 175);rwa [show(w.alloc (.cells #[.slice TA n j.tc,.slice j.RA j.res.length j.rc] 25)).heap.size=w.heap.size+1 by simp] at h9)))
 have HX02:=hI (show ∀X:World,Bl W0 X->X.heap[w.heap.size+2]? =some (.cells #[.bool false,.slice none 0 0,.int .i64 0] 175 (0,0)) from fun X hX=>(hX.block _ (by omega)).trans (by rw[hW0];exact(by have h9:=heap_alloc_new ((w.alloc (.cells #[.slice TA n j.tc,.slice j.RA j.res.length j.rc] 25)).alloc (.cells #[.bool F.isSome,.slice A lb c,.int .i64 m] 175)) (.cells #[.bool false,.slice none 0 0,.int .i64 0] 175);rwa [show((w.alloc (.cells #[.slice TA n j.tc,.slice j.RA j.res.length j.rc] 25)).alloc (.cells #[.bool F.isSome,.slice A lb c,.int .i64 m] 175)).heap.size=w.heap.size+2 by simp] at h9)));have HU0:=hI (fun(X:World) (hX:Bl W0 X)=>show Bl w X from HB0.o.trans (hX.mono (by omega)));have HW0:=hI hW0;clear hW0;have HJ:=hI (show ∀X:World,Bl W0 X->JIn X B j/\StIn X w.heap.size HA hn hc h from fun X hX=>⟨hj.below ((HU0.o X hX).mono hB),hh.below (HU0.o X hX)⟩)
 have HSr:=hI (refSerial_any j h HA hn hc w.heap.size W0 (hj.mono hB |>.below HB0.o) (by omega) (HJ.o W0 (Below.refl _ _)).2);obtain⟨SG,hSG⟩:∃x,serialGo j.p 0 h h.length (bd0 j.p)=x:=⟨_,rfl⟩
 have HSE:=hI (show serErr j.p h=if SG.1 then 0 else 9 by rw[serErr_rest hj0 hperm,hSG]);have HSV:=hI (fun(h1:serErr j.p h=0)=>show serV j.p h=SG.2.st by rw[serV_ok h1,hSG]);have HSl:=hI (show SG.2.st.length=n by rw[<- hSG,(serialGo_st j.p 0 h h.length (bd0 j.p)).1];simp[bd0,j.nt,hN]);have HSt:=hI (show ∀i,0<=SG.2.st.getD i 0/\SG.2.st.getD i 0<=100000 from by rw[<- hSG];exact serialGo_times hG (perm_mem hperm) _ _ (bd0_ok j.p));have HTV:=hI (show tryV j.p h F=if SG.1 then pickV SG.2.st (lenOf j.p SG.2.st) F else F by unfold tryV;rw[hSG])
 have HRl:=hI (fun(X:World) (hX:Bl W0 X) (sA:Option Addr) (sc B2:Nat) (hB2:B2<=X.heap.size) (hB3:B<=B2) (hs:Sl X B2 1 encInt1 sA SG.2.st)=>show Calls Tryz.prog 103 #[.agg #[.slice TA n j.tc,.slice j.RA j.res.length j.rc],.slice sA n sc] X fun e w'=>e= .returned (.int .i64 (lenOf j.p SG.2.st))/\Bl X w' from by
  have h9:=reflen_any j SG.2.st sA sc B2 X ((HJ.o X hX).1.mono hB3) hB2 hG (by rw[HSl.o,hN]) HSt.o hs;rw[hjv,hN] at h9;exact h9)
 have Hn:=hI hN;have Hjv:=hI hjv;have HF:=hI hF;have Hlb:=hI hlb;rw[Hjv.o] at HSr;have hmx:=hh.small;have q0:=W7.bc (j:=0) (HX00.o W0 (Below.refl _ _)) rfl;have q1:=W7.bc (j:=1) (HX00.o W0 (Below.refl _ _)) rfl;have hen:((hn:Int)==(n:Int))=true:=by rw[hhn];simp
 obtain⟨TV,hTV⟩:∃x,tryV j.p h F=x:=⟨_,rfl⟩
 rw[hTV] at HTV ⊢
 have HKeep:=hI (fun(X:World) (hX:Bl W0 X) (he:TV=F)=>show TryR TV w (.returned (.agg #[.bool F.isSome,.slice A lb c,.int .i64 m])) (put3 X (w.heap.size+2) (.bool F.isSome) (.slice A lb c) (.int .i64 m)) from by
  have hb:=put3_below (HU0.o X hX) (show w.heap.size<=w.heap.size+2 by omega) (.bool F.isSome) (.slice A lb c) (.int .i64 m);exact⟨⟨A,c,l,m,by unfold fdV;rw[he,<-Hlb.o],by rw[he];exact(HF.o.below (HU0.o X hX)).put3 (HX02.o X hX) _ _ _⟩,hb⟩)
 have HTake:=hI (fun(X:World) (hX:Bl W0 X) (sA:Option Addr) (sc:Nat) (nv:Int) (he:TV=some (SG.2.st,nv)) (hs:X.ownsRow W0.heap.size 3 1 (.slice sA n sc) n (SG.2.st.map (Value.int .i64))) (hc1:n<=sc) (hc2:sc<=9223372036854775807)=>show TryR TV w (.returned (.agg #[.bool true,.slice sA n sc,.int .i64 nv])) (put3 X (w.heap.size+2) (.bool true) (.slice sA n sc) (.int .i64 nv)) from by
  have hb:=put3_below (HU0.o X hX) (show w.heap.size<=w.heap.size+2 by omega) (.bool true) (.slice sA n sc) (.int .i64 nv);exact⟨⟨sA,sc,SG.2.st,nv,by unfold fdV;rw[he,HSl.o];rfl,⟨by rw[HSl.o];exact hc1,hc2,by rw[HSl.o];exact hn64,⟨W0.heap.size,by rw[HSl.o];exact own_put3 hs (HX02.o X hX) _ _ _⟩,fun p hp=>by rw[he] at hp;exact(Option.some.inj hp).symm⟩⟩,hb⟩)
 clear hj hh hF hN hTA hjv hG hperm H hSG hTV hlb hj0 hhn;go_enter Tryz.func128,Tryz.ntmps128;go_upto_region 1 with fail;rw[<- HW0.o];go_upto_region 3 with(go_at_call 18;refine HSr.o.mono ?_;rintro e w2 ⟨⟨sv,rfl,hos⟩,hb2⟩;have hs2:=hb2.size;have Hos:=hI hos;have Hb2:=hI hb2;clear hos hb2;go_loud (rw[HSE.o]))
 clear q0 q1 HSr;cases hsg:SG.1
 ·have HK:=hI (HKeep.o w2 Hb2.o (by rw[HTV.o,hsg];rfl));have q0:=W7.bc (j:=0) (HX01.o w2 Hb2.o) rfl;have q1:=W7.bc (j:=1) (HX01.o w2 Hb2.o) rfl;have q2:=W7.bc (j:=2) (HX01.o w2 Hb2.o) rfl;have o0:=W7.bc (j:=0) (HX02.o w2 Hb2.o) rfl;have o1:=W7.bc (j:=1) (HX02.o w2 Hb2.o) rfl;have o2:=W7.bc (j:=2) (HX02.o w2 Hb2.o) rfl;have p0:=W7.bf (j:=0) (HX02.o w2 Hb2.o);have p1:=W7.bf (j:=1) (HX02.o w2 Hb2.o);have p2:=W7.bf (j:=2) (HX02.o w2 Hb2.o);have hg3:=put3_blk (HX02.o w2 Hb2.o) (.bool F.isSome) (.slice A lb c) (.int .i64 m);obtain⟨X1,hX1⟩:∃X1,X1=put3 w2 (w.heap.size+2) (.bool F.isSome) (.slice A lb c) (.int .i64 m):=⟨_,rfl⟩
  rw[<- hX1] at hg3 HK;unfold put3 at hX1;have e0:=W7.bc (j:=0) hg3 rfl;have e1:=W7.bc (j:=1) hg3 rfl;have e2:=W7.bc (j:=2) hg3 rfl;clear hg3;go_wp2;rw[<- hX1];refine bodyPost_ret (v:= .agg #[.bool F.isSome,.slice A lb c,.int .i64 m]) (by simp[results,Tryz.results128,go_sem,e0,e1,e2]) rfl ?_;exact HK.o
 have hse:=HSE.o;rw[hsg] at hse;have HSv:=hI (HSV.o hse);have Hos2:=hI (show w2.ownsRow W0.heap.size 3 1 sv n (SG.2.st.map (Value.int .i64)) by have h9:=Hos.o;rw[HSv.o,HSl.o] at h9;exact h9);obtain⟨sA,sc,esv,hsc1,hsc2⟩:=own_cap' Hos2.o;subst esv;have HSs:=hI (fun(X:World) (hX:X.ownsRow W0.heap.size 3 1 (.slice sA n sc) n (SG.2.st.map (Value.int .i64)))=>show Sl X X.heap.size 1 encInt1 sA SG.2.st from sl_own2 (k:=1) (fun _=>rfl) (base:=W0.heap.size) (e:=3) (c:=sc) (by rw[flat_int,HSl.o];exact hX));have HLn:=hI (HRl.o w2 Hb2.o sA sc w2.heap.size (Nat.le_refl _) (by omega) (HSs.o w2 Hos2.o));have HTk:=hI (show TV=pickV SG.2.st (lenOf j.p SG.2.st) F by rw[HTV.o,hsg];rfl);obtain⟨nv,hnv⟩:∃x,lenOf j.p SG.2.st=x:=⟨_,rfl⟩
 rw[hnv] at HLn HTk;have q0:=W7.bc (j:=0) (HX00.o w2 Hb2.o) rfl;have q1:=W7.bc (j:=1) (HX00.o w2 Hb2.o) rfl;clear hse Hos HSE HSV hnv;go_upto_region 6 with(go_at_call 103;refine HLn.o.mono ?_;rintro e w3 ⟨rfl,hb3⟩;have hs3:=hb3.size;have Hos3:=hI (own_below Hos2.o hb3);have Hb3:=hI (Hb2.o.trans (hb3.mono (by omega)));clear hb3)
 clear q0 q1 HLn;have q0:=W7.bc (j:=0) (HX01.o w3 Hb3.o) rfl;have q1:=W7.bc (j:=1) (HX01.o w3 Hb3.o) rfl;have q2:=W7.bc (j:=2) (HX01.o w3 Hb3.o) rfl;cases F with
 | none=>
  have o0:=W7.bc (j:=0) (HX02.o w3 Hb3.o) rfl;have o1:=W7.bc (j:=1) (HX02.o w3 Hb3.o) rfl;have o2:=W7.bc (j:=2) (HX02.o w3 Hb3.o) rfl;have p0:=W7.bf (j:=0) (HX02.o w3 Hb3.o);have p1:=W7.bf (j:=1) (HX02.o w3 Hb3.o);have p2:=W7.bf (j:=2) (HX02.o w3 Hb3.o);have hg3:=put3_blk (HX02.o w3 Hb3.o) (.bool true) (.slice sA n sc) (.int .i64 nv);have HR:=hI (HTake.o w3 Hb3.o sA sc nv HTk.o Hos3.o hsc1 hsc2);obtain⟨X1,hX1⟩:∃X1,X1=put3 w3 (w.heap.size+2) (.bool true) (.slice sA n sc) (.int .i64 nv):=⟨_,rfl⟩
  rw[<- hX1] at hg3 HR;unfold put3 at hX1;have e0:=W7.bc (j:=0) hg3 rfl;have e1:=W7.bc (j:=1) hg3 rfl;have e2:=W7.bc (j:=2) hg3 rfl;clear hg3;go_wp2;rw[<- hX1];refine bodyPost_ret (v:= .agg #[.bool true,.slice sA n sc,.int .i64 nv]) (by simp[results,Tryz.results128,go_sem,e0,e1,e2]) rfl ?_;exact HR.o
 | some p=>
  have hp:p=(l,m):=HF.o.ok p rfl;subst hp;have HTS:=hI (HTk.o.trans (pick_some SG.2.st nv l m));clear HTk
  by_cases h1:nv<m
  ·have HT1:=hI (HTS.o.trans (if_pos (.inl h1)));have hd:decide (nv<m)=true:=decide_eq_true h1;have o0:=W7.bc (j:=0) (HX02.o w3 Hb3.o) rfl;have o1:=W7.bc (j:=1) (HX02.o w3 Hb3.o) rfl;have o2:=W7.bc (j:=2) (HX02.o w3 Hb3.o) rfl;have p0:=W7.bf (j:=0) (HX02.o w3 Hb3.o);have p1:=W7.bf (j:=1) (HX02.o w3 Hb3.o);have p2:=W7.bf (j:=2) (HX02.o w3 Hb3.o);have hg3:=put3_blk (HX02.o w3 Hb3.o) (.bool true) (.slice sA n sc) (.int .i64 nv);have HR:=hI (HTake.o w3 Hb3.o sA sc nv HT1.o Hos3.o hsc1 hsc2);obtain⟨X1,hX1⟩:∃X1,X1=put3 w3 (w.heap.size+2) (.bool true) (.slice sA n sc) (.int .i64 nv):=⟨_,rfl⟩
   rw[<- hX1] at hg3 HR;unfold put3 at hX1;have e0:=W7.bc (j:=0) hg3 rfl;have e1:=W7.bc (j:=1) hg3 rfl;have e2:=W7.bc (j:=2) hg3 rfl;clear hg3;go_wp2;rw[<- hX1];refine bodyPost_ret (v:= .agg #[.bool true,.slice sA n sc,.int .i64 nv]) (by simp[results,Tryz.results128,go_sem,e0,e1,e2]) rfl ?_;exact HR.o
  have hd:decide (nv<m)=false:=decide_eq_false h1;cases h2:(nv==m)
  ·have HT1:=hI (HTS.o.trans (if_neg (fun h3=>by rcases h3 with h3 | ⟨h3,_⟩;exact h1 h3;rw[h3] at h2;simp at h2)));have o0:=W7.bc (j:=0) (HX02.o w3 Hb3.o) rfl;have o1:=W7.bc (j:=1) (HX02.o w3 Hb3.o) rfl;have o2:=W7.bc (j:=2) (HX02.o w3 Hb3.o) rfl;have p0:=W7.bf (j:=0) (HX02.o w3 Hb3.o);have p1:=W7.bf (j:=1) (HX02.o w3 Hb3.o);have p2:=W7.bf (j:=2) (HX02.o w3 Hb3.o);have hg3:=put3_blk (HX02.o w3 Hb3.o) (.bool true) (.slice A lb c) (.int .i64 m);have HR:=hI (show TryR TV w (.returned (.agg #[.bool true,.slice A lb c,.int .i64 m])) (put3 w3 (w.heap.size+2) (.bool true) (.slice A lb c) (.int .i64 m)) from HKeep.o w3 Hb3.o HT1.o);obtain⟨X1,hX1⟩:∃X1,X1=put3 w3 (w.heap.size+2) (.bool true) (.slice A lb c) (.int .i64 m):=⟨_,rfl⟩
   rw[<- hX1] at hg3 HR;unfold put3 at hX1;have e0:=W7.bc (j:=0) hg3 rfl;have e1:=W7.bc (j:=1) hg3 rfl;have e2:=W7.bc (j:=2) hg3 rfl;clear hg3;go_wp2;rw[<- hX1];refine bodyPost_ret (v:= .agg #[.bool true,.slice A lb c,.int .i64 m]) (by simp[results,Tryz.results128,go_sem,e0,e1,e2]) rfl ?_;exact HR.o
  obtain⟨lv,hlv⟩:∃x,lessL SG.2.st l=x:=⟨_,rfl⟩
  have HLe:=hI (refLess_any SG.2.st l sA A n sc lb c w3 HSl.o Hlb.o (HSs.o w3 Hos3.o) ((HF.o.below (HU0.o w3 Hb3.o)).sl) (by omega) (by have:=HF.o.small;have:=Hlb.o;omega));rw[hlv] at HLe;have HLv:=hI hlv;have He:=hI (eq_of_beq h2);clear hlv;cases lv
  ·have HT1:=hI (HTS.o.trans (if_neg (fun h3=>by rcases h3 with h3 | ⟨_,h3⟩;exact h1 h3;rw[HLv.o] at h3;cases h3)));go_upto_region 8 with(go_at_call 177;refine HLe.o.mono ?_;rintro e w4 ⟨rfl,hb4⟩;have Hb4:=hI (Hb3.o.trans (hb4.mono (by omega)));clear hb4)
   clear q0 q1 q2;have q0:=W7.bc (j:=0) (HX01.o w4 Hb4.o) rfl;have q1:=W7.bc (j:=1) (HX01.o w4 Hb4.o) rfl;have q2:=W7.bc (j:=2) (HX01.o w4 Hb4.o) rfl;have o0:=W7.bc (j:=0) (HX02.o w4 Hb4.o) rfl;have o1:=W7.bc (j:=1) (HX02.o w4 Hb4.o) rfl;have o2:=W7.bc (j:=2) (HX02.o w4 Hb4.o) rfl;have p0:=W7.bf (j:=0) (HX02.o w4 Hb4.o);have p1:=W7.bf (j:=1) (HX02.o w4 Hb4.o);have p2:=W7.bf (j:=2) (HX02.o w4 Hb4.o);have hg3:=put3_blk (HX02.o w4 Hb4.o) (.bool true) (.slice A lb c) (.int .i64 m);have HR:=hI (show TryR TV w (.returned (.agg #[.bool true,.slice A lb c,.int .i64 m])) (put3 w4 (w.heap.size+2) (.bool true) (.slice A lb c) (.int .i64 m)) from HKeep.o w4 Hb4.o HT1.o);obtain⟨X1,hX1⟩:∃X1,X1=put3 w4 (w.heap.size+2) (.bool true) (.slice A lb c) (.int .i64 m):=⟨_,rfl⟩
   rw[<- hX1] at hg3 HR;unfold put3 at hX1;have e0:=W7.bc (j:=0) hg3 rfl;have e1:=W7.bc (j:=1) hg3 rfl;have e2:=W7.bc (j:=2) hg3 rfl;clear hg3;go_wp2;rw[<- hX1];refine bodyPost_ret (v:= .agg #[.bool true,.slice A lb c,.int .i64 m]) (by simp[results,Tryz.results128,go_sem,e0,e1,e2]) rfl ?_;exact HR.o
  ·have HT1:=hI (HTS.o.trans (if_pos (.inr ⟨He.o,HLv.o⟩)));go_upto_region 7 with(go_at_call 177;refine HLe.o.mono ?_;rintro e w4 ⟨rfl,hb4⟩;have Hos4:=hI (own_below Hos3.o hb4);have Hb4:=hI (Hb3.o.trans (hb4.mono (by omega)));clear hb4)
   clear q0 q1 q2;have o0:=W7.bc (j:=0) (HX02.o w4 Hb4.o) rfl;have o1:=W7.bc (j:=1) (HX02.o w4 Hb4.o) rfl;have o2:=W7.bc (j:=2) (HX02.o w4 Hb4.o) rfl;have p0:=W7.bf (j:=0) (HX02.o w4 Hb4.o);have p1:=W7.bf (j:=1) (HX02.o w4 Hb4.o);have p2:=W7.bf (j:=2) (HX02.o w4 Hb4.o);have hg3:=put3_blk (HX02.o w4 Hb4.o) (.bool true) (.slice sA n sc) (.int .i64 nv);have HR:=hI (HTake.o w4 Hb4.o sA sc nv HT1.o Hos4.o hsc1 hsc2);obtain⟨X1,hX1⟩:∃X1,X1=put3 w4 (w.heap.size+2) (.bool true) (.slice sA n sc) (.int .i64 nv):=⟨_,rfl⟩
   rw[<- hX1] at hg3 HR;unfold put3 at hX1;have e0:=W7.bc (j:=0) hg3 rfl;have e1:=W7.bc (j:=1) hg3 rfl;have e2:=W7.bc (j:=2) hg3 rfl;clear hg3;go_wp2;rw[<- hX1];refine bodyPost_ret (v:= .agg #[.bool true,.slice sA n sc,.int .i64 nv]) (by simp[results,Tryz.results128,go_sem,e0,e1,e2]) rfl ?_;exact HR.o
theorem any_eq_contains (h:List Int) (i:Int):h.any (fun y=>y==i)=h.contains i:=by
 rw[List.contains_eq_any_beq]
 congr 1
 funext y
 exact Bool.beq_comm
theorem refTries_any (j:Job) (B:Nat) (hj0:jobErr j.p=0):∀(f:Nat) (h:List Int) (_H:HaveOk j.p f h) (F:BFd) (A:Option Addr) (c:Nat) (l:List Int) (m:Int) (HA:Option Addr) (hn hc:Nat) (w:World) (_hj:JIn w B j) (_hB:B<=w.heap.size) (_hh:StIn w w.heap.size HA hn hc h) (_hF:FdIn w F A c l m),
  Calls Tryz.prog 128 #[jobV j,.slice HA hn hc,fdV F A c l m] w (TryR (bestGo j.p f h F) w):=by
 intro f
 induction f with
 | zero=>exact fun h H F A c l m HA hn hc w hj hB hh hF=>refTry0_any j B hj0 h H F A c l m HA hn hc w hj hB hh hF
 | succ f ih=>
  intro h H F A c l m HA hn hc w hj hB hh hF;have hG:=good_of hj0;obtain⟨n,hN⟩:∃n,j.tasks.length=n:=⟨_,rfl⟩
  obtain⟨TA,hTA⟩:∃x,j.TA=x:=⟨_,rfl⟩
  have htl:=hj.tl;have htc:=hj.tc;rw[hN] at htl;have hn64:n<=64:=by have:=hG.nt;rw[j.nt,hN] at this;exact this
  have hjv:jobV j= .agg #[.slice TA n j.tc,.slice j.RA j.res.length j.rc]:=by unfold jobV;rw[hN,hTA]
  have hhn:hn<n:=by have h1:=H.len;have h2:=hh.len;rw[j.nt,hN] at h1;omega
  obtain⟨lb,hlb⟩:∃x,l.length=x:=⟨_,rfl⟩
  rw[hjv];have HW9:=hI (show fdV F A c l m= .agg #[.bool F.isSome,.slice A lb c,.int .i64 m] by unfold fdV;rw[hlb]);rw[HW9.o];obtain⟨W0,hW0⟩:∃W0,W0=(((w.alloc (.cells #[.slice TA n j.tc,.slice j.RA j.res.length j.rc] 25)).alloc (.cells #[.bool F.isSome,.slice A lb c,.int .i64 m] 175)).alloc (.cells #[.bool false,.slice none 0 0,.int .i64 0] 175)):=⟨_,rfl⟩
  have hs0:W0.heap.size=w.heap.size+3:=by rw[hW0];simp
  have HB0:=hI (show Bl w W0 by rw[hW0];exact(((Below.refl w.heap.size w).alloc (Nat.le_refl _) _).alloc (by simp) _).alloc (by simp;omega) _);have HX00:=hI (show ∀X:World,Bl W0 X->X.heap[w.heap.size]? =some (.cells #[.slice TA n j.tc,.slice j.RA j.res.length j.rc] 25 (0,0)) from fun X hX=>(hX.block _ (by omega)).trans (by rw[hW0,Below.heap_alloc _ _ _ (by simp;try omega),Below.heap_alloc _ _ _ (by simp)];exact heap_alloc_new _ _))
  have HX01:=hI (show ∀X:World,Bl W0 X->X.heap[w.heap.size+1]? =some (.cells #[.bool F.isSome,.slice A lb c,.int .i64 m] 175 (0,0)) from fun X hX=>(hX.block _ (by omega)).trans (by rw[hW0,Below.heap_alloc _ _ _ (by simp;try omega)];exact(by have h9:=heap_alloc_new (w.alloc (.cells #[.slice TA n j.tc,.slice j.RA j.res.length j.rc] 25)) (.cells #[.bool F.isSome,.slice A lb c,.int .i64 m] 175);rwa [show(w.alloc (.cells #[.slice TA n j.tc,.slice j.RA j.res.length j.rc] 25)).heap.size=w.heap.size+1 by simp] at h9)))
  have HX02:=hI (show ∀X:World,Bl W0 X->X.heap[w.heap.size+2]? =some (.cells #[.bool false,.slice none 0 0,.int .i64 0] 175 (0,0)) from fun X hX=>(hX.block _ (by omega)).trans (by rw[hW0];exact(by have h9:=heap_alloc_new ((w.alloc (.cells #[.slice TA n j.tc,.slice j.RA j.res.length j.rc] 25)).alloc (.cells #[.bool F.isSome,.slice A lb c,.int .i64 m] 175)) (.cells #[.bool false,.slice none 0 0,.int .i64 0] 175);rwa [show((w.alloc (.cells #[.slice TA n j.tc,.slice j.RA j.res.length j.rc] 25)).alloc (.cells #[.bool F.isSome,.slice A lb c,.int .i64 m] 175)).heap.size=w.heap.size+2 by simp] at h9)));have HU0:=hI (fun(X:World) (hX:Bl W0 X)=>show Bl w X from HB0.o.trans (hX.mono (by omega)));have HW0:=hI hW0;clear hW0;have HJ:=hI (show ∀X:World,Bl w X->JIn X B j/\Sl X w.heap.size 1 encInt1 HA h from fun X hX=>⟨hj.below (hX.mono hB),hh.sl.below hX⟩);have HI:=hI ih;have HOk:=hI H;have Hhl:=hI hh.len;have hle:=hh.le
  have hcap:=hh.cap;have Hjv:=hI hjv;have Hn:=hI hN;have HS0:=hI (show FdIn W0 (bestTo j.p f h F 0) A c l m from hF.below HB0.o);have HX1s:=hI (show W0.heap[w.heap.size+1]? =some (.cells #[.bool (bestTo j.p f h F 0).isSome,.slice A l.length c,.int .i64 m] 175 (0,0)) by rw[hlb];exact HX01.o W0 (Below.refl _ _));have hen:((hn:Int)==(n:Int))=false:=by rw[beq_eq_false_iff_ne];omega
  have HEnd:=hI (show bestGo j.p (f+1) h F=bestTo j.p f h F n by rw[bestGo_succ,j.nt,hN]);obtain⟨GV,hGV⟩:∃x,bestGo j.p (f+1) h F=x:=⟨_,rfl⟩
  rw[hGV] at HEnd ⊢;have q0:=W7.bc (j:=0) (HX00.o W0 (Below.refl _ _)) rfl;have q1:=W7.bc (j:=1) (HX00.o W0 (Below.refl _ _)) rfl;clear hj hh hF hN hTA hjv hG H hGV ih hlb HW9;go_enter Tryz.func128,Tryz.ntmps128;go_upto_region 1 with fail;rw[<- HW0.o];go_wp2;clear q0 q1;go_loopw [10] (fun v10 wr=>∃(i:Nat) (A:Option Addr) (c:Nat) (l:List Int) (m:Int),i<=n/\v10= .int .i64 i/\Hid (FdIn wr (bestTo j.p f h F i) A c l m)/\Hid (wr.heap[w.heap.size+1]? =some (.cells #[.bool (bestTo j.p f h F i).isSome,.slice A l.length c,.int .i64 m] 175 (0,0)))/\Hid (wr.heap[w.heap.size]? =some (.cells #[.slice TA n j.tc,.slice j.RA j.res.length j.rc] 25 (0,0)))/\Hid (wr.heap[w.heap.size+2]? =some (.cells #[.bool false,.slice none 0 0,.int .i64 0] 175 (0,0)))/\Hid (Bl w wr)) (fun v10 _=>n-(intOf v10).toNat);case atStart=>exact⟨0,A,c,l,m,by omega,rfl,HS0,HX1s,hI (HX00.o W0 (Below.refl _ _)),hI (HX02.o W0 (Below.refl _ _)),HB0⟩
  case round=>
   obtain⟨i,Ab,cb,lc,nb,hi,rfl,HFd,HXf,HXq,HXr,Hbw⟩:=hrel;obtain⟨wl,hwl⟩:∃z,z=wr:=⟨_,rfl⟩
   subst hwl;have hsz:=Hbw.o.size;have hl2:=blk_lt HXr.o;have HSu:=hI (bestTo_succ j.p f h F i);obtain⟨Fi,hFi⟩:∃x,bestTo j.p f h F i=x:=⟨_,rfl⟩
   obtain⟨lb2,hlb2⟩:∃x,lc.length=x:=⟨_,rfl⟩
   have Hlb2:=hI hlb2;rw[hFi] at HFd HXf HSu;rw[hlb2] at HXf;have HFi:=hI hFi;clear hFi hlb2
   by_cases hlt:i<n
   rotate_left
   ·have HE:=hI (show GV=Fi by rw[HEnd.o,show n=i by omega,HFi.o]);have q0:=W7.bc (j:=0) HXq.o rfl;have u0:=W7.bc (j:=0) HXf.o rfl;have u1:=W7.bc (j:=1) HXf.o rfl;have u2:=W7.bc (j:=2) HXf.o rfl;have o0:=W7.bc (j:=0) HXr.o rfl;have o1:=W7.bc (j:=1) HXr.o rfl;have o2:=W7.bc (j:=2) HXr.o rfl;have p0:=W7.bf (j:=0) HXr.o;have p1:=W7.bf (j:=1) HXr.o;have p2:=W7.bf (j:=2) HXr.o;have hg3:=put3_blk HXr.o (.bool Fi.isSome) (.slice Ab lb2 cb) (.int .i64 nb);have HR:=hI (show TryR GV w (.returned (.agg #[.bool Fi.isSome,.slice Ab lb2 cb,.int .i64 nb])) (put3 wl (w.heap.size+2) (.bool Fi.isSome) (.slice Ab lb2 cb) (.int .i64 nb)) from⟨⟨Ab,cb,lc,nb,by unfold fdV;rw[HE.o,Hlb2.o],by rw[HE.o];exact HFd.o.put3 HXr.o _ _ _⟩,put3_below Hbw.o (by omega) _ _ _⟩);obtain⟨X1,hX1⟩:∃X1,X1=put3 wl (w.heap.size+2) (.bool Fi.isSome) (.slice Ab lb2 cb) (.int .i64 nb):=⟨_,rfl⟩
    rw[<- hX1] at hg3 HR;unfold put3 at hX1;have e0:=W7.bc (j:=0) hg3 rfl;have e1:=W7.bc (j:=1) hg3 rfl;have e2:=W7.bc (j:=2) hg3 rfl;clear hg3;go_wp2;rw[<- hX1];refine bodyPost_ret (v:= .agg #[.bool Fi.isSome,.slice Ab lb2 cb,.int .i64 nb]) (by simp[results,Tryz.results128,go_sem,e0,e1,e2]) rfl ?_;exact HR.o
   have q0:=W7.bc (j:=0) HXq.o rfl;go_wp2;clear q0;go_loopw [11,12] (fun v11 v12 wx=>∃k:Nat,k<=hn/\v12= .int .i64 k/\v11= .bool ((h.take k).any (fun y=>y==(i:Int)))/\Hid (Bl wl wx)) (fun _ v12 _=>hn-(intOf v12).toNat);case atStart=>exact⟨0,by omega,rfl,rfl,hI (Below.refl _ _)⟩
   case round=>
    obtain⟨k,hk,rfl,rfl,Hb3⟩:=hrel;have hsz3:=Hb3.o.size;have Hb2:=hI (show Bl w wr from Hbw.o.trans (Hb3.o.mono hsz))
    by_cases hlk:k<hn
    ·obtain⟨b,o,hbe,hbB,c0⟩:=sl_at (HJ.o wr Hb2.o).2 (i:=k) (by have:=Hhl.o;omega);subst hbe
     have HTk:=hI (show(h.take (k+1)).any (fun y=>y==(i:Int))=((h.take k).any (fun y=>y==(i:Int))||(h.getD k 0==(i:Int))) by
      have hkl:k<h.length:=by have:=Hhl.o;omega
      rw[List.take_add_one,List.any_append,List.getD_eq_getElem?_getD,List.getElem?_eq_getElem hkl];simp)
     generalize h.getD k 0=y at c0 HTk;generalize (h.take k).any (fun y=>y==(i:Int))=ub at HTk;cases ub
     ·have HT2:=hI (show(y==(i:Int))=(h.take (k+1)).any (fun y=>y==(i:Int)) by rw[HTk.o];rfl);go_wp2;go_roundw;case rel=>exact⟨k+1,by omega,by go_num,by rw[HT2.o],Hb3⟩
      case measure=>simp[intOf];omega
     ·have HT2:=hI (show true=(h.take (k+1)).any (fun y=>y==(i:Int)) by rw[HTk.o];rfl);go_wp2;go_roundw;case rel=>exact⟨k+1,by omega,by go_num,by rw[<- HT2.o],Hb3⟩
      case measure=>simp[intOf];omega
    ·have HU:=hI (show(h.take k).any (fun y=>y==(i:Int))=h.contains (i:Int) by rw[List.take_of_length_le (by have:=Hhl.o;omega),any_eq_contains]);generalize (h.take k).any (fun y=>y==(i:Int))=ub at HU;cases ub;rotate_left
     ·have HS2:=hI (show bestTo j.p f h F (i+1)=Fi by rw[HSu.o];unfold stepB;rw[<- HU.o];rfl);go_wp2;go_roundw;case rel=>exact⟨i+1,Ab,cb,lc,nb,by omega,by go_num,by rw[HS2.o];exact hI (HFd.o.below Hb3.o),by rw[HS2.o,Hlb2.o];exact hI ((Hb3.o.block _ (by omega)).trans HXf.o),hI ((Hb3.o.block _ (by omega)).trans HXq.o),hI ((Hb3.o.block _ (by omega)).trans HXr.o),Hb2⟩
      case measure=>simp[intOf];omega
     ·have hcf:h.contains (i:Int)=false:=HU.o.symm;have HS2:=hI (show bestTo j.p f h F (i+1)=bestGo j.p f (h++[(i:Int)]) Fi by rw[HSu.o];unfold stepB;rw[hcf];rfl);have HOk2:=hI (HOk.o.snoc (i:=i) (by rw[j.nt,Hn.o];exact hlt) hcf);obtain⟨FN,hFN⟩:∃x,bestGo j.p f (h++[(i:Int)]) Fi=x:=⟨_,rfl⟩
      have HXj:=hI (show ∀X:World,Bl wr X->X.heap[w.heap.size]? =some (.cells #[.slice TA n j.tc,.slice j.RA j.res.length j.rc] 25 (0,0)) from fun X hX=>(hX.block _ (by omega)).trans ((Hb3.o.block _ (by omega)).trans HXq.o));have HXb:=hI (show ∀X:World,Bl wr X->X.heap[w.heap.size+1]? =some (.cells #[.bool Fi.isSome,.slice Ab lb2 cb,.int .i64 nb] 175 (0,0)) from fun X hX=>(hX.block _ (by omega)).trans ((Hb3.o.block _ (by omega)).trans HXf.o));have HXr2:=hI (show ∀X:World,Bl wr X->X.heap[w.heap.size+2]? =some (.cells #[.bool false,.slice none 0 0,.int .i64 0] 175 (0,0)) from fun X hX=>(hX.block _ (by omega)).trans ((Hb3.o.block _ (by omega)).trans HXr.o));have hswr:=Hb2.o.size;have HSrc:=hI (show ∀X:World,Bl wr X->Src X 1 HA hn (h.map (Value.int .i64)) from fun X hX=>src_st (HJ.o X (Hb2.o.trans (hX.mono hswr))).2 Hhl.o)
      have HTr:=hI (fun(X:World) (hX:Bl wr X) (A9:Option Addr) (c9:Nat) (ho:X.ownsRow wr.heap.size 3 1 (.slice A9 (hn+1) c9) (hn+1) (h.map (Value.int .i64)++[.int .i64 (i:Int)])) (hc1:hn+1<=c9) (hc2:c9<=9223372036854775807)=>show Calls Tryz.prog 128 #[.agg #[.slice TA n j.tc,.slice j.RA j.res.length j.rc],.slice A9 (hn+1) c9,.agg #[.bool Fi.isSome,.slice Ab lb2 cb,.int .i64 nb]] X (TryR FN X) from by
       have h9:=HI.o (h++[(i:Int)]) HOk2.o Fi Ab cb lc nb A9 (hn+1) c9 X (HJ.o X (Hb2.o.trans (hX.mono hswr))).1 (by have:=hX.size;omega) ⟨by rw[List.length_append,<-Hhl.o];rfl,by omega,hc1,hc2,sl_own2 (k:=1) (fun _=>rfl) (base:=wr.heap.size) (e:=3) (c:=c9) (by rw[flat_int,List.map_append,List.length_append,<-Hhl.o];exact ho)⟩ (HFd.o.below (Hb3.o.trans (hX.mono hsz3)));rw[Hjv.o,hFN] at h9;unfold fdV at h9;rw[Hlb2.o] at h9;exact h9)
      rw[hFN] at HS2;clear hcf hFN;go_upto_region 18 with fail
      obtain⟨C,hC⟩:∃C:(Nat->Bool)->(Nat->Value)->World->Prop,C=fun L V w'=>∃(e:Later w),w'=e.w/\(L 9=false->Hid (Bl wr e.w))/\(L 6=true->L 3=true/\L 5=true)/\(L 3=true->L 1=true)/\(L 9=true->L 8=true)/\(L 8=true->L 0=true/\L 6=true/\L 7=true)/\(L 0=true->V 0= .agg #[.slice TA n j.tc,.slice j.RA j.res.length j.rc])/\(L 1=true->L 3=false->Hid (∃g,V 1= .slice (some ⟨g,0,none⟩) 0 0/\e.w.ownsRow wr.heap.size 3 1 (V 1) 0 []))/\(L 2=true->V 2= .slice HA hn hc)/\(L 3=true->L 6=false->Hid (e.w.ownsRow wr.heap.size 3 1 (V 3) hn (h.map (Value.int .i64))))/\(L 4=true->V 4= .int .i64 (i:Int))/\(L 5=true->L 6=false->Hid (∃gb,V 5= .slice (some ⟨gb,0,none⟩) 1 1/\e.w.heap[gb]? =some (.cells #[.int .i64 (i:Int)] 3 (0,0))))/\(L 6=true->L 8=false->Hid (e.w.ownsRow wr.heap.size 3 1 (V 6) (hn+1) (h.map (Value.int .i64)++[.int .i64 (i:Int)])))/\(L 7=true->V 7= .agg #[.bool Fi.isSome,.slice Ab lb2 cb,.int .i64 nb])/\(L 8=true->L 9=false->Hid (∃A c l m,V 8=fdV FN A c l m/\FdIn e.w FN A c l m))/\(L 9=true->Hid (∃(X:World) (A:Option Addr) (c:Nat) (l:List Int) (m:Int),Bl wr X/\FdIn X FN A c l m/\l.length<=64/\e.w=put3 X (w.heap.size+1) (.bool FN.isSome) (.slice A l.length c) (.int .i64 m))):=⟨_,rfl⟩
      have HC:=hI hC;clear hC;refine wp_region_opsA [80,81,82,83,84,85,86,87,88] C (by kernel_rfl) (by kernel_rfl) (by decide) (by kernel_rfl) (by kernel_rfl) ?_ ?_ ?_
      ·rw[HC.o];exact⟨⟨wr.drew,(Hb2.o).drew⟩,rfl,fun _=>hI ((Below.refl _ _).drew),nff,nff,nff,nff,nff,nff,nff,nff,nff,nff,nff,nff,nff,nff⟩
      ·rintro L V w' ii o AA hii ho hLi haf hInv hAA hFF;rw[HC.o] at hInv;obtain⟨e,rfl,p0,p1,p2,p3,p4,h0,h1,h2,h3,h4,h5,h6,h7,h8,h9⟩:=hInv;rcases ii with _ | _ | _ | _ | _ | _ | _ | _ | _ | _ | ii;case succ.succ.succ.succ.succ.succ.succ.succ.succ.succ=>(simp at hii;try omega)
       all_goals (simp only[List.getElem?_cons_zero,List.getElem?_cons_succ,Option.some.injEq] at ho;subst ho)
       all_goals clear hii
       ·have f3:AA.tmps[3]?.getD undef= .pointer (some ⟨w.heap.size,0,none⟩):=hFF.out 3 (by decide);have hl9:L 9=false:=(by cases h9:L 9 with | false=>rfl | true=>exact absurd (hLi.symm.trans (p4 (p3 h9)).1) (by decide))
        have hbw:=hI (p0 hl9).out;have q0:=W7.bc (j:=0) (HXj.o e.w hbw.out) rfl;have q1:=W7.bc (j:=1) (HXj.o e.w hbw.out) rfl;go_wp2;rw[HC.o];exact⟨_,rfl,e,rfl,p0,p1,p2,p3,fun z=>⟨rfl,(p4 z).2⟩,fun _=>rfl,h1,h2,h3,h4,h5,h6,h7,h8,h9⟩
       ·have hl3:L 3=false:=(by cases h9:L 3 with | false=>rfl | true=>exact absurd (hLi.symm.trans (p2 h9)) (by decide))
        have hl6:L 6=false:=(by cases h9:L 6 with | false=>rfl | true=>exact absurd (hl3.symm.trans (p1 h9).1) (by decide))
        have hl8:L 8=false:=(by cases h9:L 8 with | false=>rfl | true=>exact absurd (hl6.symm.trans (p4 h9).2.1) (by decide))
        have hl9:L 9=false:=(by cases h9:L 9 with | false=>rfl | true=>exact absurd (hl8.symm.trans (p3 h9)) (by decide))
        have hsw:=hswr;have hbw:=hI (p0 hl9).out;have hse:=hbw.out.size;go_wp2;rw[HC.o];exact⟨_,rfl,⟨_,e.b.alloc (by omega) (.cells #[] 3)⟩,rfl,fun y=>hI ((p0 y).out.alloc hse _),p1,fun _=>rfl,p3,p4,h0,fun _ _=>hI ⟨_,rfl,World.ownsRow_lit (base:=wr.heap.size) (e:=3) (size:=1) e.w #[] 0 hse (by unfold maxLen;omega) rfl⟩,h2,fun y=>absurd (hl3.symm.trans y) (by decide),h4,fun y y2=>(by obtain⟨gb,u1,u2⟩:=(h5 y y2).out;exact hI ⟨gb,u1,(Below.heap_alloc _ _ _ (blk_lt u2)).trans u2⟩),fun y=>absurd (hl6.symm.trans y) (by decide),h7,fun y=>absurd (hl8.symm.trans y) (by decide),fun y=>absurd (hl9.symm.trans y) (by decide)⟩
       ·have f1:AA.tmps[1]?.getD undef= .slice HA hn hc:=hFF.out 1 (by decide);go_wp2;rw[HC.o];exact⟨_,rfl,e,rfl,p0,p1,p2,p3,p4,h0,h1,fun _=>rfl,h3,h4,h5,h6,h7,h8,h9⟩
       ·have hl6:L 6=false:=(by cases h9:L 6 with | false=>rfl | true=>exact absurd (hLi.symm.trans (p1 h9).1) (by decide))
        have hl8:L 8=false:=(by cases h9:L 8 with | false=>rfl | true=>exact absurd (hl6.symm.trans (p4 h9).2.1) (by decide))
        have hl9:L 9=false:=(by cases h9:L 9 with | false=>rfl | true=>exact absurd (hl8.symm.trans (p3 h9)) (by decide))
        have hsw:=hswr;have hbw:=hI (p0 hl9).out;have hse:=hbw.out.size;obtain⟨g,hv0,ho0⟩:=(h1 (haf ⟨1,.data⟩ (by simp) rfl) hLi).out;have a0:=hAA.out 1 81 rfl;have a1:=(hAA.out 2 82 rfl).trans (h2 (haf ⟨2,.data⟩ (by simp) rfl));have HS9:=hI (HSrc.o e.w hbw.out)
        have HK5:=hI (fun(X:World) (hX:e.w.grownBy X (V 1).ownBlock) (y:L 5=true) (y2:L 6=false)=>show Hid (∃gb,V 5= .slice (some ⟨gb,0,none⟩) 1 1/\X.heap[gb]? =some (.cells #[.int .i64 (i:Int)] 3 (0,0))) from by
         obtain⟨gb,u1,u2⟩:=(h5 y y2).out;have ho1:=ho0;rw[hv0] at ho1 hX;exact hI ⟨gb,u1,(hX.block gb (blk_lt u2) (own_capZ ho1 u2 (by simp))).trans u2⟩)
        clear hv0;refine wpList_appendL rfl _ _ 26 rfl wr.heap.size 3 _ 1 8 elemI _ _ _ (by rw[<- a0];simp[Act.eval]) ho0 _ hn _ _ (by rw[<- a1];simp[Act.eval]) HS9.o (one_intsB _) (by omega) hse ?_;intro v6 w6 hown6 hb6 hsz6 hg6 hblk6;have Ho6:=hI (show w6.ownsRow wr.heap.size 3 1 v6 hn (h.map (Value.int .i64)) by simpa using hown6);have Hb6:=hI hb6;have HK6:=hI (HK5.o w6 hg6);clear hown6 hb6 hsz6 hg6 hblk6 ho0;go_wp2;rw[HC.o];exact⟨_,rfl,⟨w6,e.b.trans (Hb6.o.mono hsw)⟩,rfl,fun y=>hI ((p0 y).out.trans Hb6.o),fun z=>⟨rfl,(p1 z).2⟩,fun _=>haf ⟨1,.data⟩ (by simp) rfl,p3,p4,h0,fun _ y=>absurd y (by simp),h2,fun _ _=>Ho6,h4,fun y y2=>HK6.o y y2,fun y=>absurd (hl6.symm.trans y) (by decide),h7,fun y=>absurd (hl8.symm.trans y) (by decide),fun y=>absurd (hl9.symm.trans y) (by decide)⟩
       ·have f10:AA.tmps[10]?.getD undef= .int .i64 (i:Int):=hFF.out 10 (by decide);go_wp2;rw[HC.o];exact⟨_,rfl,e,rfl,p0,p1,p2,p3,p4,h0,h1,h2,h3,fun _=>rfl,h5,h6,h7,h8,h9⟩
       ·have a4:=(hAA.out 4 84 rfl).trans (h4 (haf ⟨4,.data⟩ (by simp) rfl));have hl6:L 6=false:=(by cases h9:L 6 with | false=>rfl | true=>exact absurd (hLi.symm.trans (p1 h9).2) (by decide))
        have hl8:L 8=false:=(by cases h9:L 8 with | false=>rfl | true=>exact absurd (hl6.symm.trans (p4 h9).2.1) (by decide))
        have hl9:L 9=false:=(by cases h9:L 9 with | false=>rfl | true=>exact absurd (hl8.symm.trans (p3 h9)) (by decide))
        have hsw:=hswr;have hbw:=hI (p0 hl9).out;have hse:=hbw.out.size;go_wp2;rw[HC.o];exact⟨_,rfl,⟨_,e.b.alloc (by omega) (.cells (#[.int .i64 (i:Int)]:Array Value) 3)⟩,rfl,fun y=>hI ((p0 y).out.alloc hse _),fun z=>⟨(p1 z).1,rfl⟩,p2,p3,p4,h0,fun y y2=>(by obtain⟨g,u1,u2⟩:=(h1 y y2).out;exact hI ⟨g,u1,u2.alloc _⟩),h2,fun y y2=>hI ((h3 y y2).out.alloc _),h4,fun _ _=>hI ⟨_,rfl,heap_alloc_new _ _⟩,fun y=>absurd (hl6.symm.trans y) (by decide),h7,fun y=>absurd (hl8.symm.trans y) (by decide),fun y=>absurd (hl9.symm.trans y) (by decide)⟩
       ·have hl8:L 8=false:=(by cases h9:L 8 with | false=>rfl | true=>exact absurd (hLi.symm.trans (p4 h9).2.1) (by decide))
        have hl9:L 9=false:=(by cases h9:L 9 with | false=>rfl | true=>exact absurd (hl8.symm.trans (p3 h9)) (by decide))
        have hsw:=hswr;have hbw:=hI (p0 hl9).out;have hse:=hbw.out.size;have hL3:=haf ⟨3,.data⟩ (by simp) rfl;have hL5:=haf ⟨5,.data⟩ (by simp) rfl;have ho2:=(h3 hL3 hLi).out;obtain⟨gb,hgb,hnb⟩:=(h5 hL5 hLi).out;have a2:=hAA.out 3 83 rfl;have a4:=(hAA.out 5 85 rfl).trans hgb;have HS9:=hI (show Src e.w 1 (some ⟨gb,0,none⟩) 1 [.int .i64 (i:Int)] from blk_src1 hnb);have Hx:=hI (show L 3=false->False from fun y=>by rw[y] at hL3;cases hL3);have HLL:=hI (And.intro hL3 hL5);clear hgb;refine wpList_appendL rfl _ _ 26 rfl wr.heap.size 3 _ 1 8 elemI _ _ _ (by rw[<- a2];simp[Act.eval]) ho2 _ 1 _ _ (by rw[<- a4];simp[Act.eval]) HS9.o (by simp[Value.oneCell']) (by omega) hse ?_;intro v6 w6 hown6 hb6 hsz6 hg6 hblk6;have Ho6:=hI hown6;have Hb6:=hI hb6;clear hown6 hb6 hsz6 hg6 hblk6 ho2 hL3 hL5;go_wp2;rw[HC.o]
        exact⟨_,rfl,⟨w6,e.b.trans (Hb6.o.mono hsw)⟩,rfl,fun y=>hI ((p0 y).out.trans Hb6.o),fun _=>HLL.o,p2,p3,fun z=>absurd (hl8.symm.trans z) (by decide),h0,fun _ y2=>(Hx.o y2).elim,h2,fun _ y=>absurd y (by simp),h4,fun _ y=>absurd y (by simp),fun _ _=>Ho6,h7,fun y=>absurd (hl8.symm.trans y) (by decide),fun y=>absurd (hl9.symm.trans y) (by decide)⟩
       ·have f5:AA.tmps[5]?.getD undef= .pointer (some ⟨w.heap.size+1,0,none⟩):=hFF.out 5 (by decide);have hl8:L 8=false:=(by cases h9:L 8 with | false=>rfl | true=>exact absurd (hLi.symm.trans (p4 h9).2.2) (by decide))
        have hl9:L 9=false:=(by cases h9:L 9 with | false=>rfl | true=>exact absurd (hl8.symm.trans (p3 h9)) (by decide))
        have hbw:=hI (p0 hl9).out;have g0:=W7.bc (j:=0) (HXb.o e.w hbw.out) rfl;have g1:=W7.bc (j:=1) (HXb.o e.w hbw.out) rfl;have g2:=W7.bc (j:=2) (HXb.o e.w hbw.out) rfl;go_wp2;rw[HC.o];exact⟨_,rfl,e,rfl,p0,p1,p2,p3,fun z=>⟨(p4 z).1,(p4 z).2.1,rfl⟩,h0,h1,h2,h3,h4,h5,h6,fun _=>rfl,h8,h9⟩
       ·have hl9:L 9=false:=(by cases h9:L 9 with | false=>rfl | true=>exact absurd (hLi.symm.trans (p3 h9)) (by decide))
        have hsw:=hswr;have hbw:=hI (p0 hl9).out;have hse:=hbw.out.size;have hL6:=haf ⟨6,.data⟩ (by simp) rfl;have hL0:=haf ⟨0,.data⟩ (by simp) rfl;have hL7:=haf ⟨7,.data⟩ (by simp) rfl;have Ho6:=hI (h6 hL6 hLi).out;obtain⟨A9,c9,e9,hc91,hc92⟩:=own_cap' Ho6.o;have a0:=(hAA.out 0 80 rfl).trans (h0 hL0);have a6:=(hAA.out 6 86 rfl).trans e9;have a7:=(hAA.out 7 87 rfl).trans (h7 hL7);have HT:=hI (HTr.o e.w hbw.out A9 c9 (by rw[<- e9];exact Ho6.o) hc91 hc92);have HL6:=hI hL6;have HLs:=hI (p1 hL6);have HL07:=hI (And.intro hL0 (And.intro hL6 hL7));clear e9 hL6 hL0 hL7;go_wp2_with (go_at_call 128;refine HT.o.mono ?_;rintro r w5 ⟨⟨Ax,cx,lx,mx,rfl,hfd⟩,hb5⟩;have Hfd:=hI hfd;have Hb5:=hI (hb5.mono hse);clear hfd hb5);rw[HC.o]
        exact⟨_,rfl,⟨w5,e.b.trans (Hb5.o.mono hsw)⟩,rfl,fun y=>hI ((p0 y).out.trans Hb5.o),p1,p2,fun _=>rfl,fun _=>HL07.o,h0,fun _ y=>absurd (y.symm.trans HLs.o.1) (by decide),h2,fun _ y=>absurd (y.symm.trans HL6.o) (by decide),h4,fun _ y=>absurd (y.symm.trans HL6.o) (by decide),fun _ y=>absurd y (by simp),h7,fun _ _=>hI ⟨Ax,cx,lx,mx,rfl,Hfd.o⟩,fun y=>absurd (hl9.symm.trans y) (by decide)⟩
       ·have hL8:=haf ⟨8,.data⟩ (by simp) rfl;have hbw:=hI (p0 hLi).out;obtain⟨Ax,cx,lx,mx,hv8,hfd⟩:=(h8 hL8 hLi).out;have a8:=(hAA.out 8 88 rfl).trans hv8;have f5:AA.tmps[5]?.getD undef= .pointer (some ⟨w.heap.size+1,0,none⟩):=hFF.out 5 (by decide);have Hfd:=hI hfd;have HL8:=hI hL8;have HP4:=hI (p4 hL8);have HP1:=hI (p1 (p4 hL8).2.1);unfold fdV at a8;have g0:=W7.bc (j:=0) (HXb.o e.w hbw.out) rfl;have g1:=W7.bc (j:=1) (HXb.o e.w hbw.out) rfl;have g2:=W7.bc (j:=2) (HXb.o e.w hbw.out) rfl;have f0:=W7.bf (j:=0) (HXb.o e.w hbw.out);have f1:=W7.bf (j:=1) (HXb.o e.w hbw.out);have f2:=W7.bf (j:=2) (HXb.o e.w hbw.out);clear hv8 hfd hL8;go_wp2;rw[HC.o]
        exact⟨rfl,undef,⟨_,((e.b.setCell (p:=⟨w.heap.size+1,0,none⟩) (by simp) _).setCell (p:=⟨w.heap.size+1,1,none⟩) (by simp) _).setCell (p:=⟨w.heap.size+1,2,none⟩) (by simp) _⟩,rfl,fun y=>absurd y (by simp),p1,p2,fun _=>HL8.o,p4,h0,fun _ y=>absurd (y.symm.trans HP1.o.1) (by decide),h2,fun _ y=>absurd (y.symm.trans HP4.o.2.1) (by decide),h4,fun _ y=>absurd (y.symm.trans HP4.o.2.1) (by decide),fun _ y=>absurd (y.symm.trans HL8.o) (by decide),h7,fun _ y=>absurd y (by simp),fun _=>hI ⟨e.w,Ax,cx,lx,mx,hbw.out,Hfd.o,Hfd.o.small,rfl⟩⟩
      rintro L V w' hL hInv;rw[HC.o] at hInv;obtain⟨e,rfl,p0,p1,p2,p3,p4,h0,h1,h2,h3,h4,h5,h6,h7,h8,h9⟩:=hInv;have k0:=h0 (hL 0 (by simp));have k1:=h1 (hL 1 (by simp));have k2:=h2 (hL 2 (by simp));have k3:=h3 (hL 3 (by simp));have k4:=h4 (hL 4 (by simp));have k5:=h5 (hL 5 (by simp));have k6:=h6 (hL 6 (by simp));have k7:=h7 (hL 7 (by simp));have k8:=h8 (hL 8 (by simp));have k9:=h9 (hL 9 (by simp));clear h0 h1 h2 h3 h4 h5 h6 h7 h8 h9 hL HC;obtain⟨X5,Ax,cx,lx,mx,hbX,hfX,_,hew⟩:=k9.out;have HE9:=hI hew;have HbX:=hI hbX;have HfX:=hI hfX;generalize e.w=w5 at HE9;clear k0 k1 k2 k3 k4 k5 k6 k7 k8 k9 p0 p1 p2 p3 p4 hew hbX hfX;simp only[putAll];go_frame;go_wp2;go_roundw
      case rel=>exact⟨i+1,Ax,cx,lx,mx,by omega,by go_num,by rw[HS2.o,HE9.o];exact hI (HfX.o.put3 (HXb.o X5 HbX.o) _ _ _),by rw[HS2.o,HE9.o];exact hI (put3_blk (HXb.o X5 HbX.o) _ _ _),by rw[HE9.o,put3_ne (by omega)];exact hI (HXj.o X5 HbX.o),by rw[HE9.o,put3_ne (by omega)];exact hI (HXr2.o X5 HbX.o),by rw[HE9.o];exact hI (put3_below (Hb2.o.trans (HbX.o.mono hswr)) (by omega) _ _ _)⟩
      case measure=>simp[intOf];omega
end Go.Proofs.YtjpgnfekbojcaaaGreat
