/- slices.Clone at numbers,uses,spans;cmp.Or of two numbers. -/
import Derived.Test.YtjpgnfekbojcaaaGreatWJob8
import Derived.Test.YtjpgnfekbojcaaaGreatWRJob3
set_option maxHeartbeats 8000000
set_option maxRecDepth 100000
namespace Go.Proofs.YtjpgnfekbojcaaaGreat
open Go.RowKit W7 W8
attribute [local go_sem] Oper.semAt_some
theorem lenI:∀x:Int,(encInt1 x).length=1:=fun _=>rfl
theorem flat_lenI (l:List Int):(l.flatMap encInt1).length=l.length*1:=by
 induction l with
 | nil=>rfl
 | cons a r ih=>rw[List.flatMap_cons,zF,ih,lenI,List.length_cons];omega
theorem src_I {w:World} {B n:Nat} {l:List Int} {ad:Addr} (h:Sl w B 1 encInt1 (some ad) l) (hn:n=l.length):Src w 1 (some ad) n (l.flatMap encInt1):=by
 refine .inr ⟨ad,rfl,by rw[flat_lenI,hn],fun j u hu=> ?_⟩
 have hj:j<l.length*1:=by
  have:=(List.getElem?_eq_some_iff.1 hu).1
  rwa [flat_lenI] at this
 obtain⟨b,off,e1,_,hc⟩:=h (by omega);cases e1;have hi:j/1<l.length:=by omega
 have hu2:(encInt1 l[j/1])[j%1]? =some u:=by
  rw[<- flatMap_get (enc:=encInt1) (k:=1) lenI l (j/1) (j%1) hi (by omega),show j/1*1+j%1=j by omega];exact hu
 have h1:=hc (j/1) hi (j%1) u hu2
 have h2:(⟨b,off,none⟩:Addr).add j=⟨b,off+j/1*1+j%1,none⟩:=by
  rw[show off+j/1*1+j%1=off+j by omega];unfold Addr.add
  split<;>simp_all
 rw[h2];exact h1
theorem cloneI_any (l:List Int) (A:Option Addr) (n c:Nat) (w:World) (hn:n=l.length) (hA:Sl w w.heap.size 1 encInt1 A l) (hz:A=none->n=0/\c=0) (hl:n<=10000000) :
  Calls Tryz.prog 140 #[.slice A n c] w fun e w'=>∃v,e= .returned v/\w'.ownsRow w.heap.size 3 1 v n (l.flatMap encInt1)/\Bl w w':=by
 have heq:=fun(w:World) (a:Option Addr) (n c:Nat)=>Lib.run_eql_slice_nil (P:=Tryz.prog) w 26 3 a n c 0 0 Tryz.underlying26
 cases A with
 | none=>
  obtain⟨rfl,rfl⟩:=hz rfl;have hln:l=[]:=List.length_eq_zero_iff.1 hn.symm;subst hln;clear hA hn hl hz;go_enter Tryz.func140,Tryz.ntmps140;go_wp2;go_ret;exact⟨_,rfl,zU _ _ _ _,zX _ _⟩
 | some ad=>
  have HS:=hI (src_I (w:=w.alloc (.cells #[] 3)) (ad:=ad) (hA.below ((zX _ _).alloc (zm _) _)) hn)
  have Hone:Hid (∀u∈l.flatMap encInt1,u.oneCell'=true):=by
   intro u hu;obtain⟨x,_,hx⟩:=List.mem_flatMap.1 hu;simp only[encInt1,List.mem_cons,List.not_mem_nil,or_false] at hx;rcases hx with rfl;rfl
  have HO:=hI (World.ownsRow_lit (base:=w.heap.size) (e:=3) (size:=1) w #[] 0 (zm _) (by unfold maxLen;omega) rfl);clear hA hz hn;go_enter Tryz.func140,Tryz.ntmps140;go_wp2_with (at_builtin;refine wpList_appendL rfl _ _ 26 rfl w.heap.size 3 _ 1 8 elemI _ _ _ rfl HO.o _ _ _ _ rfl HS.o Hone.o (by omega) (by simp) ?_;intro v1 w1 hown1 hb1 hsz1 hg1 hblk1;have Hown1:=hI hown1;have Hb1:=hI hb1;have Hsz1:=hI hsz1;clear hown1 hb1 hsz1 hg1 hblk1);go_ret;exact⟨_,rfl,by have:=Hown1.o;simpa using this,((zX _ _).alloc (zm _) _).trans Hb1.o⟩
theorem lenU:∀x:JUse,(encUse x).length=2:=fun _=>rfl
theorem flat_lenU (l:List JUse):(l.flatMap encUse).length=l.length*2:=by
 induction l with
 | nil=>rfl
 | cons a r ih=>rw[List.flatMap_cons,zF,ih,lenU,List.length_cons];omega
theorem src_U {w:World} {B n:Nat} {l:List JUse} {ad:Addr} (h:Sl w B 2 encUse (some ad) l) (hn:n=l.length):Src w 2 (some ad) n (l.flatMap encUse):=by
 refine .inr ⟨ad,rfl,by rw[flat_lenU,hn],fun j u hu=> ?_⟩
 have hj:j<l.length*2:=by
  have:=(List.getElem?_eq_some_iff.1 hu).1
  rwa [flat_lenU] at this
 obtain⟨b,off,e1,_,hc⟩:=h (by omega);cases e1;have hi:j/2<l.length:=by omega
 have hu2:(encUse l[j/2])[j%2]? =some u:=by
  rw[<- flatMap_get (enc:=encUse) (k:=2) lenU l (j/2) (j%2) hi (by omega),show j/2*2+j%2=j by omega];exact hu
 have h1:=hc (j/2) hi (j%2) u hu2
 have h2:(⟨b,off,none⟩:Addr).add j=⟨b,off+j/2*2+j%2,none⟩:=by
  rw[show off+j/2*2+j%2=off+j by omega];unfold Addr.add
  split<;>simp_all
 rw[h2];exact h1
theorem elemU:Elem Tryz.prog 44 48 (.agg #[.int .i64 0,.int .i64 0]) 2 16:=Elem.mk' Tryz.underlying44 (by kernel_rfl) rfl (by decide) (by decide)
theorem cloneU_any (l:List JUse) (A:Option Addr) (n c:Nat) (w:World) (hn:n=l.length) (hA:Sl w w.heap.size 2 encUse A l) (hz:A=none->n=0/\c=0) (hl:n<=10000000) :
  Calls Tryz.prog 141 #[.slice A n c] w fun e w'=>∃v,e= .returned v/\w'.ownsRow w.heap.size 48 2 v n (l.flatMap encUse)/\Bl w w':=by
 have heq:=fun(w:World) (a:Option Addr) (n c:Nat)=>Lib.run_eql_slice_nil (P:=Tryz.prog) w 44 48 a n c 0 0 Tryz.underlying44
 cases A with
 | none=>
  obtain⟨rfl,rfl⟩:=hz rfl;have hln:l=[]:=List.length_eq_zero_iff.1 hn.symm;subst hln;clear hA hn hl hz;go_enter Tryz.func141,Tryz.ntmps141;go_wp2;go_ret;exact⟨_,rfl,zU _ _ _ _,zX _ _⟩
 | some ad=>
  have HS:=hI (src_U (w:=w.alloc (.cells #[] 48)) (ad:=ad) (hA.below ((zX _ _).alloc (zm _) _)) hn)
  have Hone:Hid (∀u∈l.flatMap encUse,u.oneCell'=true):=by
   intro u hu;obtain⟨x,_,hx⟩:=List.mem_flatMap.1 hu;simp only[encUse,List.mem_cons,List.not_mem_nil,or_false] at hx;rcases hx with rfl | rfl<;>rfl
  have HO:=hI (World.ownsRow_lit (base:=w.heap.size) (e:=48) (size:=2) w #[] 0 (zm _) (by unfold maxLen;omega) rfl);clear hA hz hn;go_enter Tryz.func141,Tryz.ntmps141;go_wp2_with (at_builtin;refine wpList_appendL rfl _ _ 44 rfl w.heap.size 48 _ 2 16 elemU _ _ _ rfl HO.o _ _ _ _ rfl HS.o Hone.o (by omega) (by simp) ?_;intro v1 w1 hown1 hb1 hsz1 hg1 hblk1;have Hown1:=hI hown1;have Hb1:=hI hb1;have Hsz1:=hI hsz1;clear hown1 hb1 hsz1 hg1 hblk1);go_ret;exact⟨_,rfl,by have:=Hown1.o;simpa using this,((zX _ _).alloc (zm _) _).trans Hb1.o⟩
theorem lenP:∀x:JSpan,(encJSpan x).length=2:=fun _=>rfl
theorem flat_lenP (l:List JSpan):(l.flatMap encJSpan).length=l.length*2:=by
 induction l with
 | nil=>rfl
 | cons a r ih=>rw[List.flatMap_cons,zF,ih,lenP,List.length_cons];omega
theorem src_P {w:World} {B n:Nat} {l:List JSpan} {ad:Addr} (h:Sl w B 2 encJSpan (some ad) l) (hn:n=l.length):Src w 2 (some ad) n (l.flatMap encJSpan):=by
 refine .inr ⟨ad,rfl,by rw[flat_lenP,hn],fun j u hu=> ?_⟩
 have hj:j<l.length*2:=by
  have:=(List.getElem?_eq_some_iff.1 hu).1
  rwa [flat_lenP] at this
 obtain⟨b,off,e1,_,hc⟩:=h (by omega);cases e1;have hi:j/2<l.length:=by omega
 have hu2:(encJSpan l[j/2])[j%2]? =some u:=by
  rw[<- flatMap_get (enc:=encJSpan) (k:=2) lenP l (j/2) (j%2) hi (by omega),show j/2*2+j%2=j by omega];exact hu
 have h1:=hc (j/2) hi (j%2) u hu2
 have h2:(⟨b,off,none⟩:Addr).add j=⟨b,off+j/2*2+j%2,none⟩:=by
  rw[show off+j/2*2+j%2=off+j by omega];unfold Addr.add
  split<;>simp_all
 rw[h2];exact h1
theorem elemP:Elem Tryz.prog 41 50 (.agg #[.int .i64 0,.int .i64 0]) 2 16:=Elem.mk' Tryz.underlying41 (by kernel_rfl) rfl (by decide) (by decide)
theorem cloneP_any (l:List JSpan) (A:Option Addr) (n c:Nat) (w:World) (hn:n=l.length) (hA:Sl w w.heap.size 2 encJSpan A l) (hz:A=none->n=0/\c=0) (hl:n<=10000000) :
  Calls Tryz.prog 142 #[.slice A n c] w fun e w'=>∃v,e= .returned v/\w'.ownsRow w.heap.size 50 2 v n (l.flatMap encJSpan)/\Bl w w':=by
 have heq:=fun(w:World) (a:Option Addr) (n c:Nat)=>Lib.run_eql_slice_nil (P:=Tryz.prog) w 41 50 a n c 0 0 Tryz.underlying41
 cases A with
 | none=>
  obtain⟨rfl,rfl⟩:=hz rfl;have hln:l=[]:=List.length_eq_zero_iff.1 hn.symm;subst hln;clear hA hn hl hz;go_enter Tryz.func142,Tryz.ntmps142;go_wp2;go_ret;exact⟨_,rfl,zU _ _ _ _,zX _ _⟩
 | some ad=>
  have HS:=hI (src_P (w:=w.alloc (.cells #[] 50)) (ad:=ad) (hA.below ((zX _ _).alloc (zm _) _)) hn)
  have Hone:Hid (∀u∈l.flatMap encJSpan,u.oneCell'=true):=by
   intro u hu;obtain⟨x,_,hx⟩:=List.mem_flatMap.1 hu;simp only[encJSpan,List.mem_cons,List.not_mem_nil,or_false] at hx;rcases hx with rfl | rfl<;>rfl
  have HO:=hI (World.ownsRow_lit (base:=w.heap.size) (e:=50) (size:=2) w #[] 0 (zm _) (by unfold maxLen;omega) rfl);clear hA hz hn;go_enter Tryz.func142,Tryz.ntmps142;go_wp2_with (at_builtin;refine wpList_appendL rfl _ _ 41 rfl w.heap.size 50 _ 2 16 elemP _ _ _ rfl HO.o _ _ _ _ rfl HS.o Hone.o (by omega) (by simp) ?_;intro v1 w1 hown1 hb1 hsz1 hg1 hblk1;have Hown1:=hI hown1;have Hb1:=hI hb1;have Hsz1:=hI hsz1;clear hown1 hb1 hsz1 hg1 hblk1);go_ret;exact⟨_,rfl,by have:=Hown1.o;simpa using this,((zX _ _).alloc (zm _) _).trans Hb1.o⟩
theorem cmpOr_any (x y:Int) (b c:Nat) (w:World) (h0:w.cell? ⟨b,0,none⟩=some (.int .i64 x)) (h1:w.cell? ⟨b,1,none⟩=some (.int .i64 y)) :
  Calls Tryz.prog 125 #[.slice (some ⟨b,0,none⟩) 2 c] w fun e w'=>e= .returned (.int .i64 (if x=0 then y else x))/\w'=w:=by
 cases hx:(x==0)
 ·have hx':(x != 0)=true:=by simp[bne,hx]
  have he:(if x=0 then y else x)=x:=if_neg (fun h=>by rw[h] at hx;cases hx);rw[he];go_enter Tryz.func125,Tryz.ntmps125;go_wp2;refine wp_loop_rounds 1 ?_;rw[rounds_succ];go_wp2;go_ret;exact⟨rfl,rfl⟩
 ·obtain rfl:=eq_of_beq hx;rw[if_pos rfl];cases hy:(y==0)
  ·have hy':(y != 0)=true:=by simp[bne,hy]
   go_enter Tryz.func125,Tryz.ntmps125;go_wp2;refine wp_loop_rounds 2 ?_;rw[rounds_succ];go_wp2;rw[rounds_succ];go_wp2;go_ret;exact⟨rfl,rfl⟩
  ·obtain rfl:=eq_of_beq hy;go_enter Tryz.func125,Tryz.ntmps125;go_wp2;refine wp_loop_rounds 3 ?_;rw[rounds_succ];go_wp2;rw[rounds_succ];go_wp2;rw[rounds_succ];go_wp2;go_ret;exact⟨rfl,rfl⟩
end Go.Proofs.YtjpgnfekbojcaaaGreat
namespace W8
open W7
def usesV (r:Int) (l:List JUse):Int:=match l.find? (fun u=>u.res==r) with
 | some u=>u.many
 | none=>0
theorem usesV_hit {r:Int} {l:List JUse} {i:Nat} (hi:i<l.length) (hno:(l.take i).any (fun u=>u.res==r)=false) (h:(l[i].res==r)=true):usesV r l=l[i].many:=by
 have h1:l.find? (fun u=>u.res==r)=some l[i]:=by
  rw[List.find?_eq_some_iff_getElem];refine⟨h,i,hi,rfl,fun k hk=> ?_⟩;rw[List.any_eq_false] at hno;have:=hno l[k] (List.mem_take_iff_getElem.2 ⟨k,by omega,rfl⟩)
  simpa using this
 unfold usesV;rw[h1]
theorem usesV_none {r:Int} {l:List JUse} (hno:l.any (fun u=>u.res==r)=false):usesV r l=0:=by
 have h1:l.find? (fun u=>u.res==r)=none:=by
  rw[List.find?_eq_none];rw[List.any_eq_false] at hno;exact hno
 unfold usesV;rw[h1]
theorem pieces_no {r:Int}:∀ {l:List JUse},l.any (fun u=>u.res==r)=false->pieces r l=0
 | [],_=>rfl
 | u::l,h=>by
  rw[List.any_cons,Bool.or_eq_false_iff] at h
  show(if u.res==r then u.many else 0)+pieces r l=0
  rw[h.1,pieces_no h.2]
  rfl
theorem pieces_uses {r:Int}:∀ {l:List JUse},(l.map (·.res)).Nodup->pieces r l=usesV r l
 | [],_=>rfl
 | u::l,h=>by
  rw[List.map_cons,List.nodup_cons] at h
  show(if u.res==r then u.many else 0)+pieces r l=_
  unfold usesV;rw[List.find?_cons];cases hu:(u.res==r)
  ·rw[pieces_uses h.2];simp[usesV]
  ·have hn:l.any (fun v=>v.res==r)=false:=by
    rw[List.any_eq_false];intro v hv he;have e1:u.res=r:=eq_of_beq hu;have e2:v.res=r:=eq_of_beq he;exact h.1 (List.mem_map.2 ⟨v,hv,by rw[e1,e2]⟩)
   rw[pieces_no hn];simp
end W8
namespace Go.Proofs.YtjpgnfekbojcaaaGreat
open Go.RowKit W7 W8
attribute [local go_sem] Oper.semAt_some
theorem refUses_any (x:Task) (r:Int) (B:Nat) (w:World) (hx:TkIn w B x) (hB:B<=w.heap.size) :
  Calls Tryz.prog 79 #[.agg #[.string x.p.name,.int .i64 x.p.takes,.slice x.NA x.p.needs.length x.nc,.slice x.UA x.p.uses.length x.uc],.int .i64 r] w fun e w'=>e= .returned (.int .i64 (usesV r x.p.uses))/\Bl w w':=by
 obtain⟨un,hun⟩:=eX x.p.uses.length;have hb1:=hx.ul;have hb2:=hx.uc;rw[hun] at hb1;rw[hun];obtain⟨W0,HW0,hs0,HB0,HX00,HU0⟩:=boxes1 w (.cells #[.string x.p.name,.int .i64 x.p.takes,.slice x.NA x.p.needs.length x.nc,.slice x.UA un x.uc] 46);have HN:=hI (show ∀X:World,Bl W0 X->Sl X B 2 encUse x.UA x.p.uses from fun X hX=>hx.us.below ((HB0.o.mono hB).trans (hX.mono (by omega))));have Hun:=hI hun;clear hx hun;go_enter Tryz.func79,Tryz.ntmps79;go_upto_region 2 with fail;rw[<- HW0.o];go_loopw [5] (fun v5 wr=>∃i:Nat,i<=un/\v5= .int .i64 i/\Hid ((x.p.uses.take i).any (fun u=>u.res==r)=false)/\Hid (Bl W0 wr)) (fun v5 _=>un-(intOf v5).toNat);case atStart=>exact⟨0,by omega,rfl,hI (by simp),hI (zX _ _)⟩
 case round=>
  obtain⟨i,hi,rfl,Ha,Hb⟩:=hrel;have hsr:=Hb.o.size;have t0:=kC 0 (HX00.o wr Hb.o) rfl;have t1:=kC 1 (HX00.o wr Hb.o) rfl;have t2:=kC 2 (HX00.o wr Hb.o) rfl;have t3:=kC 3 (HX00.o wr Hb.o) rfl;have HU:=hI (HU0.o wr Hb.o)
  by_cases hlt:i<un
  ·have hil:i<x.p.uses.length:=by have:=Hun.o;omega
   obtain⟨b,off,hbe,hbB,hcells⟩:=HN.o wr Hb.o (by omega);rw[hbe] at t3;have c0:wr.cell? ⟨b,off+i*2,none⟩=some (.int .i64 x.p.uses[i].res):=hcells i hil 0 _ rfl;have c1:wr.cell? ⟨b,off+i*2+1,none⟩=some (.int .i64 x.p.uses[i].many):=hcells i hil 1 _ rfl;have HH:=hI (fun h=>usesV_hit (r:=r) hil Ha.o h);have HN9:=hI (any_not (P:=fun u:JUse=>u.res==r) hil Ha.o);generalize x.p.uses[i]=u at c0 c1 HH HN9;obtain⟨ur,um⟩:=u;dsimp only at c0 c1;clear hcells hbe;cases he:(ur==r)
   ·have HN2:=hI (HN9.o he);go_wp2;go_roundw;case rel=>exact⟨i+1,by omega,by go_num,HN2,Hb⟩
    case measure=>simp[intOf];omega
   ·have HE:=hI (show usesV r x.p.uses=um from HH.o he);go_wp2;go_ret;exact⟨ret_int HE.o.symm,HU.o⟩
  ·have HE:=hI (show usesV r x.p.uses=0 from usesV_none (by
    have h1:=Ha.o
    rwa [zG (by have:=Hun.o;omega)] at h1))
   go_wp2;go_ret;exact⟨ret_int HE.o.symm,HU.o⟩
structure RBd (X:World) (SA:Option Addr) (pb n:Nat) (b:Bd):Prop where
 st:Sl X X.heap.size 1 encInt1 SA b.st
 pl:X.heap[pb]? =some (.cells (b.pl.map Value.bool).toArray 4 (0,0))
 ns:b.st.length=n
 np:b.pl.length=n
theorem RBd.below {X Y:World} {SA:Option Addr} {pb n:Nat} {b:Bd} (h:RBd X SA pb n b) (hb:Bl X Y):RBd Y SA pb n b:=
 ⟨(h.st.below hb).mono hb.size,(hb.block _ (blk_lt h.pl)).trans h.pl,h.ns,h.np⟩
theorem refLoad_any (j:Job) (b:Bd) (SA:Option Addr) (sc pb n:Nat) (r m:Int) (B:Nat) (w:World) (hj:JIn w B j) (hB:B<=w.heap.size) (hR:RBd w SA pb n b) (hn:j.tasks.length=n) (hG:JGood j.p) (hs:∀i, -9223372036854775808<=b.st.getD i 0/\b.st.getD i 0<=9223372036854775807) (hm:m<=1000000) :
  Calls Tryz.prog 184 #[jobV j,.slice SA n sc,.slice (some ⟨pb,0,none⟩) n n,.int .i64 r,.int .i64 m] w fun e w'=>e= .returned (.int .i64 (usedV j.p b r m))/\Bl w w':=by
 have hn64:n<=64:=by have:=hG.nt;rw[j.nt,hn] at this;exact this
 obtain⟨TA,hTA⟩:=eX j.TA;have hjv:jobV j= .agg #[.slice TA n j.tc,.slice j.RA j.res.length j.rc]:=by unfold jobV;rw[hn,hTA]
 rw[hjv];obtain⟨W0,HW0,hs0,HB0,HX00,HU0⟩:=boxes1 w (.cells #[.slice TA n j.tc,.slice j.RA j.res.length j.rc] 25);have HJ:=hI (show ∀X:World,Bl W0 X->JIn X B j/\RBd X SA pb n b from fun X hX=>⟨hj.below ((HU0.o X hX).mono hB),hR.below (HU0.o X hX)⟩);have Hn:=hI hn;have HTA:=hI hTA;have Hs:=hI hs;have Hus:=hI (fun i=>usedTo_le hG b r m i);have Htk:=hI hG.takes;have Hnu:=hI hG.nuses;have HV:=hI (show usedV j.p b r m=usedTo j.p b r m n by unfold usedV;rw[j.nt,hn]);obtain⟨uv,huv⟩:=eX (usedV j.p b r m);rw[huv] at HV ⊢;clear hj hR hn hG hTA hjv hs huv;go_enter Tryz.func184,Tryz.ntmps184;go_upto_region 3 with fail;rw[<- HW0.o];go_loopw [11,12] (fun v11 v12 wr=>∃(i:Nat) (S:Int),i<=n/\v12= .int .i64 i/\v11= .int .i64 S/\Hid (usedTo j.p b r m i=S)/\Hid (Bl W0 wr)) (fun _ v12 _=>n-(intOf v12).toNat);case atStart=>exact⟨0,0,by omega,rfl,rfl,hI rfl,hI (zX _ _)⟩
 case round=>
  obtain⟨i,S,hi,rfl,rfl,HS,Hb⟩:=hrel;have hsr:=Hb.o.size;have hq:=HX00.o wr Hb.o
  by_cases hlt:i<n
  ·have hil:i<j.tasks.length:=by have:=Hn.o;omega
   obtain⟨hjn,hrb⟩:=HJ.o wr Hb.o;obtain⟨tb,off,hTb,htb⟩:=hjn.ta (by omega);have hTe:TA=some ⟨tb,off,none⟩:=by rw[<- HTA.o];exact hTb
   subst hTe;obtain⟨c0,c1,c2,c3⟩:=hjn.tcells hTb hil;obtain⟨sb,so,hse,hsB,hsc⟩:=hrb.st (by rw[hrb.ns];omega);subst hse
   have s0:wr.cell? ⟨sb,so+i,none⟩=some (.int .i64 (b.st.getD i 0)):=by
    have h:=hsc i (by rw[hrb.ns];exact hlt) 0 _ rfl;rw[Nat.mul_one,Nat.add_zero] at h;rw[h,zA,zB (by rw[hrb.ns];exact hlt)]
    rfl
   have p0:wr.cell? ⟨pb,i,none⟩=some (.bool (b.pl.getD i false)):=bc hrb.pl (map_getD (by rw[hrb.np];exact hlt));have hpb:=blk_lt hrb.pl;have HRu:=hI (show runsB j.p b m i=(b.pl.getD i false&&decide (b.st.getD i 0<=m)&&decide (m<b.st.getD i 0+(j.T i).p.takes)) by unfold runsB endV;rw[j.pT])
   have HSu:=hI (show usedTo j.p b r m (i+1)=S+if runsB j.p b m i then usesV r (j.T i).p.uses else 0 by
    show usedTo j.p b r m i+(if runsB j.p b m i then pieces r (j.p.tasks.getD i default).uses else 0)=_
    rw[HS.o,j.pT,pieces_uses (Hnu.o _ (j.Tp_mem hil))])
   have hus:=Hus.o (i+1) (by rw[j.nt];omega);have hus0:=Hus.o i (by rw[j.nt];omega);rw[HS.o] at hus0;have hst:=Hs.o i;have htk:=Htk.o _ (j.Tp_mem hil);have HTk:=hI (hjn.tks _ (j.T_mem hil));generalize b.st.getD i 0=st at s0 HRu hst;generalize b.pl.getD i false=pi at p0 HRu;generalize j.T i=t at c0 c1 c2 c3 HRu HSu htk HTk;clear hsc hjn hrb hTb;have y0:=zV (kC 0 hq rfl) (by omega);have y1:=zV (kC 1 hq rfl) (by omega);have z0:=zV c0 (by omega);have z1:=zV c1 (by omega);have z2:=zV c2 (by omega);have z3:=zV c3 (by omega);have zs:=zV s0 (by omega);have zp:=zV p0 hpb;have q0:=kC 0 hq rfl;have q1:=kC 1 hq rfl;have HUs:=hI (fun X hX=>refUses_any t r B X (HTk.o.below (Below.trans (zX B wr) (hX.mono (by omega)))) (by have:=hX.size;omega):∀X:World,Bl wr X->_);go_upto_region 5 with fail;clear q0 q1 hq c0 c1 c2 c3 s0 p0;cases pi
   ·have HG:=hI (show usedTo j.p b r m (i+1)=S by rw[HSu.o,HRu.o];simp);refine wp_region_later (by kernel_rfl) (by kernel_rfl) ?_
    repeat (any_goals (first | go_big_quiet_step ((fail)) | quiet_step ((fail))))
    refine wpQuiet_nil ?_;rintro w' ⟨e5,rfl⟩;have Hb5:=hI (Hb.o.trans (e5.b.mono hsr));go_wp2;go_roundw;case rel=>exact⟨i+1,S,by omega,by go_num,rfl,HG,Hb5⟩
    case measure=>simp[intOf];omega
   cases h1:decide (st<=m)
   ·have HG:=hI (show usedTo j.p b r m (i+1)=S by rw[HSu.o,HRu.o];rw[h1];simp);refine wp_region_later (by kernel_rfl) (by kernel_rfl) ?_
    repeat (any_goals (first | go_big_quiet_step ((fail)) | quiet_step ((fail))))
    refine wpQuiet_nil ?_;rintro w' ⟨e5,rfl⟩;have Hb5:=hI (Hb.o.trans (e5.b.mono hsr));go_wp2;go_roundw;case rel=>exact⟨i+1,S,by omega,by go_num,rfl,HG,Hb5⟩
    case measure=>simp[intOf];omega
   have h1':=zI h1;cases h2:decide (m<st+t.p.takes)
   ·have HG:=hI (show usedTo j.p b r m (i+1)=S by rw[HSu.o,HRu.o];rw[h1,h2];simp);refine wp_region_later (by kernel_rfl) (by kernel_rfl) ?_
    repeat (any_goals (first | go_big_quiet_step ((fail)) | quiet_step ((fail))))
    refine wpQuiet_nil ?_;rintro w' ⟨e5,rfl⟩;have Hb5:=hI (Hb.o.trans (e5.b.mono hsr));go_wp2;go_roundw;case rel=>exact⟨i+1,S,by omega,by go_num,rfl,HG,Hb5⟩
    case measure=>simp[intOf];omega
   have HG:=hI (show usedTo j.p b r m (i+1)=S+usesV r t.p.uses by rw[HSu.o,HRu.o,h1,h2];rfl);rw[HG.o] at hus;generalize usesV r t.p.uses=uu at HG HUs hus;have hu1:=hus.1;have hu2:=hus.2;refine wp_region_later (by kernel_rfl) (by kernel_rfl) ?_
   repeat (any_goals (first | go_big_quiet_step ((fail)) | quiet_step ((fail))))
   refine wpQuiet_nil ?_;rintro w' ⟨e5,rfl⟩;have Hb5:=hI (Hb.o.trans (e5.b.mono hsr));have hs5:=e5.b.size;go_wp2_with (go_at_call 79;refine(HUs.o e5.w e5.b).mono ?_;rintro e w5 ⟨rfl,hb5⟩;have Hb6:=hI (Hb5.o.trans (hb5.mono (by omega)));clear hb5);go_roundw;case rel=>exact⟨i+1,S+uu,by omega,by go_num,rfl,HG,Hb6⟩
   case measure=>simp[intOf];omega
  ·have HE:=hI (show uv=S by rw[HV.o,show n=i by omega];exact HS.o);have HU:=hI (HU0.o wr Hb.o);have q0:=kC 0 hq rfl;have q1:=kC 1 hq rfl;go_wp2;go_ret;exact⟨ret_int HE.o.symm,HU.o⟩
end Go.Proofs.YtjpgnfekbojcaaaGreat
