/- The map of what the longest chains take;what was found for a key,or finding it. -/
import Derived.Test.YtjpgnfekbojcaaaGreatWHeavy
import Derived.Maps.OwnSet
import Derived.Maps.OwnOps
import Derived.Test.YtjpgnfekbojcaaaGreatWChk2
set_option maxHeartbeats 16000000
set_option maxRecDepth 100000
namespace Go.Proofs.YtjpgnfekbojcaaaGreat
open Go.RowKit W7 W8
attribute [local go_sem] Oper.semAt_some
abbrev keyI (n:Nat):Lit:= .int .i64 (n:Int)
theorem keyI_ne {a b:Nat} (h:a≠b):keyI a≠keyI b:=fun e=>h (by injection e with _ h2;exact Int.ofNat.inj h2)
theorem keyI_is (n:Nat):WideAt.IsKeyLit (keyI n):=by simp[WideAt.IsKeyLit]
theorem keyedI:Maps.Keyed Tryz.prog 3:=Maps.int_keyed Tryz.underlying3
theorem zeroI (w:World):(zeroValue 3).run Tryz.prog w= .ok (.int .i64 0) w:=by kernel_rfl
theorem wf64 {x:Int} (h: -9223372036854775808<=x/\x<=9223372036854775807):(Lit.int .i64 x).wf=true:=by
 have h1:IntKind.i64.min= -9223372036854775808:=by decide
 have h2:IntKind.i64.max=9223372036854775807:=by decide
 simp[Lit.wf,h1,h2,h]
theorem key_of {n:Nat} (hn:n<1000000):keyOf Tryz.prog 3 (.int .i64 (n:Int))=some (keyI n):=Maps.keyOf_int_mk Tryz.underlying3 (wf64 (by omega))
theorem own_fit {w:World} {k:TypeId} {R:Value->Option (DataW Unit×List MemPlace)} {b n:Nat} {D:DataW Unit} (h:w.ownsMap Tryz.prog k R b n D):w.ownsMap Tryz.prog k R b (Maps.size D) D:=by
 obtain⟨es,clock,hb,F,_,rfl⟩:=h;exact⟨es,clock,hb,F,by simp[Maps.size,length_sorted],rfl⟩
structure MemoD (j:JobP) (D:DataW Unit):Prop where
 val:∀n,n<j.tasks.length->Maps.has D (keyI n)=true->D.atKey (keyI n) (.lit (.int .i64 0))= .lit (.int .i64 (lonV j n))
 cnt:Maps.size D=(List.range j.tasks.length).countP (fun n=>Maps.has D (keyI n))
def Memo (X:World) (mb:Nat) (j:JobP):Prop:=∃D:DataW Unit,X.ownsMap Tryz.prog 3 (plainElem Tryz.prog 3) mb (Maps.size D) D/\MemoD j D
theorem Memo.lt {X:World} {mb:Nat} {j:JobP} (h:Memo X mb j):mb<X.heap.size:=by obtain⟨D,h,_⟩:=h;exact h.lt
theorem Memo.kept {X Y:World} {mb:Nat} {j:JobP} (h:Memo X mb j) (he:Y.heap[mb]? =X.heap[mb]?):Memo Y mb j:=by
 obtain⟨D,⟨es,clock,hb,F,hs,hD⟩,hM⟩:=h;exact⟨D,⟨es,clock,he.trans hb,F,hs,hD⟩,hM⟩
theorem Memo.below {X Y:World} {mb:Nat} {j:JobP} (h:Memo X mb j) (hb:Bl X Y):Memo Y mb j:=h.kept (hb.block mb h.lt)
theorem Memo.made (w:World) (j:JobP):Memo (w.alloc (.map #[] 0)) w.heap.size j:=
 ⟨.map [],World.ownsMap_made _ _ _ _,⟨fun n _ h=>by simp[Maps.has] at h,by simp[Maps.size,Maps.has]⟩⟩
theorem count_put:∀(l:List Nat) (p q:Nat->Bool) (n:Nat),l.Nodup->n∈l->(∀k,k≠n->p k=q k)->q n=true->l.countP q=l.countP p+(if p n then 0 else 1)
 | [],_,_,_,_,h,_,_=>absurd h (by simp)
 | a::l,p,q,n,hd,h,hpq,hq=>by
  have hd2:=List.nodup_cons.1 hd
  by_cases he:a=n
  ·subst he;have e1:l.countP q=l.countP p:=List.countP_congr (fun x hx=>by rw[hpq x (fun e=>hd2.1 (e▸hx))]);rw[List.countP_cons,List.countP_cons,e1,hq];cases p a<;>simp
  ·have hm:n∈l:=by
    rcases List.mem_cons.1 h with h | h
    ·exact absurd h.symm he
    ·exact h
   have ih:=count_put l p q n hd2.2 hm hpq hq;rw[List.countP_cons,List.countP_cons,ih,hpq a he];omega
theorem MemoD.put {j:JobP} {D:DataW Unit} (h:MemoD j D) (ht:Maps.Tidy D) {n:Nat} (hn:n<j.tasks.length):MemoD j (D.put (keyI n) (.lit (.int .i64 (lonV j n)))):=by
 refine⟨fun k hk hh=> ?_,?_⟩
 ·by_cases he:k=n
  ·subst he;rw[Maps.atKey_put_same ht.isMap (keyI_is k)]
  ·rw[Maps.atKey_put_other (keyI_ne he)];rw[Maps.has_put_other (keyI_ne he)] at hh;exact h.val k hk hh
 ·rw[Maps.size_put ht];have h1:=count_put (List.range j.tasks.length) (fun n=>Maps.has D (keyI n)) (fun k=>Maps.has (D.put (keyI n) (.lit (.int .i64 (lonV j n)))) (keyI k)) n List.nodup_range (List.mem_range.2 hn) (fun k hk=>(Maps.has_put_other (keyI_ne hk) _).symm) (Maps.has_put_same ht.isMap (keyI_is n) _);rw[h1,h.cnt]
  split<;>rfl
theorem MemoD.size_le {j:JobP} {D:DataW Unit} (h:MemoD j D):Maps.size D<=j.tasks.length:=by
 rw[h.cnt];have:=List.countP_le_length (p:=fun n=>Maps.has D (keyI n)) (l:=List.range j.tasks.length)
 rwa [List.length_range] at this
theorem Kept2.of_grown {w w':World} {b:Nat} (h:w.grownBy w' (some b)):Kept2 w w' b b:=⟨h.os,h.tape,h.output,h.size,fun i hi hne _=>h.block i hi (by simpa using hne)⟩
structure LonR (j:JobP) (n mb:Nat) (w:World) (e:Ending) (w':World):Prop where
 val:e= .returned (.int .i64 (lonV j n))
 kept:Kept2 w w' mb mb
 memo:Memo w' mb j
theorem known_any (j:JobP) (n mb:Nat) (P:Value) (w:World) (hG:JGood j) (hM:Memo w mb j) (hn:n<j.tasks.length) (hc:Calls Tryz.prog 174 #[.int .i64 (n:Int),P] w (LonR j n mb w)) :
  Calls Tryz.prog 173 #[.map (some mb),.int .i64 (n:Int),.func (.func 174) #[] #[P]] w (LonR j n mb w):=by
 have h64:=hG.nt;have hlb:=lonV_le hG hn;obtain⟨D,hown,hMD⟩:=hM;have hkey:=key_of (n:=n) (by omega);have hR:=hI (show Maps.has D (keyI n)=true->LonR j n mb w (.returned (.int .i64 (lonV j n))) w from fun _=>⟨rfl,Kept2.refl _ _ _,⟨D,hown,hMD⟩⟩);have HV:=hI (fun h=>hMD.val n hn h);have HC:=hI hc;have HP:=hI (fun(X:World) (D:DataW Unit) (m:Nat) (h:X.ownsMap Tryz.prog 3 (plainElem Tryz.prog 3) mb m (D.put (keyI n) (.lit (.int .i64 (lonV j n))))) (hM:MemoD j D) (ht:Maps.Tidy D)=>show Memo X mb j from⟨_,own_fit h,hM.put ht hn⟩);generalize hL:lonV j n=L at hlb HV HC hR HP;have HL:=hI hL;clear hc hMD hL;cases hh:Maps.has D (keyI n)
 ·go_enter Tryz.func173,Tryz.ntmps173
  go_wp2_with (first
   | (at_lookup;refine wpList_lookup_own_ok_int _ rfl _ _ 163 rfl 3 3 .i64 keyedI Tryz.underlying163 Tryz.underlying3 (zeroI _) mb _ D rfl hown _ _ rfl hkey ?_;intro c hat hwc)
   | (go_at_call 174;refine HC.o.mono ?_;rintro e w1 ⟨he,hk1,D1,hown1,hMD1⟩;rw[HL.o] at he;subst he;have hs1:=hMD1.size_le;have Hk1:=hI hk1;have HM1:=hI hMD1;have HT1:=hI (hown1.tidy keyedI);clear hk1 hMD1)
   | (at_mapUpdate;refine wpList_mapUpdate_own _ rfl _ _ _ 163 rfl 3 3 keyedI Tryz.underlying163 _ mb _ D1 rfl hown1 (by unfold maxLen;omega) _ _ _ rfl rfl hkey _ [] (plainElem_int Tryz.underlying3 (wf64 (by omega))) ?_;intro w2 hown2 hgrow2))
  go_ret;exact⟨by rw[HL.o];rfl,Hk1.o.trans (Kept2.of_grown hgrow2),HP.o _ _ _ hown2 HM1.o HT1.o⟩
 ·have hat2:=HV.o hh;go_enter Tryz.func173,Tryz.ntmps173;go_wp2_with (at_lookup;refine wpList_lookup_own_ok_int _ rfl _ _ 163 rfl 3 3 .i64 keyedI Tryz.underlying163 Tryz.underlying3 (zeroI _) mb _ D rfl hown _ _ rfl hkey ?_;intro c hat hwc);go_ret
  have hcL:c=L:=by
   rw[hat2] at hat
   injection hat with h1
   injection h1 with _ h2
   exact h2.symm
  rw[hcL];exact hR.out hh
def chnV (j:Job) (mb:Nat):Value:= .agg #[.slice j.TA j.tasks.length j.tc,.slice j.RA j.res.length j.rc,.map (some mb)]
theorem kept_blk {w X:World} {mb b:Nat} {o:Obj} (h:Kept2 w X mb mb) (hb:w.heap[b]? =some o) (hne:b≠mb):X.heap[b]? =some o:=(h.block b (blk_lt hb) hne hne).trans hb
theorem lon1_any (j:Job) (n mb cc B:Nat) (w:World) (hj0:jobErr j.p=0) (hM:Memo w mb j.p) (hj:JIn w B j) (hB:B<=mb) (hn:n<j.tasks.length) (hcc:cc≠mb)
  (hc:w.heap[cc]? =some (.cells #[.slice j.TA j.tasks.length j.tc,.slice j.RA j.res.length j.rc,.map (some mb)] 165 (0,0)))
  (ih:∀k,k<j.tasks.length->rankOf j.p n<rankOf j.p k->∀X,Memo X mb j.p->JIn X B j->Calls Tryz.prog 113 #[chnV j mb,.int .i64 (k:Int)] X (LonR j.p k mb X)) :
  Calls Tryz.prog 174 #[.int .i64 (n:Int),.pointer (some ⟨cc,0,none⟩)] w (LonR j.p n mb w):=by
 obtain⟨m,hm⟩:∃m,j.tasks.length=m:=⟨_,rfl⟩
 obtain⟨TA,hTA⟩:∃x,j.TA=x:=⟨_,rfl⟩
 have hG:=good_of hj0;have h64:m<=64:=by have:=hG.nt;rw[j.nt] at this;omega
 have hlc:=hj.tl;have hc2:=hj.tc;rw[hm] at hlc;have HJ:=hI (show ∀X,Kept2 w X mb mb->JIn X B j from fun X hX=>hj.below (hX.below hB hB (by have:=hM.lt;omega)));have HCc:=hI (show ∀X,Kept2 w X mb mb->X.heap[cc]? =some (.cells #[.slice TA m j.tc,.slice j.RA j.res.length j.rc,.map (some mb)] 165 (0,0)) from fun X hX=>by rw[hm,hTA] at hc;exact kept_blk hX hc hcc);have hcv:chnV j mb= .agg #[.slice TA m j.tc,.slice j.RA j.res.length j.rc,.map (some mb)]:=by unfold chnV;rw[hm,hTA]
 have HI:=hI (fun(k:Nat) (hk:k<m) (hr:rankOf j.p n<rankOf j.p k) (X:World) (hX:Memo X mb j.p) (hX2:JIn X B j)=>by have h:=ih k (by omega) hr X hX hX2;rw[hcv] at h;exact h);have HLV:=hI (show lonV j.p n=(j.T n).p.takes+lonTo j.p n m by rw[lonV_eq hj0,j.pT,j.nt,hm]);have HG:=hI hG;have Hj0:=hI hj0;have Hm:=hI hm;have HTA:=hI hTA;have HM0:=hI hM;have hmx:=max_run Tryz.prog;have q0:=W7.bc (j:=0) (HCc.o w (Kept2.refl _ _ _)) rfl;rw[hm] at hn;clear hc ih hcv hj hG hj0 hm hTA hM;go_enter Tryz.func174,Tryz.ntmps174;go_wp2;clear q0;go_loopw [4,11] (fun v4 v11 wr=>∃i:Nat,i<=m/\v11= .int .i64 i/\v4= .int .i64 (lonTo j.p n i)/\Hid (Kept2 w wr mb mb)/\Hid (Memo wr mb j.p)) (fun _ v11 _=>m-(intOf v11).toNat);case atStart=>exact⟨0,by omega,rfl,rfl,hI (Kept2.refl _ _ _),HM0⟩
 case round=>
  obtain⟨i,hi,rfl,rfl,HK,HM⟩:=hrel;have hsr:=HK.o.size;have hcs:=blk_lt (HCc.o w (Kept2.refl _ _ _));have hjn:=HJ.o wr HK.o
  by_cases hlt:i<m
  ·have hil:i<j.tasks.length:=by have:=Hm.o;omega
   obtain⟨tb,off,hTb,htb⟩:=hjn.ta (by omega);have hTe:TA=some ⟨tb,off,none⟩:=by rw[<- HTA.o];exact hTb
   subst hTe;obtain⟨c0,c1,c2,c3⟩:=hjn.tcells hTb hil;have hTk:=hjn.tks _ (j.T_mem hil);have hnl:=hTk.nl;have hnc:=hTk.nc;have HNs:=hI hTk.ns;have hnn:=needs_len HG.o (j.Tp_mem hil);have hlb:=lonTo_le HG.o n i (by rw[j.nt];omega);have hvb:=lonV_le HG.o (n:=i) (by rw[j.nt];omega)
   have HRk:=hI (fun(h:(j.T i).p.needs.contains (n:Int)=true)=>by
    have h1:=rank_needs Hj0.o (k:=i) (by rw[j.nt];omega) (m:=(n:Int)) (by rw[j.pT];exact List.contains_iff_mem.1 h);rw[Int.toNat_natCast] at h1;exact h1)
   have HSt:=hI (show lonTo j.p n (i+1)=if (j.T i).p.needs.contains (n:Int) then max (lonTo j.p n i) (lonV j.p i) else lonTo j.p n i by rw[lonTo_succ,<-j.pT];rfl);have HIi:=hI (HI.o i hlt);generalize j.T i=t at c0 c1 c2 c3 hnl hnc HNs hnn HRk HSt;generalize lonTo j.p n i=L at hlb HSt;rw[List.contains_eq_any_beq] at HSt HRk;obtain⟨NA,hNA⟩:∃x,t.NA=x:=⟨_,rfl⟩
   obtain⟨nn,hnn'⟩:∃x,t.p.needs.length=x:=⟨_,rfl⟩
   rw[hNA,hnn'] at c2;rw[hNA] at HNs;rw[hnn'] at hnl hnn;obtain⟨W4,hW4⟩:∃W4,W4=wr.alloc (.cells #[.string t.p.name,.int .i64 t.p.takes,.slice NA nn t.nc,.slice t.UA t.p.uses.length t.uc] 46):=⟨_,rfl⟩
   have HB4:=hI (show Bl wr W4 by rw[hW4];exact(Below.refl _ _).alloc (Nat.le_refl _) _);have hs4:=HB4.o.size;have r2:W4.cell? ⟨wr.heap.size,2,none⟩=some (.slice NA nn t.nc):=by rw[hW4];exact alloc_cell rfl
   have HCt:=hI (containsI_any t.p.needs (n:Int) nn hnn'.symm NA t.nc B W4 (HNs.o.below (HB4.o.mono (by have:=HM0.o.lt;omega))) (by have:=HM0.o.lt;omega) (by omega))
   have HK4:=hI (show ∀X,Bl W4 X->Kept2 w X mb mb/\Memo X mb j.p from fun X hX=>by
    have h:Bl wr X:=HB4.o.trans (hX.mono hs4);exact⟨HK.o.trans (Kept2.of_below h),HM.o.below h⟩)
   have q0:=W7.bc (j:=0) (HCc.o wr HK.o) rfl;clear hjn hTk hTb hNA hnn';go_upto_region 5 with fail;rw[<- hW4];clear hW4 c0 c1 c2 c3;generalize t.p.needs.any (fun y=>(n:Int)==y)=an at HSt HRk HCt;cases an
   ·have HS2:=hI (show lonTo j.p n (i+1)=L by rw[HSt.o];rfl);clear HSt HRk;go_wp2_with (go_at_call 121;refine HCt.o.mono ?_;rintro e w5 ⟨rfl,hb5⟩;have Hb5:=hI hb5;clear hb5);go_roundw;case rel=>exact⟨i+1,by omega,by go_num,by rw[HS2.o],hI (HK4.o _ Hb5.o).1,hI (HK4.o _ Hb5.o).2⟩
    case measure=>simp[intOf];omega
   ·have HS2:=hI (show lonTo j.p n (i+1)=max L (lonV j.p i) by rw[HSt.o];rfl);have HIr:=hI (HIi.o (HRk.o rfl));clear HSt HRk HIi;go_upto_region 6 with(go_at_call 121;refine HCt.o.mono ?_;rintro e w5 ⟨rfl,hb5⟩;have Hb5:=hI hb5;clear hb5)
    have HK5:=hI (HK4.o _ Hb5.o).1;have HL5:=hI (HIr.o w5 (HK4.o _ Hb5.o).2 (HJ.o _ HK5.o));have p0:=W7.bc (j:=0) (HCc.o w5 HK5.o) rfl;have p1:=W7.bc (j:=1) (HCc.o w5 HK5.o) rfl;have p2:=W7.bc (j:=2) (HCc.o w5 HK5.o) rfl;go_wp2_with (go_at_call 113;refine HL5.o.mono ?_;rintro e w6 ⟨rfl,hk6,hm6⟩;have Hk6:=hI hk6;have Hm6:=hI hm6;clear hk6 hm6);go_roundw;case rel=>exact⟨i+1,by omega,by go_num,by rw[HS2.o],hI (HK5.o.trans Hk6.o),Hm6⟩
    case measure=>simp[intOf];omega
  ·have hei:i=m:=by omega
   subst hei;have hil:n<j.tasks.length:=by have:=Hm.o;omega
   obtain⟨tb,off,hTb,htb⟩:=hjn.ta (by omega);have hTe:TA=some ⟨tb,off,none⟩:=by rw[<- HTA.o];exact hTb
   subst hTe;obtain⟨_,c1,_,_⟩:=hjn.tcells hTb hil;have hlb:=lonTo_le HG.o n i (by have:=Hm.o;rw[j.nt];omega);have htk:=HG.o.takes _ (j.Tp_mem hil);generalize (j.T n).p.takes=tk at c1 htk HLV;generalize lonTo j.p n i=L at hlb HLV;have q0:=W7.bc (j:=0) (HCc.o wr HK.o) rfl;go_wp2;go_ret;exact⟨by rw[HLV.o];first | rfl | (congr;go_num),HK.o,HM.o⟩
theorem longest_any (j:Job) (mb B:Nat) (hj0:jobErr j.p=0) (hB:B<=mb):∀(d n:Nat) (w:World),Memo w mb j.p->JIn w B j->n<j.tasks.length->j.tasks.length-rankOf j.p n<=d →
  Calls Tryz.prog 113 #[chnV j mb,.int .i64 (n:Int)] w (LonR j.p n mb w)
 | 0,n,w,hM,hj,hn,hd=>by have:=rank_lt hj0 (n:=n) (by rw[j.nt];exact hn);rw[j.nt] at this;omega
 | d+1,n,w,hM,hj,hn,hd=>by
  have IH:=longest_any j mb B hj0 hB d;have hmb:=hM.lt;obtain⟨W0,hW0⟩:∃W0,W0=w.alloc (.cells #[.slice j.TA j.tasks.length j.tc,.slice j.RA j.res.length j.rc,.map (some mb)] 165):=⟨_,rfl⟩
  have HB0:=hI (show Bl w W0 by rw[hW0];exact(Below.refl _ _).alloc (Nat.le_refl _) _);have hX0:W0.heap[w.heap.size]? =some (.cells #[.slice j.TA j.tasks.length j.tc,.slice j.RA j.res.length j.rc,.map (some mb)] 165 (0,0)):=by rw[hW0];exact heap_alloc_new _ _
  have HJ0:=hj.below (HB0.o.mono (by omega));have HM0:=hM.below HB0.o;have HC:=lon1_any j n mb w.heap.size B W0 hj0 HM0 HJ0 hB hn (by omega) hX0 (fun k hk hr X hX hXj=>IH k X hX hXj hk (by omega));have HK:=hI (known_any j.p n mb _ W0 (good_of hj0) HM0 (by rw[j.nt];exact hn) HC);unfold chnV;have q0:=W7.bc (j:=0) hX0 rfl;have q1:=W7.bc (j:=1) hX0 rfl;have q2:=W7.bc (j:=2) hX0 rfl;generalize j.tasks.length=m at *;clear HC IH hX0;go_enter Tryz.func113,Tryz.ntmps113;go_upto_region 1 with fail;rw[<- hW0];clear hW0;go_wp2_with (go_at_call 173;refine HK.o.mono ?_;rintro e w1 ⟨rfl,hk1,hm1⟩);go_ret;exact⟨rfl,(Kept2.of_below HB0.o).trans hk1,hm1⟩
end Go.Proofs.YtjpgnfekbojcaaaGreat
namespace W8
open W7
structure ChInv (j:JobP) (C out:List Int) (last left:Int) (i:Nat):Prop where
 eq:C=out++chainGo j (j.tasks.length+1-out.length) last left
 no:∀k,k<i->nextB j last left k=false
 lst:(last= -1/\out=[])\/∃q:Nat,q<j.tasks.length/\last=(q:Int)/\out.length<=rankOf j q+1
 rng:0<=left/\left<=200000
theorem ChInv.len {j:JobP} {C out:List Int} {last left:Int} {i:Nat} (h:ChInv j C out last left i) (hj:jobErr j=0):out.length<=j.tasks.length:=by
 rcases h.lst with⟨_,rfl⟩ | ⟨q,hq,_,h2⟩
 ·simp
 ·have:=rank_lt hj hq;omega
theorem ChInv.last' {j:JobP} {C out:List Int} {last left:Int} {i:Nat} (h:ChInv j C out last left i) (hj:jobErr j=0): -1<=last/\last<=64:=by
 have:=(good_of hj).nt;rcases h.lst with⟨e,_⟩ | ⟨q,hq,e,_⟩<;>omega
theorem ChInv.start (j:JobP) {left:Int} (h:0<=left/\left<=200000):ChInv j (chainV j left) [] (-1) left 0:=
 ⟨rfl,fun k hk=>by omega,.inl ⟨rfl,rfl⟩,h⟩
theorem ChInv.next {j:JobP} {C out:List Int} {last left:Int} {i:Nat} (h:ChInv j C out last left i) (hi:nextB j last left i=false):ChInv j C out last left (i+1):=
 ⟨h.eq,fun k hk=>by
  by_cases he:k=i
  ·rw[he];exact hi
  ·exact h.no k (by omega),h.lst,h.rng⟩
theorem find_range {P:Nat->Bool} {n i:Nat} (hn:i<n) (hi:P i=true) (hno:∀k,k<i->P k=false):(List.range n).find? P=some i:=by
 rw[List.find?_eq_some_iff_getElem];refine⟨hi,i,by simpa using hn,by simp,fun k hk=> ?_⟩;have:=hno k hk;simp[this]
theorem find_range_no {P:Nat->Bool} {n:Nat} (hno:∀k,k<n->P k=false):(List.range n).find? P=none:=by
 rw[List.find?_eq_none];intro x hx;rw[hno x (List.mem_range.1 hx)];simp
theorem ChInv.done {j:JobP} {C out:List Int} {last left:Int} {i:Nat} (h:ChInv j C out last left i) (hj:jobErr j=0) (hi:j.tasks.length<=i):C=out:=by
 have h2:=h.len hj;obtain⟨f,hf⟩:∃f,j.tasks.length+1-out.length=f+1:=⟨j.tasks.length-out.length,by omega⟩
 rw[h.eq,hf,chainGo,find_range_no (fun k hk=>h.no k (by omega))];simp
theorem ChInv.end' {j:JobP} {C out:List Int} {last left:Int} {i:Nat} (h:ChInv j C out last left i) (hj:jobErr j=0) (hi:i<j.tasks.length) (hn:nextB j last left i=true) (hz:left-(j.tasks.getD i default).takes<=0):C=out++[(i:Int)]:=by
 have h2:=h.len hj;obtain⟨f,hf⟩:∃f,j.tasks.length+1-out.length=f+1:=⟨j.tasks.length-out.length,by omega⟩
 rw[h.eq,hf,chainGo,find_range hi hn h.no];simp only[if_pos hz]
theorem ChInv.take {j:JobP} {C out:List Int} {last left:Int} {i:Nat} (h:ChInv j C out last left i) (hj:jobErr j=0) (hi:i<j.tasks.length) (hn:nextB j last left i=true) (hz: ¬left-(j.tasks.getD i default).takes<=0):ChInv j C (out++[(i:Int)]) i (left-(j.tasks.getD i default).takes) 0:=by
 have h2:=h.len hj;have htk:=(good_of hj).takes (j.tasks.getD i default) (by rw[getD_of hi];exact List.getElem_mem _);obtain⟨f,hf⟩:∃f,j.tasks.length+1-out.length=f+1:=⟨j.tasks.length-out.length,by omega⟩
 refine⟨?_,fun k hk=>by omega,.inr ⟨i,hi,rfl,?_⟩,by have:=h.rng;omega⟩
 ·have e:=h.eq;rw[hf,chainGo,find_range hi hn h.no] at e;simp only[if_neg hz] at e;rw[e,show j.tasks.length+1-(out++[(i:Int)]).length=f by simp;omega];simp
 ·rw[List.length_append];rcases h.lst with⟨_,rfl⟩ | ⟨q,hq,e,h3⟩
  ·simp
  ·have hc:(j.tasks.getD i default).needs.contains last=true:=by
    unfold nextB at hn;rw[e] at hn ⊢;rw[decide_eq_false (by omega)] at hn;simp only[Bool.false_or,Bool.and_eq_true] at hn;exact hn.1
   have h4:=rank_needs hj hi (List.contains_iff_mem.1 hc);rw[e,Int.toNat_natCast] at h4;simp;omega
theorem longTo_le {j:JobP} (hG:JGood j):∀i,i<=j.tasks.length->0<=longTo j i/\longTo j i<=6500000
 | 0,_=>by simp[longTo]
 | i+1,hi=>by
  have h1:=longTo_le hG i (by omega);have h2:=lonV_le hG (n:=i) (by omega);simp only[longTo];omega
end W8
namespace Go.Proofs.YtjpgnfekbojcaaaGreat
open Go.RowKit W7 W8
attribute [local go_sem] Oper.semAt_some
def KLater (w:World) (b:Nat):Type:={ W:World // Kept2 w W b b }
def KLater.w {w:World} {b:Nat} (e:KLater w b):World:=e.1
theorem KLater.k {w:World} {b:Nat} (e:KLater w b):Kept2 w e.w b b:=e.2
theorem klater_cell {w:World} {b c o:Nat} {v:Value} (h:w.cell? ⟨c,o,none⟩=some v) (hb:c<w.heap.size) (hr:c≠b):∀e:KLater w b,e.w.cell? ⟨c,o,none⟩=some v:=fun e=>by
 rw[<- h];exact World.cell?_of_block (a:=⟨c,o,none⟩) (e.k.block c hb hr hr)
theorem Kept2.toGrown {w w':World} {b:Nat} (h:Kept2 w w' b b):w.grownBy w' (some b):=⟨h.os,h.tape,h.output,h.size,fun i hi hne=>h.block i hi (by simpa using hne) (by simpa using hne)⟩
theorem Kept2.on {u v w:World} {b:Nat} (h:Kept2 u v b b) (g:Below u.heap.size v w):Kept2 u w b b:=
 ⟨g.os.trans h.os,g.tape.trans h.tape,g.output.trans h.output,Nat.le_trans h.size g.size,fun i hi x y=>(g.block i hi).trans (h.block i hi x y)⟩
theorem own_memo {w w':World} {base e size n mb:Nat} {v:Value} {xs:List Value} (h:w.ownsRow base e size v n xs) (hb:mb<base) (hk:Kept2 w w' mb mb):w'.ownsRow base e size v n xs:=
 h.kept hk.toGrown (by
  cases hv:v.ownBlock with
  | none=>exact .inl rfl
  | some k=>
   refine .inr fun e=> ?_
   have:=(h.lt k hv).1
   injection e with e
   omega)
theorem meas_lt {m a b x y:Nat} (ha:a<=m) (hb:b=a+1) (hx:x<=m:=by simp[intOf]<;>omega):(m+1-b)*(m+2)+x<(m+1-a)*(m+2)+y:=by
 subst hb;obtain⟨k,hk⟩:∃k,m+1-a=k+1:=⟨m-a,by omega⟩
 rw[hk,show m+1-(a+1)=k by omega,Nat.add_mul];omega
theorem least_any (j:Job) (left0:Int) (mb B:Nat) (w:World) (hj0:jobErr j.p=0) (hM:Memo w mb j.p) (hj:JIn w B j) (hB:B<=mb) (h0:0<=left0/\left0<=200000) :
  Calls Tryz.prog 114 #[chnV j mb,.int .i64 left0] w fun e w'=>(∃v,e= .returned v/\w'.ownsRow w.heap.size 3 1 v (chainV j.p left0).length ((chainV j.p left0).map (Value.int .i64)))/\Kept2 w w' mb mb/\Memo w' mb j.p:=by
 obtain⟨m,hm⟩:∃m,j.tasks.length=m:=⟨_,rfl⟩
 obtain⟨TA,hTA⟩:∃x,j.TA=x:=⟨_,rfl⟩
 have hG:=good_of hj0;have h64:m<=64:=by have:=hG.nt;rw[j.nt] at this;omega
 have hlc:=hj.tl;have hc2:=hj.tc;rw[hm] at hlc;have hmw:=hM.lt;obtain⟨CV,hCV⟩:∃x,chnV j mb=x:=⟨_,rfl⟩
 have hCV2:Value.agg #[.slice TA m j.tc,.slice j.RA j.res.length j.rc,.map (some mb)]=CV:=by rw[<- hCV];unfold chnV;rw[hm,hTA]
 obtain⟨W0,hW0⟩:∃W0,W0=w.alloc (.cells #[.slice TA m j.tc,.slice j.RA j.res.length j.rc,.map (some mb)] 165):=⟨_,rfl⟩
 have hs0:W0.heap.size=w.heap.size+1:=by rw[hW0];simp
 have HB0:=hI (show Bl w W0 by rw[hW0];exact(Below.refl _ _).alloc (Nat.le_refl _) _);obtain⟨cb,hcb⟩:∃cb,cb=w.heap.size:=⟨_,rfl⟩
 have HCb:=hI (show ∀X,Kept2 W0 X mb mb->X.heap[cb]? =some (.cells #[.slice TA m j.tc,.slice j.RA j.res.length j.rc,.map (some mb)] 165 (0,0)) from fun X hX=>kept_blk hX (by rw[hW0,hcb];exact heap_alloc_new _ _) (by omega));have HJ:=hI (show ∀X,Kept2 W0 X mb mb->JIn X B j from fun X hX=>hj.below ((HB0.o.mono (by omega)).trans (hX.below hB hB (by omega))));have HM0:=hI (hM.below HB0.o)
 have HLg:=hI (fun(X:World) (n:Nat) (hn:n<m) (hX:Kept2 W0 X mb mb) (hMX:Memo X mb j.p)=>by
  have h:=longest_any j mb B hj0 hB _ n X hMX (HJ.o X hX) (by omega) (Nat.le_refl _);rw[hCV] at h;exact h)
 have HG:=hI hG;have Hj0:=hI hj0;have Hm:=hI hm;have HTA:=hI hTA;have HCV:=hI hCV2;obtain⟨CC,hCC⟩:∃x,chainV j.p left0=x:=⟨_,rfl⟩
 have HI0:=hI (show ChInv j.p CC [] (-1) left0 0 by rw[<- hCC];exact ChInv.start j.p h0);rw[hCC,hCV,<-hCV2];have hcbl:cb<W0.heap.size:=by omega
 have HKw:=hI (show ∀X,Kept2 W0 X mb mb->Kept2 w X mb mb from fun X hX=>(Kept2.of_below HB0.o).trans hX);have q0:=W7.bc (j:=0) (HCb.o W0 (Kept2.refl _ _ _)) rfl;have q1:=W7.bc (j:=1) (HCb.o W0 (Kept2.refl _ _ _)) rfl;have q2:=W7.bc (j:=2) (HCb.o W0 (Kept2.refl _ _ _)) rfl;have hbs:w.heap.size<=W0.heap.size:=by omega
 have hmb0:mb<W0.heap.size:=by omega
 clear hM hj hG hj0 hm hTA hCV hCV2 hCC hmw;go_enter Tryz.func114,Tryz.ntmps114;go_upto_region 1 with fail;rw[<- hW0,<-hcb];clear hW0 hcb;go_upto_region 2 with fail;go_wp2;clear q0 q1 q2;go_loopw [1,5,6,7] (fun v1 v5 v6 v7 wr=>∃(out:List Int) (left last:Int) (i:Nat),i<=m/\lenV v5=out.length/\v6= .int .i64 i/\v1= .int .i64 left/\v7= .int .i64 last/\Hid (ChInv j.p CC out last left i)/\Hid (Kept2 W0 wr mb mb)/\Hid (Memo wr mb j.p)/\Hid (wr.ownsRow W0.heap.size 3 1 v5 out.length (out.map (Value.int .i64)))) (fun v1 v5 v6 _ _=>(m+1-lenV v5)*(m+2)+(m-(intOf v6).toNat));case atStart=>exact⟨[],left0, -1,0,by omega,rfl,rfl,rfl,rfl,HI0,hI (Kept2.refl _ _ _),HM0,hI (World.ownsRow_nil _ _ _ _)⟩
 case round=>
  obtain⟨out,left,last,i,hi,hlv,rfl,rfl,rfl,HI,HK,HM,Ho⟩:=hrel;have hsr:=HK.o.size
  by_cases hlt:i<m
  ·have hil:i<j.tasks.length:=by have:=Hm.o;omega
   have hip:i<j.p.tasks.length:=by rw[j.nt];exact hil
   have hmi:=Hm.o;have hjn:=HJ.o wr HK.o;obtain⟨tb,off,hTb,htb⟩:=hjn.ta (by omega);have hTe:TA=some ⟨tb,off,none⟩:=by rw[<- HTA.o];exact hTb
   subst hTe;obtain⟨_,c1,c2,_⟩:=hjn.tcells hTb hil;have hTk:=hjn.tks _ (j.T_mem hil);have hnl:=hTk.nl;have hnc:=hTk.nc;have HNs:=hI hTk.ns;have hnn:=needs_len HG.o (j.Tp_mem hil);have htk:=HG.o.takes _ (j.Tp_mem hil);have hvb:=lonV_le HG.o (n:=i) hip;have hla:=HI.o.last' Hj0.o;have hlr:=HI.o.rng;have hol:out.length<=m:=by have h:=HI.o.len Hj0.o;rw[j.nt] at h;omega
   have HNx:=hI (show nextB j.p last left i=((decide (last<0)||(j.T i).p.needs.any (fun y=>last==y))&&decide (left<=lonV j.p i)) by unfold nextB;rw[j.pT,List.contains_eq_any_beq]);have HNext:=hI (fun h=>HI.o.next h);have HEnd:=hI (fun h1 (h2:left-(j.T i).p.takes<=0)=>HI.o.end' Hj0.o hip h1 (by rw[j.pT];exact h2));have HTake:=hI (fun h1 (h2: ¬left-(j.T i).p.takes<=0)=>by have h:=HI.o.take Hj0.o hip h1 (by rw[j.pT];exact h2);rw[j.pT] at h;exact h);have HLo:=hI (fun(X:World) (hX:Memo X mb j.p) (hk:Kept2 wr X mb mb)=>show Calls Tryz.prog 113 #[CV,.int .i64 (i:Int)] X fun e w'=>e= .returned (.int .i64 (lonV j.p i))/\Kept2 X w' mb mb/\Memo w' mb j.p from(HLg.o X i hlt (HK.o.trans hk) hX).mono (fun _ _ h=>⟨h.val,h.kept,h.memo⟩));have HCt0:=hI (fun(nn:Nat) (h:nn=(j.T i).p.needs.length)=>containsI_any (j.T i).p.needs last nn h (j.T i).NA (j.T i).nc B wr HNs.o (by omega) (by omega))
   generalize j.T i=t at c1 c2 hnl hnc HNs hnn htk HNx HEnd HTake HCt0;generalize lonV j.p i=LV at hvb HNx HLo;obtain⟨NA,hNA⟩:∃x,t.NA=x:=⟨_,rfl⟩
   obtain⟨nn,hnn'⟩:∃x,t.p.needs.length=x:=⟨_,rfl⟩
   obtain⟨tk,htk'⟩:∃x,t.p.takes=x:=⟨_,rfl⟩
   have HCt:=hI (HCt0.o nn hnn'.symm);rw[hNA] at HCt HNs;rw[hNA,hnn'] at c2;rw[hnn'] at hnl hnn;rw[htk'] at c1 htk HEnd HTake;have HC1:=hI (klater_cell c1 (by omega) (b:=mb) (by omega));generalize t.p.needs.any (fun y=>last==y)=an at HNx HCt;obtain⟨sm,hsm⟩:∃x,decide (LV<left)=x:=⟨_,rfl⟩
   have HSm:=hI hsm;have q0:=W7.bc (j:=0) (HCb.o wr HK.o) rfl;have q1:=W7.bc (j:=1) (HCb.o wr HK.o) rfl;have q2:=W7.bc (j:=2) (HCb.o wr HK.o) rfl;have hcbr:cb<wr.heap.size:=by omega
   clear hTb hTk hNA hnn' htk' hjn HCt0 HLg c1 hmi
   by_cases hneg:last<0
   ·have hge:decide (0<=last)=false:=by simp;omega
    have HNa:=hI (show nextB j.p last left i= !sm by rw[HNx.o,decide_eq_true hneg,<-HSm.o];simp only[Bool.true_or,Bool.true_and];rw[<- decide_not];congr 1;exact propext (by omega));have HLw:=hI (HLo.o wr HM.o (Kept2.refl _ _ _));rw[<- HCV.o] at HLw;clear hneg HNx HCt HLo;cases sm
    ·go_upto_region 6 with(go_at_call 113;refine HLw.o.mono ?_;rintro e w6 ⟨rfl,hk6,hm6⟩;have Hk6:=hI hk6;have Hm6:=hI hm6;clear hk6 hm6)
     have HK6:=hI (HK.o.trans Hk6.o);have hs6:=HK6.o.size;have HO6:=hI (own_memo Ho.o hmb0 Hk6.o);have HJ6:=hI (HC1.o ⟨w6,(Kept2.refl _ _ _).trans Hk6.o⟩);go_upto_region 7 with(at_builtin;go_loud (refine wpList_append1 rfl _ _ 26 rfl W0.heap.size 3 _ 1 8 elemI _ _ _ rfl HO6.o #[.int .i64 (i:Int)] 1 _ rfl (by simp) rfl (by simp[Value.oneCell']) (by omega) (by omega) ?_);intro v7 w7 hown7 hb7 hsz7 hg7 hblk7;have Ho7:=hI hown7;have Hb7:=hI hb7;have hs7:=hsz7;have Hg7:=hI hg7;clear hown7 hb7 hsz7 hg7 hblk7)
     have HK7:=hI (HK6.o.on Hb7.o);have c7:w7.cell? ⟨tb,off+i*4+1,none⟩=some (.int .i64 tk):=(Hb7.o.cell (p:=⟨tb,off+i*4+1,none⟩) (by simp;omega)).trans HJ6.o;have d0:=bc (j:=0) (HCb.o w7 HK7.o) rfl;have HM7:=hI (Hm6.o.kept (Hb7.o.block mb hmb0));obtain⟨A7,n7,e7,_,_⟩:=own_cap' Ho7.o;subst e7
     by_cases hz:left-tk<=0
     ·have HE:=hI (HEnd.o HNa.o hz);have HOo:=hI (show w7.ownsRow w.heap.size 3 1 (.slice A7 (out.length+1) n7) CC.length (CC.map (Value.int .i64)) by rw[HE.o,List.length_append,List.map_append];exact own_mono Ho7.o hbs);clear HEnd HTake HNext HNa;go_wp2;go_ret;exact⟨⟨_,rfl,HOo.o⟩,HKw.o _ HK7.o,HM7.o⟩
     ·have HT:=hI (HTake.o HNa.o (by omega));clear HEnd HTake HNext HNa;go_wp2;go_roundw;case rel=>exact⟨out++[(i:Int)],left-tk,i,0,by omega,by simp[lenV],by first | rfl | go_num,by go_num,rfl,HT,HK7,HM7,hI (by rw[List.length_append,List.map_append];exact Ho7.o)⟩
      case measure=>
       rw[hlv];exact meas_lt (by omega) (by simp[lenV])
    ·go_wp2_with (go_at_call 113;refine HLw.o.mono ?_;rintro e w6 ⟨rfl,hk6,hm6⟩;have Hk6:=hI hk6;have Hm6:=hI hm6;clear hk6 hm6);have HNn:=hI (HNext.o HNa.o);have HO6:=hI (own_memo Ho.o hmb0 Hk6.o);clear HNext HEnd HTake HNa;go_roundw;case rel=>exact⟨out,left,last,i+1,by omega,hlv,by go_num,rfl,rfl,HNn,hI (HK.o.trans Hk6.o),Hm6,HO6⟩
     case measure=>rw[hlv];simp[intOf];omega
   ·have hge:decide (0<=last)=true:=by simp;omega
    cases an
    ·have HNn:=hI (HNext.o (show nextB j.p last left i=false by rw[HNx.o,decide_eq_false hneg];rfl));clear hneg HNx HLo HNext HEnd HTake;go_wp2_with (go_at_call 121;refine HCt.o.mono ?_;rintro e w5 ⟨rfl,hb5⟩;have Hb5:=hI hb5;clear hb5);go_roundw;case rel=>exact⟨out,left,last,i+1,by omega,hlv,by go_num,rfl,rfl,HNn,hI (HK.o.trans (Kept2.of_below Hb5.o)),hI (HM.o.below Hb5.o),hI (own_below Ho.o Hb5.o)⟩
     case measure=>rw[hlv];simp[intOf];omega
    ·have HNa:=hI (show nextB j.p last left i= !sm by rw[HNx.o,<-HSm.o];simp only[Bool.or_true,Bool.true_and];rw[<- decide_not];congr 1;exact propext (by omega));clear hneg HNx;cases sm
     ·go_upto_region 6 with(first | (go_at_call 121;refine HCt.o.mono ?_;rintro e w5 ⟨rfl,hb5⟩;have Hb5:=hI hb5;have p0:=bc (j:=0) (HCb.o w5 (HK.o.trans (Kept2.of_below Hb5.o))) rfl;have p1:=bc (j:=1) (HCb.o w5 (HK.o.trans (Kept2.of_below Hb5.o))) rfl;have p2:=bc (j:=2) (HCb.o w5 (HK.o.trans (Kept2.of_below Hb5.o))) rfl;have HLw:=hI (HLo.o w5 (HM.o.below Hb5.o) (Kept2.of_below Hb5.o));rw[<- HCV.o] at HLw;clear hb5) | (go_at_call 113;refine HLw.o.mono ?_;rintro e w6 ⟨rfl,hk6,hm6⟩;have Hk6:=hI hk6;have Hm6:=hI hm6;clear hk6 hm6))
      have HK6:=hI ((HK.o.trans (Kept2.of_below Hb5.o)).trans Hk6.o);have hs6:=HK6.o.size;have HO6:=hI (own_memo (own_below Ho.o Hb5.o) hmb0 Hk6.o);have HJ6:=hI (HC1.o ⟨w6,(Kept2.of_below Hb5.o).trans Hk6.o⟩);go_upto_region 7 with(at_builtin;go_loud (refine wpList_append1 rfl _ _ 26 rfl W0.heap.size 3 _ 1 8 elemI _ _ _ rfl HO6.o #[.int .i64 (i:Int)] 1 _ rfl (by simp) rfl (by simp[Value.oneCell']) (by omega) (by omega) ?_);intro v7 w7 hown7 hb7 hsz7 hg7 hblk7;have Ho7:=hI hown7;have Hb7:=hI hb7;have hs7:=hsz7;have Hg7:=hI hg7;clear hown7 hb7 hsz7 hg7 hblk7)
      have HK7:=hI (HK6.o.on Hb7.o);have c7:w7.cell? ⟨tb,off+i*4+1,none⟩=some (.int .i64 tk):=(Hb7.o.cell (p:=⟨tb,off+i*4+1,none⟩) (by simp;omega)).trans HJ6.o;have d0:=bc (j:=0) (HCb.o w7 HK7.o) rfl;have HM7:=hI (Hm6.o.kept (Hb7.o.block mb hmb0));obtain⟨A7,n7,e7,_,_⟩:=own_cap' Ho7.o;subst e7
      by_cases hz:left-tk<=0
      ·have HE:=hI (HEnd.o HNa.o hz);have HOo:=hI (show w7.ownsRow w.heap.size 3 1 (.slice A7 (out.length+1) n7) CC.length (CC.map (Value.int .i64)) by rw[HE.o,List.length_append,List.map_append];exact own_mono Ho7.o hbs);clear HEnd HTake HNext HNa;go_wp2;go_ret;exact⟨⟨_,rfl,HOo.o⟩,HKw.o _ HK7.o,HM7.o⟩
      ·have HT:=hI (HTake.o HNa.o (by omega));clear HEnd HTake HNext HNa;go_wp2;go_roundw;case rel=>exact⟨out++[(i:Int)],left-tk,i,0,by omega,by simp[lenV],by first | rfl | go_num,by go_num,rfl,HT,HK7,HM7,hI (by rw[List.length_append,List.map_append];exact Ho7.o)⟩
       case measure=>
        rw[hlv];exact meas_lt (by omega) (by simp[lenV])
     ·go_wp2_with (first | (go_at_call 121;refine HCt.o.mono ?_;rintro e w5 ⟨rfl,hb5⟩;have Hb5:=hI hb5;have p0:=bc (j:=0) (HCb.o w5 (HK.o.trans (Kept2.of_below Hb5.o))) rfl;have p1:=bc (j:=1) (HCb.o w5 (HK.o.trans (Kept2.of_below Hb5.o))) rfl;have p2:=bc (j:=2) (HCb.o w5 (HK.o.trans (Kept2.of_below Hb5.o))) rfl;have HLw:=hI (HLo.o w5 (HM.o.below Hb5.o) (Kept2.of_below Hb5.o));rw[<- HCV.o] at HLw;clear hb5) | (go_at_call 113;refine HLw.o.mono ?_;rintro e w6 ⟨rfl,hk6,hm6⟩;have Hk6:=hI hk6;have Hm6:=hI hm6;clear hk6 hm6));have HNn:=hI (HNext.o HNa.o);have HO6:=hI (own_memo (own_below Ho.o Hb5.o) hmb0 Hk6.o);clear HNext HEnd HTake HNa;go_roundw;case rel=>exact⟨out,left,last,i+1,by omega,hlv,by go_num,rfl,rfl,HNn,hI ((HK.o.trans (Kept2.of_below Hb5.o)).trans Hk6.o),Hm6,HO6⟩
      case measure=>rw[hlv];simp[intOf];omega
  ·have HD:=hI (HI.o.done Hj0.o (by have:=Hm.o;rw[j.nt];omega));have HOo:=hI (show wr.ownsRow w.heap.size 3 1 u5 CC.length (CC.map (Value.int .i64)) by rw[HD.o];exact own_mono Ho.o hbs);have q0:=W7.bc (j:=0) (HCb.o wr HK.o) rfl;go_wp2;go_ret;exact⟨⟨_,rfl,HOo.o⟩,HKw.o _ HK.o,HM.o⟩
end Go.Proofs.YtjpgnfekbojcaaaGreat
