/- The least chain of at least so many minutes. -/
import Derived.Test.YtjpgnfekbojcaaaGreatWLon0
set_option maxHeartbeats 16000000
set_option maxRecDepth 100000
namespace Go.Proofs.YtjpgnfekbojcaaaGreat
open Go.RowKit W7 W8
attribute [local go_sem] Oper.semAt_some
def KLater (w:World) (b:Nat):Type:={ W:World // Kept2 w W b b }
def KLater.w {w:World} {b:Nat} (e:KLater w b):World:=e.1
theorem KLater.k {w:World} {b:Nat} (e:KLater w b):Kept2 w e.w b b:=e.2
theorem klater_cell {w:World} {b c o:Nat} {v:Value} (h:w.cell? ⟨c,o,none⟩=some v) (hb:c<w.heap.size) (hr:c≠b):∀e:KLater w b,e.w.cell? ⟨c,o,none⟩=some v:=fun e=>by
 rw[<- h];exact World.cell?_of_block (a:=⟨c,o,none⟩) (e.k.block c hb hr hr)
theorem Kept2.toGrown {w w':World} {b:Nat} (h:Kept2 w w' b b):w.grownBy w' (some b):=⟨h.os,h.tape,h.output,h.size,fun i hi hne=>h.block i hi (by simpa using hne) (by simpa using hne)⟩
theorem Kept2.on {u v w:World} {b:Nat} (h:Kept2 u v b b) (g:Below u.heap.size v w):Kept2 u w b b:=
 ⟨g.os.trans h.os,g.tape.trans h.tape,g.output.trans h.output,Nat.le_trans h.size g.size,fun i hi x y=>(g.block i hi).trans (h.block i hi x y)⟩
theorem own_memo {w w':World} {base e size n mb:Nat} {v:Value} {xs:List Value} (h:w.ownsRow base e size v n xs) (hb:mb<base) (hk:Kept2 w w' mb mb):w'.ownsRow base e size v n xs:=
 h.kept hk.toGrown (by
  cases hv:v.ownBlock with
  | none=>exact .inl rfl
  | some k=>
   refine .inr fun e=> ?_
   have:=(h.lt k hv).1
   injection e with e
   omega)
theorem meas_lt {m a b x y:Nat} (ha:a<=m) (hb:b=a+1) (hx:x<=m:=by simp[intOf]<;>omega):(m+1-b)*(m+2)+x<(m+1-a)*(m+2)+y:=by
 subst hb;obtain⟨k,hk⟩:∃k,m+1-a=k+1:=⟨m-a,by omega⟩
 rw[hk,show m+1-(a+1)=k by omega,Nat.add_mul];omega
theorem least_any (j:Job) (left0:Int) (mb B:Nat) (w:World) (hj0:jobErr j.p=0) (hM:Memo w mb j.p) (hj:JIn w B j) (hB:B<=mb) (h0:0<=left0/\left0<=200000) :
  Calls Tryz.prog 114 #[chnV j mb,.int .i64 left0] w fun e w'=>(∃v,e= .returned v/\w'.ownsRow w.heap.size 3 1 v (chainV j.p left0).length ((chainV j.p left0).map (Value.int .i64)))/\Kept2 w w' mb mb/\Memo w' mb j.p:=by
 obtain⟨m,hm⟩:=eX j.tasks.length;obtain⟨TA,hTA⟩:=eX j.TA;have hG:=good_of hj0;have h64:m<=64:=by have:=hG.nt;rw[j.nt] at this;omega
 have hlc:=hj.tl;have hc2:=hj.tc;rw[hm] at hlc;have hmw:=hM.lt;obtain⟨CV,hCV⟩:=eX (chnV j mb);have hCV2:Value.agg #[.slice TA m j.tc,.slice j.RA j.res.length j.rc,.map (some mb)]=CV:=by rw[<- hCV];unfold chnV;rw[hm,hTA]
 obtain⟨W0,hW0⟩:=eY (w.alloc (.cells #[.slice TA m j.tc,.slice j.RA j.res.length j.rc,.map (some mb)] 165));have hs0:W0.heap.size=w.heap.size+1:=by rw[hW0];simp
 have HB0:=hI (show Bl w W0 by rw[hW0];exact(zX _ _).alloc (zm _) _);obtain⟨cb,hcb⟩:=eY w.heap.size;have HCb:=hI (show ∀X,Kept2 W0 X mb mb->X.heap[cb]? =some (.cells #[.slice TA m j.tc,.slice j.RA j.res.length j.rc,.map (some mb)] 165 (0,0)) from fun X hX=>kept_blk hX (by rw[hW0,hcb];exact zW _ _) (by omega));have HJ:=hI (show ∀X,Kept2 W0 X mb mb->JIn X B j from fun X hX=>hj.below ((HB0.o.mono (by omega)).trans (hX.below hB hB (by omega))));have HM0:=hI (hM.below HB0.o)
 have HLg:=hI (fun(X:World) (n:Nat) (hn:n<m) (hX:Kept2 W0 X mb mb) (hMX:Memo X mb j.p)=>by
  have h:=longest_any j mb B hj0 hB _ n X hMX (HJ.o X hX) (by omega) (zm _);rw[hCV] at h;exact h)
 have HG:=hI hG;have Hj0:=hI hj0;have Hm:=hI hm;have HTA:=hI hTA;have HCV:=hI hCV2;obtain⟨CC,hCC⟩:=eX (chainV j.p left0);have HI0:=hI (show ChInv j.p CC [] (-1) left0 0 by rw[<- hCC];exact ChInv.start j.p h0);rw[hCC,hCV,<-hCV2];have hcbl:cb<W0.heap.size:=by omega
 have HKw:=hI (show ∀X,Kept2 W0 X mb mb->Kept2 w X mb mb from fun X hX=>(Kept2.of_below HB0.o).trans hX);have q0:=kC 0 (HCb.o W0 (Kept2.refl _ _ _)) rfl;have q1:=kC 1 (HCb.o W0 (Kept2.refl _ _ _)) rfl;have q2:=kC 2 (HCb.o W0 (Kept2.refl _ _ _)) rfl;have hbs:w.heap.size<=W0.heap.size:=by omega
 have hmb0:mb<W0.heap.size:=by omega
 clear hM hj hG hj0 hm hTA hCV hCV2 hCC hmw;go_enter Tryz.func114,Tryz.ntmps114;go_upto_region 1 with fail;rw[<- hW0,<-hcb];clear hW0 hcb;go_upto_region 2 with fail;go_wp2;clear q0 q1 q2;go_loopw [1,5,6,7] (fun v1 v5 v6 v7 wr=>∃(out:List Int) (left last:Int) (i:Nat),i<=m/\lenV v5=out.length/\v6= .int .i64 i/\v1= .int .i64 left/\v7= .int .i64 last/\Hid (ChInv j.p CC out last left i)/\Hid (Kept2 W0 wr mb mb)/\Hid (Memo wr mb j.p)/\Hid (wr.ownsRow W0.heap.size 3 1 v5 out.length (out.map (Value.int .i64)))) (fun v1 v5 v6 _ _=>(m+1-lenV v5)*(m+2)+(m-(intOf v6).toNat));case atStart=>exact⟨[],left0, -1,0,by omega,rfl,rfl,rfl,rfl,HI0,hI (Kept2.refl _ _ _),HM0,hI (zU _ _ _ _)⟩
 case round=>
  obtain⟨out,left,last,i,hi,hlv,rfl,rfl,rfl,HI,HK,HM,Ho⟩:=hrel;have hsr:=HK.o.size
  by_cases hlt:i<m
  ·have hil:i<j.tasks.length:=by have:=Hm.o;omega
   have hip:i<j.p.tasks.length:=by rw[j.nt];exact hil
   have hmi:=Hm.o;have hjn:=HJ.o wr HK.o;obtain⟨tb,off,hTb,htb⟩:=hjn.ta (by omega);have hTe:TA=some ⟨tb,off,none⟩:=by rw[<- HTA.o];exact hTb
   subst hTe;obtain⟨_,c1,c2,_⟩:=hjn.tcells hTb hil;have hTk:=hjn.tks _ (j.T_mem hil);have hnl:=hTk.nl;have hnc:=hTk.nc;have HNs:=hI hTk.ns;have hnn:=needs_len HG.o (j.Tp_mem hil);have htk:=HG.o.takes _ (j.Tp_mem hil);have hvb:=lonV_le HG.o (n:=i) hip;have hla:=HI.o.last' Hj0.o;have hlr:=HI.o.rng;have hol:out.length<=m:=by have h:=HI.o.len Hj0.o;rw[j.nt] at h;omega
   have HNx:=hI (show nextB j.p last left i=((decide (last<0)||(j.T i).p.needs.any (fun y=>last==y))&&decide (left<=lonV j.p i)) by unfold nextB;rw[j.pT,List.contains_eq_any_beq]);have HNext:=hI (fun h=>HI.o.next h);have HEnd:=hI (fun h1 (h2:left-(j.T i).p.takes<=0)=>HI.o.end' Hj0.o hip h1 (by rw[j.pT];exact h2));have HTake:=hI (fun h1 (h2: ¬left-(j.T i).p.takes<=0)=>by have h:=HI.o.take Hj0.o hip h1 (by rw[j.pT];exact h2);rw[j.pT] at h;exact h);have HLo:=hI (fun(X:World) (hX:Memo X mb j.p) (hk:Kept2 wr X mb mb)=>show Calls Tryz.prog 113 #[CV,.int .i64 (i:Int)] X fun e w'=>e= .returned (.int .i64 (lonV j.p i))/\Kept2 X w' mb mb/\Memo w' mb j.p from(HLg.o X i hlt (HK.o.trans hk) hX).mono (fun _ _ h=>⟨h.val,h.kept,h.memo⟩));have HCt0:=hI (fun(nn:Nat) (h:nn=(j.T i).p.needs.length)=>containsI_any (j.T i).p.needs last nn h (j.T i).NA (j.T i).nc B wr HNs.o (by omega) (by omega))
   generalize j.T i=t at c1 c2 hnl hnc HNs hnn htk HNx HEnd HTake HCt0;generalize lonV j.p i=LV at hvb HNx HLo;obtain⟨NA,hNA⟩:=eX t.NA;obtain⟨nn,hnn'⟩:=eX t.p.needs.length;obtain⟨tk,htk'⟩:=eX t.p.takes;have HCt:=hI (HCt0.o nn hnn'.symm);rw[hNA] at HCt HNs;rw[hNA,hnn'] at c2;rw[hnn'] at hnl hnn;rw[htk'] at c1 htk HEnd HTake;have HC1:=hI (klater_cell c1 (by omega) (b:=mb) (by omega));generalize t.p.needs.any (fun y=>last==y)=an at HNx HCt;obtain⟨sm,hsm⟩:=eX (decide (LV<left));have HSm:=hI hsm;have q0:=kC 0 (HCb.o wr HK.o) rfl;have q1:=kC 1 (HCb.o wr HK.o) rfl;have q2:=kC 2 (HCb.o wr HK.o) rfl;have hcbr:cb<wr.heap.size:=by omega
   clear hTb hTk hNA hnn' htk' hjn HCt0 HLg c1 hmi
   by_cases hneg:last<0
   ·have hge:decide (0<=last)=false:=by simp;omega
    have HNa:=hI (show nextB j.p last left i= !sm by rw[HNx.o,zD hneg,<-HSm.o];simp only[Bool.true_or,Bool.true_and];rw[<- decide_not];congr 1;exact propext (by omega));have HLw:=hI (HLo.o wr HM.o (Kept2.refl _ _ _));rw[<- HCV.o] at HLw;clear hneg HNx HCt HLo;cases sm
    ·go_upto_region 6 with(go_at_call 113;refine HLw.o.mono ?_;rintro e w6 ⟨rfl,hk6,hm6⟩;have Hk6:=hI hk6;have Hm6:=hI hm6;clear hk6 hm6)
     have HK6:=hI (HK.o.trans Hk6.o);have hs6:=HK6.o.size;have HO6:=hI (own_memo Ho.o hmb0 Hk6.o);have HJ6:=hI (HC1.o ⟨w6,(Kept2.refl _ _ _).trans Hk6.o⟩);go_upto_region 7 with(at_builtin;go_loud (refine wpList_append1 rfl _ _ 26 rfl W0.heap.size 3 _ 1 8 elemI _ _ _ rfl HO6.o #[.int .i64 (i:Int)] 1 _ rfl (by simp) rfl (by simp[Value.oneCell']) (by omega) (by omega) ?_);intro v7 w7 hown7 hb7 hsz7 hg7 hblk7;have Ho7:=hI hown7;have Hb7:=hI hb7;have hs7:=hsz7;have Hg7:=hI hg7;clear hown7 hb7 hsz7 hg7 hblk7)
     have HK7:=hI (HK6.o.on Hb7.o);have c7:w7.cell? ⟨tb,off+i*4+1,none⟩=some (.int .i64 tk):=(Hb7.o.cell (p:=⟨tb,off+i*4+1,none⟩) (by simp;omega)).trans HJ6.o;have d0:=kC 0 (HCb.o w7 HK7.o) rfl;have HM7:=hI (Hm6.o.kept (Hb7.o.block mb hmb0));obtain⟨A7,n7,e7,_,_⟩:=own_cap' Ho7.o;subst e7
     by_cases hz:left-tk<=0
     ·have HE:=hI (HEnd.o HNa.o hz);have HOo:=hI (show w7.ownsRow w.heap.size 3 1 (.slice A7 (out.length+1) n7) CC.length (CC.map (Value.int .i64)) by rw[HE.o,zF,List.map_append];exact own_mono Ho7.o hbs);clear HEnd HTake HNext HNa;go_wp2;go_ret;exact⟨⟨_,rfl,HOo.o⟩,HKw.o _ HK7.o,HM7.o⟩
     ·have HT:=hI (HTake.o HNa.o (by omega));clear HEnd HTake HNext HNa;go_wp2;go_roundw;case rel=>exact⟨out++[(i:Int)],left-tk,i,0,by omega,by simp[lenV],by first | rfl | go_num,by go_num,rfl,HT,HK7,HM7,hI (by rw[zF,List.map_append];exact Ho7.o)⟩
      case measure=>
       rw[hlv];exact meas_lt (by omega) (by simp[lenV])
    ·go_wp2_with (go_at_call 113;refine HLw.o.mono ?_;rintro e w6 ⟨rfl,hk6,hm6⟩;have Hk6:=hI hk6;have Hm6:=hI hm6;clear hk6 hm6);have HNn:=hI (HNext.o HNa.o);have HO6:=hI (own_memo Ho.o hmb0 Hk6.o);clear HNext HEnd HTake HNa;go_roundw;case rel=>exact⟨out,left,last,i+1,by omega,hlv,by go_num,rfl,rfl,HNn,hI (HK.o.trans Hk6.o),Hm6,HO6⟩
     case measure=>rw[hlv];simp[intOf];omega
   ·have hge:decide (0<=last)=true:=by simp;omega
    cases an
    ·have HNn:=hI (HNext.o (show nextB j.p last left i=false by rw[HNx.o,zE hneg];rfl));clear hneg HNx HLo HNext HEnd HTake;go_wp2_with (go_at_call 121;refine HCt.o.mono ?_;rintro e w5 ⟨rfl,hb5⟩;have Hb5:=hI hb5;clear hb5);go_roundw;case rel=>exact⟨out,left,last,i+1,by omega,hlv,by go_num,rfl,rfl,HNn,hI (HK.o.trans (Kept2.of_below Hb5.o)),hI (HM.o.below Hb5.o),hI (own_below Ho.o Hb5.o)⟩
     case measure=>rw[hlv];simp[intOf];omega
    ·have HNa:=hI (show nextB j.p last left i= !sm by rw[HNx.o,<-HSm.o];simp only[Bool.or_true,Bool.true_and];rw[<- decide_not];congr 1;exact propext (by omega));clear hneg HNx;cases sm
     ·go_upto_region 6 with(first | (go_at_call 121;refine HCt.o.mono ?_;rintro e w5 ⟨rfl,hb5⟩;have Hb5:=hI hb5;have p0:=kC 0 (HCb.o w5 (HK.o.trans (Kept2.of_below Hb5.o))) rfl;have p1:=kC 1 (HCb.o w5 (HK.o.trans (Kept2.of_below Hb5.o))) rfl;have p2:=kC 2 (HCb.o w5 (HK.o.trans (Kept2.of_below Hb5.o))) rfl;have HLw:=hI (HLo.o w5 (HM.o.below Hb5.o) (Kept2.of_below Hb5.o));rw[<- HCV.o] at HLw;clear hb5) | (go_at_call 113;refine HLw.o.mono ?_;rintro e w6 ⟨rfl,hk6,hm6⟩;have Hk6:=hI hk6;have Hm6:=hI hm6;clear hk6 hm6))
      have HK6:=hI ((HK.o.trans (Kept2.of_below Hb5.o)).trans Hk6.o);have hs6:=HK6.o.size;have HO6:=hI (own_memo (own_below Ho.o Hb5.o) hmb0 Hk6.o);have HJ6:=hI (HC1.o ⟨w6,(Kept2.of_below Hb5.o).trans Hk6.o⟩);go_upto_region 7 with(at_builtin;go_loud (refine wpList_append1 rfl _ _ 26 rfl W0.heap.size 3 _ 1 8 elemI _ _ _ rfl HO6.o #[.int .i64 (i:Int)] 1 _ rfl (by simp) rfl (by simp[Value.oneCell']) (by omega) (by omega) ?_);intro v7 w7 hown7 hb7 hsz7 hg7 hblk7;have Ho7:=hI hown7;have Hb7:=hI hb7;have hs7:=hsz7;have Hg7:=hI hg7;clear hown7 hb7 hsz7 hg7 hblk7)
      have HK7:=hI (HK6.o.on Hb7.o);have c7:w7.cell? ⟨tb,off+i*4+1,none⟩=some (.int .i64 tk):=(Hb7.o.cell (p:=⟨tb,off+i*4+1,none⟩) (by simp;omega)).trans HJ6.o;have d0:=kC 0 (HCb.o w7 HK7.o) rfl;have HM7:=hI (Hm6.o.kept (Hb7.o.block mb hmb0));obtain⟨A7,n7,e7,_,_⟩:=own_cap' Ho7.o;subst e7
      by_cases hz:left-tk<=0
      ·have HE:=hI (HEnd.o HNa.o hz);have HOo:=hI (show w7.ownsRow w.heap.size 3 1 (.slice A7 (out.length+1) n7) CC.length (CC.map (Value.int .i64)) by rw[HE.o,zF,List.map_append];exact own_mono Ho7.o hbs);clear HEnd HTake HNext HNa;go_wp2;go_ret;exact⟨⟨_,rfl,HOo.o⟩,HKw.o _ HK7.o,HM7.o⟩
      ·have HT:=hI (HTake.o HNa.o (by omega));clear HEnd HTake HNext HNa;go_wp2;go_roundw;case rel=>exact⟨out++[(i:Int)],left-tk,i,0,by omega,by simp[lenV],by first | rfl | go_num,by go_num,rfl,HT,HK7,HM7,hI (by rw[zF,List.map_append];exact Ho7.o)⟩
       case measure=>
        rw[hlv];exact meas_lt (by omega) (by simp[lenV])
     ·go_wp2_with (first | (go_at_call 121;refine HCt.o.mono ?_;rintro e w5 ⟨rfl,hb5⟩;have Hb5:=hI hb5;have p0:=kC 0 (HCb.o w5 (HK.o.trans (Kept2.of_below Hb5.o))) rfl;have p1:=kC 1 (HCb.o w5 (HK.o.trans (Kept2.of_below Hb5.o))) rfl;have p2:=kC 2 (HCb.o w5 (HK.o.trans (Kept2.of_below Hb5.o))) rfl;have HLw:=hI (HLo.o w5 (HM.o.below Hb5.o) (Kept2.of_below Hb5.o));rw[<- HCV.o] at HLw;clear hb5) | (go_at_call 113;refine HLw.o.mono ?_;rintro e w6 ⟨rfl,hk6,hm6⟩;have Hk6:=hI hk6;have Hm6:=hI hm6;clear hk6 hm6));have HNn:=hI (HNext.o HNa.o);have HO6:=hI (own_memo (own_below Ho.o Hb5.o) hmb0 Hk6.o);clear HNext HEnd HTake HNa;go_roundw;case rel=>exact⟨out,left,last,i+1,by omega,hlv,by go_num,rfl,rfl,HNn,hI ((HK.o.trans (Kept2.of_below Hb5.o)).trans Hk6.o),Hm6,HO6⟩
      case measure=>rw[hlv];simp[intOf];omega
  ·have HD:=hI (HI.o.done Hj0.o (by have:=Hm.o;rw[j.nt];omega));have HOo:=hI (show wr.ownsRow w.heap.size 3 1 u5 CC.length (CC.map (Value.int .i64)) by rw[HD.o];exact own_mono Ho.o hbs);have q0:=kC 0 (HCb.o wr HK.o) rfl;go_wp2;go_ret;exact⟨⟨_,rfl,HOo.o⟩,HKw.o _ HK.o,HM.o⟩
end Go.Proofs.YtjpgnfekbojcaaaGreat
namespace W8
open W7
theorem workTo_le {j:JobP} (hG:JGood j) (r:Int):∀i,i<=j.tasks.length->0<=workTo j r i/\workTo j r i<=100000000*i
 | 0,_=>by simp[workTo]
 | i+1,hi=>by
  have h1:=workTo_le hG r i (by omega);have hm:j.tasks.getD i default∈j.tasks:=by rw[getD_of (by omega)];exact zC _
  have h2:=hG.takes _ hm;have h3:=pieces_good hG hm r (j.tasks.getD i default).uses.length;rw[List.take_length] at h3;have h4:0<=(j.tasks.getD i default).takes*pieces r (j.tasks.getD i default).uses:=Int.mul_nonneg h2.1 h3.1;have h5:(j.tasks.getD i default).takes*pieces r (j.tasks.getD i default).uses<=100000*1000:=Int.mul_le_mul h2.2 h3.2 h3.1 (by omega);simp only[workTo];omega
theorem offTo_snoc (m:Int) (s:JSpan):∀l:List JSpan,offTo m (l++[s])=offTo m l+max 0 (min (s.hi+1) m-s.lo)
 | []=>by simp[offTo]
 | x::l=>by simp only[List.cons_append,offTo];rw[offTo_snoc m s l];omega
theorem offTo_le {m:Int}:∀ {l:List JSpan},(∀s∈l,0<=s.lo/\s.lo<=s.hi/\s.hi<=100000)->0<=offTo m l/\offTo m l<=100001*l.length
 | [],_=>by simp[offTo]
 | s::l,h=>by
  have h1:=offTo_le (m:=m) (l:=l) (fun x hx=>h x (zQ _ hx));have h2:=h s (zL ..);simp only[offTo,List.length_cons];omega
end W8
namespace Go.Proofs.YtjpgnfekbojcaaaGreat
open Go.RowKit W7 W8
attribute [local go_sem] Oper.semAt_some
theorem work_any (j:Job) (r:Int) (B:Nat) (w:World) (hj:JIn w B j) (hB:B<=w.heap.size) (hG:JGood j.p) :
  Calls Tryz.prog 115 #[jobV j,.int .i64 r] w fun e w'=>e= .returned (.int .i64 (workV j.p r))/\Bl w w':=by
 obtain⟨n,hn⟩:=eX j.tasks.length;obtain⟨TA,hTA⟩:=eX j.TA;have hjv:jobV j= .agg #[.slice TA n j.tc,.slice j.RA j.res.length j.rc]:=by unfold jobV;rw[hn,hTA]
 rw[hjv];obtain⟨W0,HW0,hs0,HB0,HX00,HU0⟩:=boxes1 w (.cells #[.slice TA n j.tc,.slice j.RA j.res.length j.rc] 25);have h64:n<=64:=by have:=hG.nt;rw[j.nt] at this;omega
 have hlc:=hj.tl;have hc2:=hj.tc;rw[hn] at hlc;have HJ:=hI (show ∀X:World,Bl W0 X->JIn X B j from fun X hX=>hj.below ((HU0.o X hX).mono hB));have HG:=hI hG;have Hn:=hI hn;have HTA:=hI hTA;have HL:=hI (show workV j.p r=workTo j.p r n by unfold workV;rw[j.nt,hn]);have q0:=kC 0 (HX00.o W0 (zX _ _)) rfl;clear hj hG hn hTA hjv;go_enter Tryz.func115,Tryz.ntmps115;go_upto_region 1 with fail;rw[<- HW0.o];go_wp2;clear q0;go_loopw [5,13] (fun v5 v13 wr=>∃i:Nat,i<=n/\v13= .int .i64 i/\v5= .int .i64 (workTo j.p r i)/\Hid (Bl W0 wr)) (fun _ v13 _=>n-(intOf v13).toNat);case atStart=>exact⟨0,by omega,rfl,rfl,hI (zX _ _)⟩
 case round=>
  obtain⟨i,hi,rfl,rfl,Hb⟩:=hrel;have hsr:=Hb.o.size
  by_cases hlt:i<n
  ·have hil:i<j.tasks.length:=by have:=Hn.o;omega
   have hjn:=HJ.o wr Hb.o;obtain⟨tb,off,hTb,htb⟩:=hjn.ta (by omega);have hTe:TA=some ⟨tb,off,none⟩:=by rw[<- HTA.o];exact hTb
   subst hTe;obtain⟨c0,c1,c2,c3⟩:=hjn.tcells hTb hil;have htk:=HG.o.takes _ (j.Tp_mem hil);have hwb:=workTo_le HG.o r i (by rw[j.nt];omega);have HSn:=hI (show workTo j.p r (i+1)=workTo j.p r i+(j.T i).p.takes*pieces r (j.T i).p.uses by rw[<- j.pT];rfl);have hTk:=hjn.tks _ (j.T_mem hil);have hul:=hTk.ul;have huc:=hTk.uc;have hnu:=uses_len HG.o (j.Tp_mem hil);have HUs:=hI (fun(X:World) (hX:Bl W0 X)=>((HJ.o X hX).tks _ (j.T_mem hil)).us);have HPs:=hI (fun k=>pieces_good HG.o (j.Tp_mem hil) r k);have HUg:=hI (HG.o.uses _ (j.Tp_mem hil));generalize j.T i=t at c0 c1 c2 c3 htk HSn hul huc hnu HUs HPs HUg;generalize workTo j.p r i=S at hwb HSn;have hS1:0<=S:=hwb.1;have hS2:S<=6400000000:=by omega
   obtain⟨tk,htk'⟩:=eX t.p.takes;obtain⟨UA,hUA⟩:=eX t.UA;obtain⟨nu,hnu'⟩:=eX t.p.uses.length;rw[htk'] at c1 htk HSn;rw[hUA,hnu'] at c3;rw[hUA] at HUs;rw[hnu'] at hul hnu;have Hnu:=hI hnu';obtain⟨W2,hW2⟩:=eY (wr.alloc (.cells #[.string t.p.name,.int .i64 tk,.slice t.NA t.p.needs.length t.nc,.slice UA nu t.uc] 46));have HB2:=hI (show Bl W0 W2 by rw[hW2];exact Hb.o.alloc hsr _);have hs2:wr.heap.size+1<=W2.heap.size:=by rw[hW2];simp
   have HX2:=hI (show ∀X:World,Bl W2 X->X.heap[wr.heap.size]? =some (.cells #[.string t.p.name,.int .i64 tk,.slice t.NA t.p.needs.length t.nc,.slice UA nu t.uc] 46 (0,0)) from fun X hX=>(hX.block _ (by omega)).trans (by rw[hW2];exact zW _ _));clear hTk hjn hTb hUA hnu' htk';go_upto_region 5 with fail;rw[<- hW2];have p3:=kC 3 (HX2.o W2 (zX _ _)) rfl;clear hW2 c0 c1 c2 c3;obtain⟨wo,hwo⟩:∃n9:Nat,n9=wr.heap.size:=⟨_,rfl⟩
   rw[<- hwo] at p3 HX2 hs2 hsr ⊢;clear hwo Hb;go_wp2;clear p3;clear wr;go_loopw [5,20] (fun v5 v20 wq=>∃k:Nat,k<=nu/\v20= .int .i64 k/\v5= .int .i64 (S+tk*pieces r (t.p.uses.take k))/\Hid (Bl W2 wq)) (fun _ v20 _=>nu-(intOf v20).toNat);case atStart=>exact⟨0,by omega,rfl,by simp[pieces],hI (zX _ _)⟩
   case round=>
    obtain⟨k,hk,rfl,rfl,Hq⟩:=hrel;have hsq:=Hq.o.size;have HAq:=hI (HB2.o.trans (Hq.o.mono (by omega)))
    by_cases hlt2:k<nu
    ·have hkl:k<t.p.uses.length:=by have:=Hnu.o;omega
     obtain⟨ub,uoff,hue,hub,hcells⟩:=(HUs.o wr HAq.o) (by omega)
     subst hue;have c0:wr.cell? ⟨ub,uoff+k*2,none⟩=some (.int .i64 t.p.uses[k].res):=hcells k hkl 0 _ rfl;have c1:wr.cell? ⟨ub,uoff+k*2+1,none⟩=some (.int .i64 t.p.uses[k].many):=hcells k hkl 1 _ rfl;have HPn:=hI (show pieces r (t.p.uses.take (k+1))=pieces r (t.p.uses.take k)+if t.p.uses[k].res==r then t.p.uses[k].many else 0 by rw[zK hkl,pieces_snoc]);have hpk:=HPs.o k;have hug:=HUg.o _ (zC hkl);generalize t.p.uses[k]=u at c0 c1 HPn hug;generalize pieces r (t.p.uses.take k)=pk at hpk HPn;clear hcells;have hq1:0<=tk*pk:=Int.mul_nonneg htk.1 hpk.1;have hq2:tk*pk<=100000*1000:=Int.mul_le_mul htk.2 hpk.2 hpk.1 (by omega);have hr1:0<=tk*u.many:=Int.mul_nonneg htk.1 (by omega);have hr2:tk*u.many<=100000*1000:=Int.mul_le_mul htk.2 (by omega) (by omega) (by omega);have p1:=kC 1 (HX2.o wr Hq.o) rfl;cases hu:(u.res==r)
     ·have HQ:=hI (show tk*pieces r (t.p.uses.take (k+1))=tk*pk by rw[HPn.o,hu];simp);clear p1;generalize tk*pk=PK at *;go_wp2;go_roundw;case rel=>exact⟨k+1,by omega,by go_num,by rw[HQ.o],hI (Hq.o.alloc (by omega) _)⟩
      case measure=>simp[intOf];omega
     ·have HQ:=hI (show tk*pieces r (t.p.uses.take (k+1))=tk*pk+tk*u.many by rw[HPn.o,hu,if_pos rfl,Int.mul_add]);generalize hPK:tk*pk=PK at hq1 hq2 HQ ⊢;obtain⟨um,hum⟩:=eX u.many;rw[hum] at c1 hr1 hr2 HQ;generalize hTU:tk*um=TU at hr1 hr2 HQ;have HTU:=hI hTU;have hww:wrap64 (tk*um)=TU:=by rw[hTU];unfold wrap64;omega
      clear hTU hPK hum;obtain⟨W5,hW5⟩:=eY (wr.alloc (.cells #[.int .i64 u.res,.int .i64 um] 48));have y0:W5.cell? ⟨wr.heap.size,0,none⟩=some (.int .i64 u.res):=by rw[hW5];exact alloc_cell rfl
      have y1:W5.cell? ⟨wr.heap.size,1,none⟩=some (.int .i64 um):=by rw[hW5];exact alloc_cell rfl
      have y2:W5.cell? ⟨wo,1,none⟩=some (.int .i64 tk):=by rw[hW5];exact(World.cell?_alloc_lt _ _ _ (by simp;omega)).trans p1
      have HB5:=hI (show Bl W2 W5 by rw[hW5];exact Hq.o.alloc (by omega) _);go_upto_region 8 with fail;rw[<- hW5];clear p1 c0 c1 hW5;go_wp2;go_roundw;case rel=>exact⟨k+1,by omega,by go_num,by rw[HQ.o];go_num,HB5⟩
      case measure=>simp[intOf];omega
    ·have HPe:=hI (show pieces r (t.p.uses.take k)=pieces r t.p.uses by rw[zG (by have:=Hnu.o;omega)]);go_wp2;go_roundw;case rel=>exact⟨i+1,by omega,by go_num,by rw[HSn.o,HPe.o],HAq⟩
     case measure=>simp[intOf];omega
  ·have HE:=hI (show workV j.p r=workTo j.p r i by rw[HL.o,show n=i by omega]);go_wp2;go_ret;exact⟨ret_int HE.o.symm,HU0.o _ Hb.o⟩
def resV (r:Res):Value:= .agg #[.string r.p.name,.int .i64 r.p.many,.slice r.OA r.p.off.length r.oc]
theorem room_any (j:JobP) (r:Res) (m:Int) (B:Nat) (w:World) (hr:RsIn w B r) (hB:B<=w.heap.size) (hG:JGood j) (hrm:r.p∈j.res) (hm:0<=m/\m<=9223372036854775807) :
  Calls Tryz.prog 116 #[resV r,.int .i64 m] w fun e w'=>e= .returned (.int .i64 (roomV r.p m))/\Bl w w':=by
 obtain⟨n,hn⟩:=eX r.p.off.length;obtain⟨OA,hOA⟩:=eX r.OA;have hrv:resV r= .agg #[.string r.p.name,.int .i64 r.p.many,.slice OA n r.oc]:=by unfold resV;rw[hn,hOA]
 rw[hrv];obtain⟨W0,HW0,hs0,HB0,HX00,HU0⟩:=boxes1 w (.cells #[.string r.p.name,.int .i64 r.p.many,.slice OA n r.oc] 43);have hno:=hG.noff _ hrm;have hol:=hr.ol;have hoc:=hr.oc;have hmb:=hG.many _ hrm;have HOf:=hI (hG.off _ hrm);have HOs:=hI (show ∀X:World,Bl W0 X->Sl X B 2 encJSpan OA r.p.off from fun X hX=>by rw[<- hOA];exact hr.os.below ((HU0.o X hX).mono hB));have HR:=hI (show roomV r.p m=max (min m 1099511627776-offTo m r.p.off) 0*r.p.many from rfl);have HT:=hI (fun k=>offTo_le (m:=m) (l:=r.p.off.take k) (fun s hs=>hG.off _ hrm s (List.mem_of_mem_take hs)));rw[hn] at hno hol;have Hn:=hI hn;have q0:=kC 0 (HX00.o W0 (zX _ _)) rfl;have q1:=kC 1 (HX00.o W0 (zX _ _)) rfl;have q2:=kC 2 (HX00.o W0 (zX _ _)) rfl;have hmx:=max_run Tryz.prog;have hmn:=min_run Tryz.prog;obtain⟨M,hM⟩:=eX (min m 1099511627776);have hMb: -9223372036854775808<=M/\M<=1099511627776:=by omega
 have hM0:0<=M:=by omega
 generalize r.p.many=rm at *;clear hr hG hrm hn hOA hrv;go_enter Tryz.func116,Tryz.ntmps116;go_upto_region 1 with fail;rw[<- HW0.o];go_wp2;clear q0 q1 q2;go_loopw [5,13] (fun v5 v13 wr=>∃i:Nat,i<=n/\v13= .int .i64 i/\v5= .int .i64 (M-offTo m (r.p.off.take i))/\Hid (Bl W0 wr)) (fun _ v13 _=>n-(intOf v13).toNat);case atStart=>exact⟨0,by omega,rfl,by simp[offTo],hI (zX _ _)⟩
 case round=>
  obtain⟨i,hi,rfl,rfl,Hb⟩:=hrel;have hsr:=Hb.o.size
  by_cases hlt:i<n
  ·have hkl:i<r.p.off.length:=by have:=Hn.o;omega
   obtain⟨ob,ooff,hoe,hob,hcells⟩:=(HOs.o _ Hb.o) (by omega)
   subst hoe;have c0:wr.cell? ⟨ob,ooff+i*2,none⟩=some (.int .i64 r.p.off[i].lo):=hcells i hkl 0 _ rfl;have c1:wr.cell? ⟨ob,ooff+i*2+1,none⟩=some (.int .i64 r.p.off[i].hi):=hcells i hkl 1 _ rfl;have hso:=HOf.o _ (zC hkl);have HSn:=hI (show offTo m (r.p.off.take (i+1))=offTo m (r.p.off.take i)+max 0 (min (r.p.off[i].hi+1) m-r.p.off[i].lo) by rw[zK hkl,offTo_snoc]);have hT:=HT.o i;rw[List.length_take] at hT;generalize offTo m (r.p.off.take i)=T at hT HSn;have hT1:0<=T:=hT.1;have hT2:T<=2000000:=by omega
   clear hT;generalize r.p.off[i]=s at c0 c1 hso HSn;clear hcells;obtain⟨lo,hlo⟩:=eX s.lo;obtain⟨hh,hhi⟩:=eX s.hi;rw[hlo,hhi] at hso HSn;rw[hlo] at c0;rw[hhi] at c1;clear hlo hhi;obtain⟨W5,hW5⟩:=eY (wr.alloc (.cells #[.int .i64 lo,.int .i64 hh] 50));have y0:W5.cell? ⟨wr.heap.size,0,none⟩=some (.int .i64 lo):=by rw[hW5];exact alloc_cell rfl
   have y1:W5.cell? ⟨wr.heap.size,1,none⟩=some (.int .i64 hh):=by rw[hW5];exact alloc_cell rfl
   have HB5:=hI (show Bl W0 W5 by rw[hW5];exact Hb.o.alloc hsr _);go_upto_region 5 with fail;rw[<- hW5];clear hW5 c0 c1;go_wp2;go_roundw;case rel=>exact⟨i+1,by omega,by go_num,by rw[HSn.o];go_num,HB5⟩
   case measure=>simp[intOf];omega
  ·have HE:=hI (show roomV r.p m=max (M-offTo m (r.p.off.take i)) 0*rm by rw[HR.o,hM,zG (by have:=Hn.o;omega)]);have hT:=HT.o i;rw[List.length_take] at hT;generalize offTo m (r.p.off.take i)=T at hT HE;obtain⟨X,hX⟩:=eX (max (M-T) 0);have hXb:0<=X/\X<=1099511627776:=by omega
   have hp1:0<=X*rm:=Int.mul_nonneg hXb.1 hmb.1;have hp2:X*rm<=1099511627776*1000:=Int.mul_le_mul hXb.2 hmb.2 hmb.1 (by omega);have hww:wrap64 (X*rm)=X*rm:=by unfold wrap64;omega
   rw[hX] at HE;have q0:=kC 0 (HX00.o wr Hb.o) rfl;have q1:=kC 1 (HX00.o wr Hb.o) rfl;have q2:=kC 2 (HX00.o wr Hb.o) rfl;go_wp2;go_ret;exact⟨ret_int HE.o.symm,HU0.o _ Hb.o⟩
end Go.Proofs.YtjpgnfekbojcaaaGreat
