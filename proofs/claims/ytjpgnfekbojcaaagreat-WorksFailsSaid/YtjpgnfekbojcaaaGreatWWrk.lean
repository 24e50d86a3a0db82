/- How much the tasks use of a resource;how much a resource has in the minutes below a number. -/
import Derived.Test.YtjpgnfekbojcaaaGreatWLon1
set_option maxHeartbeats 8000000
set_option maxRecDepth 100000
namespace W8
open W7
theorem workTo_le {j:JobP} (hG:JGood j) (r:Int):∀i,i<=j.tasks.length->0<=workTo j r i/\workTo j r i<=100000000*i
 | 0,_=>by simp[workTo]
 | i+1,hi=>by
  have h1:=workTo_le hG r i (by omega);have hm:j.tasks.getD i default∈j.tasks:=by rw[getD_of (by omega)];exact List.getElem_mem _
  have h2:=hG.takes _ hm;have h3:=pieces_good hG hm r (j.tasks.getD i default).uses.length;rw[List.take_length] at h3;have h4:0<=(j.tasks.getD i default).takes*pieces r (j.tasks.getD i default).uses:=Int.mul_nonneg h2.1 h3.1;have h5:(j.tasks.getD i default).takes*pieces r (j.tasks.getD i default).uses<=100000*1000:=Int.mul_le_mul h2.2 h3.2 h3.1 (by omega);simp only[workTo];omega
theorem offTo_snoc (m:Int) (s:JSpan):∀l:List JSpan,offTo m (l++[s])=offTo m l+max 0 (min (s.hi+1) m-s.lo)
 | []=>by simp[offTo]
 | x::l=>by simp only[List.cons_append,offTo];rw[offTo_snoc m s l];omega
theorem offTo_le {m:Int}:∀ {l:List JSpan},(∀s∈l,0<=s.lo/\s.lo<=s.hi/\s.hi<=100000)->0<=offTo m l/\offTo m l<=100001*l.length
 | [],_=>by simp[offTo]
 | s::l,h=>by
  have h1:=offTo_le (m:=m) (l:=l) (fun x hx=>h x (List.mem_cons_of_mem _ hx));have h2:=h s (List.mem_cons_self ..);simp only[offTo,List.length_cons];omega
end W8
namespace Go.Proofs.YtjpgnfekbojcaaaGreat
open Go.RowKit W7 W8
attribute [local go_sem] Oper.semAt_some
theorem work_any (j:Job) (r:Int) (B:Nat) (w:World) (hj:JIn w B j) (hB:B<=w.heap.size) (hG:JGood j.p) :
  Calls Tryz.prog 115 #[jobV j,.int .i64 r] w fun e w'=>e= .returned (.int .i64 (workV j.p r))/\Bl w w':=by
 obtain⟨n,hn⟩:∃n,j.tasks.length=n:=⟨_,rfl⟩
 obtain⟨TA,hTA⟩:∃x,j.TA=x:=⟨_,rfl⟩
 have hjv:jobV j= .agg #[.slice TA n j.tc,.slice j.RA j.res.length j.rc]:=by unfold jobV;rw[hn,hTA]
 rw[hjv];obtain⟨W0,HW0,hs0,HB0,HX00,HU0⟩:=boxes1 w (.cells #[.slice TA n j.tc,.slice j.RA j.res.length j.rc] 25);have h64:n<=64:=by have:=hG.nt;rw[j.nt] at this;omega
 have hlc:=hj.tl;have hc2:=hj.tc;rw[hn] at hlc;have HJ:=hI (show ∀X:World,Bl W0 X->JIn X B j from fun X hX=>hj.below ((HU0.o X hX).mono hB));have HG:=hI hG;have Hn:=hI hn;have HTA:=hI hTA;have HL:=hI (show workV j.p r=workTo j.p r n by unfold workV;rw[j.nt,hn]);have q0:=W7.bc (j:=0) (HX00.o W0 (Below.refl _ _)) rfl;clear hj hG hn hTA hjv;go_enter Tryz.func115,Tryz.ntmps115;go_upto_region 1 with fail;rw[<- HW0.o];go_wp2;clear q0;go_loopw [5,13] (fun v5 v13 wr=>∃i:Nat,i<=n/\v13= .int .i64 i/\v5= .int .i64 (workTo j.p r i)/\Hid (Bl W0 wr)) (fun _ v13 _=>n-(intOf v13).toNat);case atStart=>exact⟨0,by omega,rfl,rfl,hI (Below.refl _ _)⟩
 case round=>
  obtain⟨i,hi,rfl,rfl,Hb⟩:=hrel;have hsr:=Hb.o.size
  by_cases hlt:i<n
  ·have hil:i<j.tasks.length:=by have:=Hn.o;omega
   have hjn:=HJ.o wr Hb.o;obtain⟨tb,off,hTb,htb⟩:=hjn.ta (by omega);have hTe:TA=some ⟨tb,off,none⟩:=by rw[<- HTA.o];exact hTb
   subst hTe;obtain⟨c0,c1,c2,c3⟩:=hjn.tcells hTb hil;have htk:=HG.o.takes _ (j.Tp_mem hil);have hwb:=workTo_le HG.o r i (by rw[j.nt];omega);have HSn:=hI (show workTo j.p r (i+1)=workTo j.p r i+(j.T i).p.takes*pieces r (j.T i).p.uses by rw[<- j.pT];rfl);have hTk:=hjn.tks _ (j.T_mem hil);have hul:=hTk.ul;have huc:=hTk.uc;have hnu:=uses_len HG.o (j.Tp_mem hil);have HUs:=hI (fun(X:World) (hX:Bl W0 X)=>((HJ.o X hX).tks _ (j.T_mem hil)).us);have HPs:=hI (fun k=>pieces_good HG.o (j.Tp_mem hil) r k);have HUg:=hI (HG.o.uses _ (j.Tp_mem hil));generalize j.T i=t at c0 c1 c2 c3 htk HSn hul huc hnu HUs HPs HUg;generalize workTo j.p r i=S at hwb HSn;have hS1:0<=S:=hwb.1;have hS2:S<=6400000000:=by omega
   obtain⟨tk,htk'⟩:∃x,t.p.takes=x:=⟨_,rfl⟩
   obtain⟨UA,hUA⟩:∃x,t.UA=x:=⟨_,rfl⟩
   obtain⟨nu,hnu'⟩:∃x,t.p.uses.length=x:=⟨_,rfl⟩
   rw[htk'] at c1 htk HSn;rw[hUA,hnu'] at c3;rw[hUA] at HUs;rw[hnu'] at hul hnu;have Hnu:=hI hnu';obtain⟨W2,hW2⟩:∃W2,W2=wr.alloc (.cells #[.string t.p.name,.int .i64 tk,.slice t.NA t.p.needs.length t.nc,.slice UA nu t.uc] 46):=⟨_,rfl⟩
   have HB2:=hI (show Bl W0 W2 by rw[hW2];exact Hb.o.alloc hsr _);have hs2:wr.heap.size+1<=W2.heap.size:=by rw[hW2];simp
   have HX2:=hI (show ∀X:World,Bl W2 X->X.heap[wr.heap.size]? =some (.cells #[.string t.p.name,.int .i64 tk,.slice t.NA t.p.needs.length t.nc,.slice UA nu t.uc] 46 (0,0)) from fun X hX=>(hX.block _ (by omega)).trans (by rw[hW2];exact heap_alloc_new _ _));clear hTk hjn hTb hUA hnu' htk';go_upto_region 5 with fail;rw[<- hW2];have p3:=W7.bc (j:=3) (HX2.o W2 (Below.refl _ _)) rfl;clear hW2 c0 c1 c2 c3;obtain⟨wo,hwo⟩:∃n9:Nat,n9=wr.heap.size:=⟨_,rfl⟩
   rw[<- hwo] at p3 HX2 hs2 hsr ⊢;clear hwo Hb;go_wp2;clear p3;clear wr;go_loopw [5,20] (fun v5 v20 wq=>∃k:Nat,k<=nu/\v20= .int .i64 k/\v5= .int .i64 (S+tk*pieces r (t.p.uses.take k))/\Hid (Bl W2 wq)) (fun _ v20 _=>nu-(intOf v20).toNat);case atStart=>exact⟨0,by omega,rfl,by simp[pieces],hI (Below.refl _ _)⟩
   case round=>
    obtain⟨k,hk,rfl,rfl,Hq⟩:=hrel;have hsq:=Hq.o.size;have HAq:=hI (HB2.o.trans (Hq.o.mono (by omega)))
    by_cases hlt2:k<nu
    ·have hkl:k<t.p.uses.length:=by have:=Hnu.o;omega
     obtain⟨ub,uoff,hue,hub,hcells⟩:=(HUs.o wr HAq.o) (by omega)
     subst hue;have c0:wr.cell? ⟨ub,uoff+k*2,none⟩=some (.int .i64 t.p.uses[k].res):=hcells k hkl 0 _ rfl;have c1:wr.cell? ⟨ub,uoff+k*2+1,none⟩=some (.int .i64 t.p.uses[k].many):=hcells k hkl 1 _ rfl;have HPn:=hI (show pieces r (t.p.uses.take (k+1))=pieces r (t.p.uses.take k)+if t.p.uses[k].res==r then t.p.uses[k].many else 0 by rw[List.take_succ_eq_append_getElem hkl,pieces_snoc]);have hpk:=HPs.o k;have hug:=HUg.o _ (List.getElem_mem hkl);generalize t.p.uses[k]=u at c0 c1 HPn hug;generalize pieces r (t.p.uses.take k)=pk at hpk HPn;clear hcells;have hq1:0<=tk*pk:=Int.mul_nonneg htk.1 hpk.1;have hq2:tk*pk<=100000*1000:=Int.mul_le_mul htk.2 hpk.2 hpk.1 (by omega);have hr1:0<=tk*u.many:=Int.mul_nonneg htk.1 (by omega);have hr2:tk*u.many<=100000*1000:=Int.mul_le_mul htk.2 (by omega) (by omega) (by omega);have p1:=bc (j:=1) (HX2.o wr Hq.o) rfl;cases hu:(u.res==r)
     ·have HQ:=hI (show tk*pieces r (t.p.uses.take (k+1))=tk*pk by rw[HPn.o,hu];simp);clear p1;generalize tk*pk=PK at *;go_wp2;go_roundw;case rel=>exact⟨k+1,by omega,by go_num,by rw[HQ.o],hI (Hq.o.alloc (by omega) _)⟩
      case measure=>simp[intOf];omega
     ·have HQ:=hI (show tk*pieces r (t.p.uses.take (k+1))=tk*pk+tk*u.many by rw[HPn.o,hu,if_pos rfl,Int.mul_add]);generalize hPK:tk*pk=PK at hq1 hq2 HQ ⊢;obtain⟨um,hum⟩:∃x,u.many=x:=⟨_,rfl⟩
      rw[hum] at c1 hr1 hr2 HQ;generalize hTU:tk*um=TU at hr1 hr2 HQ;have HTU:=hI hTU;have hww:wrap64 (tk*um)=TU:=by rw[hTU];unfold wrap64;omega
      clear hTU hPK hum;obtain⟨W5,hW5⟩:∃W5,W5=wr.alloc (.cells #[.int .i64 u.res,.int .i64 um] 48):=⟨_,rfl⟩
      have y0:W5.cell? ⟨wr.heap.size,0,none⟩=some (.int .i64 u.res):=by rw[hW5];exact alloc_cell rfl
      have y1:W5.cell? ⟨wr.heap.size,1,none⟩=some (.int .i64 um):=by rw[hW5];exact alloc_cell rfl
      have y2:W5.cell? ⟨wo,1,none⟩=some (.int .i64 tk):=by rw[hW5];exact(World.cell?_alloc_lt _ _ _ (by simp;omega)).trans p1
      have HB5:=hI (show Bl W2 W5 by rw[hW5];exact Hq.o.alloc (by omega) _);go_upto_region 8 with fail;rw[<- hW5];clear p1 c0 c1 hW5;go_wp2;go_roundw;case rel=>exact⟨k+1,by omega,by go_num,by rw[HQ.o];go_num,HB5⟩
      case measure=>simp[intOf];omega
    ·have HPe:=hI (show pieces r (t.p.uses.take k)=pieces r t.p.uses by rw[List.take_of_length_le (by have:=Hnu.o;omega)]);go_wp2;go_roundw;case rel=>exact⟨i+1,by omega,by go_num,by rw[HSn.o,HPe.o],HAq⟩
     case measure=>simp[intOf];omega
  ·have HE:=hI (show workV j.p r=workTo j.p r i by rw[HL.o,show n=i by omega]);go_wp2;go_ret;exact⟨ret_int HE.o.symm,HU0.o _ Hb.o⟩
def resV (r:Res):Value:= .agg #[.string r.p.name,.int .i64 r.p.many,.slice r.OA r.p.off.length r.oc]
theorem room_any (j:JobP) (r:Res) (m:Int) (B:Nat) (w:World) (hr:RsIn w B r) (hB:B<=w.heap.size) (hG:JGood j) (hrm:r.p∈j.res) (hm:0<=m/\m<=9223372036854775807) :
  Calls Tryz.prog 116 #[resV r,.int .i64 m] w fun e w'=>e= .returned (.int .i64 (roomV r.p m))/\Bl w w':=by
 obtain⟨n,hn⟩:∃n,r.p.off.length=n:=⟨_,rfl⟩
 obtain⟨OA,hOA⟩:∃x,r.OA=x:=⟨_,rfl⟩
 have hrv:resV r= .agg #[.string r.p.name,.int .i64 r.p.many,.slice OA n r.oc]:=by unfold resV;rw[hn,hOA]
 rw[hrv];obtain⟨W0,HW0,hs0,HB0,HX00,HU0⟩:=boxes1 w (.cells #[.string r.p.name,.int .i64 r.p.many,.slice OA n r.oc] 43);have hno:=hG.noff _ hrm;have hol:=hr.ol;have hoc:=hr.oc;have hmb:=hG.many _ hrm;have HOf:=hI (hG.off _ hrm);have HOs:=hI (show ∀X:World,Bl W0 X->Sl X B 2 encJSpan OA r.p.off from fun X hX=>by rw[<- hOA];exact hr.os.below ((HU0.o X hX).mono hB));have HR:=hI (show roomV r.p m=max (min m 1099511627776-offTo m r.p.off) 0*r.p.many from rfl);have HT:=hI (fun k=>offTo_le (m:=m) (l:=r.p.off.take k) (fun s hs=>hG.off _ hrm s (List.mem_of_mem_take hs)));rw[hn] at hno hol;have Hn:=hI hn;have q0:=W7.bc (j:=0) (HX00.o W0 (Below.refl _ _)) rfl;have q1:=W7.bc (j:=1) (HX00.o W0 (Below.refl _ _)) rfl;have q2:=W7.bc (j:=2) (HX00.o W0 (Below.refl _ _)) rfl;have hmx:=max_run Tryz.prog;have hmn:=min_run Tryz.prog;obtain⟨M,hM⟩:∃x,min m 1099511627776=x:=⟨_,rfl⟩
 have hMb: -9223372036854775808<=M/\M<=1099511627776:=by omega
 have hM0:0<=M:=by omega
 generalize r.p.many=rm at *;clear hr hG hrm hn hOA hrv;go_enter Tryz.func116,Tryz.ntmps116;go_upto_region 1 with fail;rw[<- HW0.o];go_wp2;clear q0 q1 q2;go_loopw [5,13] (fun v5 v13 wr=>∃i:Nat,i<=n/\v13= .int .i64 i/\v5= .int .i64 (M-offTo m (r.p.off.take i))/\Hid (Bl W0 wr)) (fun _ v13 _=>n-(intOf v13).toNat);case atStart=>exact⟨0,by omega,rfl,by simp[offTo],hI (Below.refl _ _)⟩
 case round=>
  obtain⟨i,hi,rfl,rfl,Hb⟩:=hrel;have hsr:=Hb.o.size
  by_cases hlt:i<n
  ·have hkl:i<r.p.off.length:=by have:=Hn.o;omega
   obtain⟨ob,ooff,hoe,hob,hcells⟩:=(HOs.o _ Hb.o) (by omega)
   subst hoe;have c0:wr.cell? ⟨ob,ooff+i*2,none⟩=some (.int .i64 r.p.off[i].lo):=hcells i hkl 0 _ rfl;have c1:wr.cell? ⟨ob,ooff+i*2+1,none⟩=some (.int .i64 r.p.off[i].hi):=hcells i hkl 1 _ rfl;have hso:=HOf.o _ (List.getElem_mem hkl);have HSn:=hI (show offTo m (r.p.off.take (i+1))=offTo m (r.p.off.take i)+max 0 (min (r.p.off[i].hi+1) m-r.p.off[i].lo) by rw[List.take_succ_eq_append_getElem hkl,offTo_snoc]);have hT:=HT.o i;rw[List.length_take] at hT;generalize offTo m (r.p.off.take i)=T at hT HSn;have hT1:0<=T:=hT.1;have hT2:T<=2000000:=by omega
   clear hT;generalize r.p.off[i]=s at c0 c1 hso HSn;clear hcells;obtain⟨lo,hlo⟩:∃x,s.lo=x:=⟨_,rfl⟩
   obtain⟨hh,hhi⟩:∃x,s.hi=x:=⟨_,rfl⟩
   rw[hlo,hhi] at hso HSn;rw[hlo] at c0;rw[hhi] at c1;clear hlo hhi;obtain⟨W5,hW5⟩:∃W5,W5=wr.alloc (.cells #[.int .i64 lo,.int .i64 hh] 50):=⟨_,rfl⟩
   have y0:W5.cell? ⟨wr.heap.size,0,none⟩=some (.int .i64 lo):=by rw[hW5];exact alloc_cell rfl
   have y1:W5.cell? ⟨wr.heap.size,1,none⟩=some (.int .i64 hh):=by rw[hW5];exact alloc_cell rfl
   have HB5:=hI (show Bl W0 W5 by rw[hW5];exact Hb.o.alloc hsr _);go_upto_region 5 with fail;rw[<- hW5];clear hW5 c0 c1;go_wp2;go_roundw;case rel=>exact⟨i+1,by omega,by go_num,by rw[HSn.o];go_num,HB5⟩
   case measure=>simp[intOf];omega
  ·have HE:=hI (show roomV r.p m=max (M-offTo m (r.p.off.take i)) 0*rm by rw[HR.o,hM,List.take_of_length_le (by have:=Hn.o;omega)]);have hT:=HT.o i;rw[List.length_take] at hT;generalize offTo m (r.p.off.take i)=T at hT HE;obtain⟨X,hX⟩:∃x,max (M-T) 0=x:=⟨_,rfl⟩
   have hXb:0<=X/\X<=1099511627776:=by omega
   have hp1:0<=X*rm:=Int.mul_nonneg hXb.1 hmb.1;have hp2:X*rm<=1099511627776*1000:=Int.mul_le_mul hXb.2 hmb.2 hmb.1 (by omega);have hww:wrap64 (X*rm)=X*rm:=by unfold wrap64;omega
   rw[hX] at HE;have q0:=W7.bc (j:=0) (HX00.o wr Hb.o) rfl;have q1:=W7.bc (j:=1) (HX00.o wr Hb.o) rfl;have q2:=W7.bc (j:=2) (HX00.o wr Hb.o) rfl;go_wp2;go_ret;exact⟨ret_int HE.o.symm,HU0.o _ Hb.o⟩
end Go.Proofs.YtjpgnfekbojcaaaGreat
