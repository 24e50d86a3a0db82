/- A board: how much of a resource is used in a minute. -/
import Derived.Test.YtjpgnfekbojcaaaGreatWOwn
import Derived.Test.YtjpgnfekbojcaaaGreatWAir2
import Derived.Lib.LazyBuf
set_option maxHeartbeats 4000000
set_option maxRecDepth 100000
namespace W8
open W7
theorem pieces_le {r:Int}:∀ {l:List JUse},(∀u∈l,1<=u.many/\u.many<=1000)->(l.map (·.res)).Nodup->0<=pieces r l/\pieces r l<=1000
 | [],_,_=>by simp[pieces]
 | u::l,h,hn=>by
  have h1:=pieces_le (r:=r) (l:=l) (fun x hx=>h x (zQ _ hx)) (by simp only[List.map_cons,List.nodup_cons] at hn;exact hn.2);have h2:=h u (zL ..);simp only[pieces]
  by_cases he:(u.res==r)=true
  ·rw[if_pos he]
   have hz:pieces r l=0:=by
    simp only[List.map_cons,List.nodup_cons] at hn
    have hno:∀x∈l,(x.res==r)=false:=fun x hx=>by
     cases hxr:(x.res==r)
     ·rfl
     ·have e1:=eq_of_beq hxr;have e2:=eq_of_beq he;exact absurd (List.mem_map.2 ⟨x,hx,by rw[e1,e2]⟩) hn.1
    clear h hn h1
    induction l with
    | nil=>rfl
    | cons y l ih=>
     simp only[pieces];rw[hno y (zL ..),if_neg (by decide),ih (fun x hx=>hno x (zQ _ hx))]
     rfl
   omega
  ·rw[if_neg he];omega
theorem pieces_snoc (r:Int):∀(l:List JUse) (u:JUse),pieces r (l++[u])=pieces r l+if u.res==r then u.many else 0
 | [],u=>by simp[pieces]
 | x::l,u=>by simp only[List.cons_append,pieces];rw[pieces_snoc r l u];omega
theorem pieces_pre {r:Int} {l:List JUse} (h:∀u∈l,1<=u.many/\u.many<=1000) (hn:(l.map (·.res)).Nodup) (k:Nat):0<=pieces r (l.take k)/\pieces r (l.take k)<=1000:=
 pieces_le (fun u hu=>h u (List.mem_of_mem_take hu)) (hn.sublist ((List.take_sublist _ _).map _))
theorem pieces_good {j:JobP} (hG:JGood j) {t:TaskP} (ht:t∈j.tasks) (r:Int) (k:Nat):0<=pieces r (t.uses.take k)/\pieces r (t.uses.take k)<=1000:=
 pieces_pre (fun u hu=>⟨(hG.uses t ht u hu).2.2.1,(hG.uses t ht u hu).2.2.2.1⟩) (hG.nuses t ht) k
theorem usedTo_le {j:JobP} (hG:JGood j) (b:Bd) (r m:Int):∀i,i<=j.tasks.length->0<=usedTo j b r m i/\usedTo j b r m i<=1000*i
 | 0,_=>by simp[usedTo]
 | i+1,hi=>by
  have h1:=usedTo_le hG b r m i (by omega);have h2:=pieces_good hG (t:=j.tasks.getD i default) (by rw[getD_of (by omega)];exact zC _) r (j.tasks.getD i default).uses.length;rw[List.take_length] at h2;simp only[usedTo]
  split<;>omega
theorem usedV_le {j:JobP} (hG:JGood j) (b:Bd) (r m:Int):0<=usedV j b r m/\usedV j b r m<=64000:=by
 have h1:=usedTo_le hG b r m j.tasks.length (zm _);have h2:=hG.nt;unfold usedV;omega
end W8
namespace Go.Proofs.YtjpgnfekbojcaaaGreat
open Go.RowKit W7 W8
attribute [local go_sem] Oper.semAt_some
theorem used_any (j:Job) (b:Bd) (fr r m:Int) (g sb pb B:Nat) (w:World) (hb:BdIn w g sb pb j b fr) (hj:JIn w B j) (hB:B<=w.heap.size) (hG:JGood j.p) (hs:BOk b) :
  Calls Tryz.prog 214 #[.pointer (some ⟨g,0,none⟩),.int .i64 r,.int .i64 m] w fun e w'=>e= .returned (.int .i64 (usedV j.p b r m))/\Bl w w':=by
 obtain⟨n,hn⟩:=eX j.tasks.length;obtain⟨TA,hTA⟩:=eX j.TA;have h64:n<=64:=by have:=hG.nt;rw[j.nt] at this;omega
 have hlc:=hj.tl;have hc2:=hj.tc;rw[hn] at hlc;have HB:=hI (show ∀X:World,Bl w X->BdIn X g sb pb j b fr/\JIn X B j from fun X hX=>⟨hb.below hX,hj.below (hX.mono hB)⟩);have HG:=hI hG;have HS:=hI hs;have Hn:=hI hn;have HTA:=hI hTA;have HU:=hI (show usedV j.p b r m=usedTo j.p b r m n by unfold usedV;rw[j.nt,hn]);have q0:=kC 0 hb.hg rfl;rw[hTA,hn] at q0;clear hb hj hG hs hn hTA;go_enter Tryz.func214,Tryz.ntmps214;go_wp2;clear q0;go_loopw [7,18] (fun v7 v18 wr=>∃i:Nat,i<=n/\v18= .int .i64 i/\v7= .int .i64 (usedTo j.p b r m i)/\Hid (Bl w wr)) (fun _ v18 _=>n-(intOf v18).toNat);case atStart=>exact⟨0,by omega,rfl,rfl,hI (zX _ _)⟩
 case round=>
  obtain⟨i,hi,rfl,rfl,Hb⟩:=hrel;have hsz:=Hb.o.size
  by_cases hlt:i<n
  ·have hil:i<j.tasks.length:=by have:=Hn.o;omega
   obtain⟨hbd,hjn⟩:=HB.o wr Hb.o;obtain⟨tb,off,hTb,htb⟩:=hjn.ta (by omega);have hTe:TA=some ⟨tb,off,none⟩:=by rw[<- HTA.o];exact hTb
   subst hTe;obtain⟨c0,c1,c2,c3⟩:=hjn.tcells hTb hil;have p2:=kC 2 hbd.hg rfl;have p1:=kC 3 hbd.hg rfl;rw[Hn.o] at p1 p2;have cs:=hbd.st hil;have cp:=hbd.pl hil;have HE:=hI (fun(X:World) (hX:Bl w X)=>end_any j b fr g sb pb B i X (HB.o X hX).1 (HB.o X hX).2 HG.o hil (HS.o i));have hu1:=usedTo_le HG.o b r m i (by rw[j.nt];omega);have HStep:=hI (show usedTo j.p b r m (i+1)=usedTo j.p b r m i+if runsB j.p b m i then pieces r (j.T i).p.uses else 0 by rw[<- j.pT];rfl);have HRun:=hI (show runsB j.p b m i=(b.pl.getD i false&&decide (b.st.getD i 0<=m)&&decide (m<endV j.p b i)) from rfl);have HPs:=hI (fun k=>pieces_good HG.o (j.Tp_mem hil) r k);have hTk:=hjn.tks _ (j.T_mem hil);have HTk:=hI (fun(X:World) (hX:Bl wr X)=>((HB.o X (Hb.o.trans (hX.mono hsz))).2.tks _ (j.T_mem hil)).us);have hul:=hTk.ul;have huc:=hTk.uc;generalize j.T i=t at c0 c1 c2 c3 HStep HPs HTk hul huc;obtain⟨s,hs'⟩:=eX (b.st.getD i 0)
   obtain⟨pl,hp'⟩:=eX (b.pl.getD i false);rw[hs'] at cs HRun;rw[hp'] at cp HRun;have Hs':=hI hs';have Hp':=hI hp';clear hs' hp';generalize endV j.p b i=ev at HE HRun;generalize usedTo j.p b r m i=S at hu1 HStep;have hS2:S<=100000:=by omega
   obtain⟨UA,hUA⟩:=eX t.UA;obtain⟨nu,hnu⟩:=eX t.p.uses.length;rw[hUA,hnu] at c3;rw[hUA] at HTk;rw[hnu] at hul;have Hnu:=hI hnu;clear hTk hbd hjn hTb hUA hnu;go_upto_region 5 with fail;obtain⟨W2,hW2⟩:=eY (wr.alloc (.cells #[.string t.p.name,.int .i64 t.p.takes,.slice t.NA t.p.needs.length t.nc,.slice UA nu t.uc] 46));have HB2:=hI (show Bl wr W2 by rw[hW2];exact(zX _ _).alloc (zm _) _);have hs2:wr.heap.size+1<=W2.heap.size:=by rw[hW2];simp
   have HX2:=hI (show ∀X:World,Bl W2 X->X.heap[wr.heap.size]? =some (.cells #[.string t.p.name,.int .i64 t.p.takes,.slice t.NA t.p.needs.length t.nc,.slice UA nu t.uc] 46 (0,0)) from fun X hX=>(hX.block _ (by omega)).trans (by rw[hW2];exact zW _ _));rw[<- hW2];have HA2:=hI (Hb.o.trans (HB2.o.mono hsz));clear hW2 c0 c1 c2 c3 p1 p2 cs cp;obtain⟨hbd,hjn⟩:=HB.o W2 HA2.o;have p2:=kC 2 hbd.hg rfl;have p1:=kC 3 hbd.hg rfl;rw[Hn.o] at p1 p2;have cs:W2.cell? ⟨sb,i,none⟩=some (.int .i64 s):=by rw[hbd.st hil,Hs'.o]
   have cp:W2.cell? ⟨pb,i,none⟩=some (.bool pl):=by rw[hbd.pl hil,Hp'.o]
   have HUsz:=hI (show Bl w W2 from HA2.o);clear hbd hjn;cases pl
   ·have HN:=hI (show usedTo j.p b r m (i+1)=S by rw[HStep.o,HRun.o];simp);go_wp2;go_roundw;case rel=>exact⟨i+1,by omega,by go_num,by rw[HN.o],HA2⟩
    case measure=>simp[intOf];omega
   by_cases h1:m<s
   ·have HN:=hI (show usedTo j.p b r m (i+1)=S by rw[HStep.o,HRun.o,zE (show ¬s<=m by omega)];simp);go_wp2;go_roundw;case rel=>exact⟨i+1,by omega,by go_num,by rw[HN.o],HA2⟩
    case measure=>simp[intOf];omega
   have HE2:=hI (HE.o W2 HA2.o)
   by_cases h2:ev<=m
   ·have HN:=hI (show usedTo j.p b r m (i+1)=S by rw[HStep.o,HRun.o,zE (show ¬m<ev by omega)];simp);go_wp2_with (go_at_call 138;refine HE2.o.mono ?_;rintro e w' ⟨rfl,kk,rfl⟩);go_roundw;case rel=>exact⟨i+1,by omega,by go_num,by rw[HN.o],hI (zO HA2.o _)⟩
    case measure=>simp[intOf];omega
   have HN:=hI (show usedTo j.p b r m (i+1)=S+pieces r t.p.uses by rw[HStep.o,HRun.o,zD (show s<=m by omega),zD (show m<ev by omega)];simp);obtain⟨wo,rfl⟩:∃wo:World,wo=wr:=⟨_,rfl⟩
   go_upto_region 6 with(go_at_call 138;refine HE2.o.mono ?_;rintro e w' ⟨rfl,kk,rfl⟩)
   obtain⟨W3,hW3⟩:=eY (W2.drewN kk);have HB3:=hI (show Bl W2 W3 by rw[hW3];exact zO (zX _ _) _);have hs3:W2.heap.size<=W3.heap.size:=HB3.o.size;rw[<- hW3];have HA3:=hI (HA2.o.trans (HB3.o.mono (by omega)));have d3:=kC 3 (HX2.o W3 HB3.o) rfl;clear hW3 p1 p2 cs cp HE2;go_wp2;clear d3;go_loopw [7,52] (fun v7 v52 wq=>∃k:Nat,k<=nu/\v52= .int .i64 k/\v7= .int .i64 (S+pieces r (t.p.uses.take k))/\Hid (Bl W3 wq)) (fun _ v52 _=>nu-(intOf v52).toNat);case atStart=>exact⟨0,by omega,rfl,by simp[pieces],hI (zX _ _)⟩
   case round=>
    obtain⟨k,hk,rfl,rfl,Hq⟩:=hrel;have hsq:=Hq.o.size;have HAq:=hI (HA3.o.trans (Hq.o.mono (by omega)))
    by_cases hlt2:k<nu
    ·have hkl:k<t.p.uses.length:=by have:=Hnu.o;omega
     obtain⟨ub,uoff,hue,hub,hcells⟩:=(HTk.o wr ((HB2.o.trans (HB3.o.mono (by omega))).trans (Hq.o.mono (by omega)))) (by omega)
     subst hue;have c0:wr.cell? ⟨ub,uoff+k*2,none⟩=some (.int .i64 t.p.uses[k].res):=hcells k hkl 0 _ rfl;have c1:wr.cell? ⟨ub,uoff+k*2+1,none⟩=some (.int .i64 t.p.uses[k].many):=hcells k hkl 1 _ rfl;have HPn:=hI (show pieces r (t.p.uses.take (k+1))=pieces r (t.p.uses.take k)+if t.p.uses[k].res==r then t.p.uses[k].many else 0 by rw[zK hkl,pieces_snoc]);have hpk:=HPs.o k;have hpk1:=HPs.o (k+1);rw[HPn.o] at hpk1;generalize t.p.uses[k]=u at c0 c1 HPn hpk1;generalize pieces r (t.p.uses.take k)=pk at hpk HPn hpk1;clear hcells;cases hu:(u.res==r)
     ·have HQ:=hI (show pieces r (t.p.uses.take (k+1))=pk by rw[HPn.o,hu];simp);clear hpk1;go_wp2;go_roundw;case rel=>exact⟨k+1,by omega,by go_num,by rw[HQ.o],hI (Hq.o.alloc (by omega) _)⟩
      case measure=>simp[intOf];omega
     ·have HQ:=hI (show pieces r (t.p.uses.take (k+1))=pk+u.many by rw[HPn.o,hu];simp);rw[hu] at hpk1;simp only[if_true] at hpk1;have b1: -100000<=u.many:=by omega
      have b2:u.many<=100000:=by omega
      clear hpk1;go_wp2;go_roundw;case rel=>exact⟨k+1,by omega,by go_num,by rw[HQ.o];go_num,hI (Hq.o.alloc (by omega) _)⟩
      case measure=>simp[intOf];omega
    ·have HPe:=hI (show pieces r (t.p.uses.take k)=pieces r t.p.uses by rw[zG (by have:=Hnu.o;omega)]);go_wp2;go_roundw;case rel=>exact⟨i+1,by omega,by go_num,by rw[HN.o,HPe.o],HAq⟩
     case measure=>simp[intOf];omega
  ·obtain rfl:i=n:=by omega
   go_wp2;go_ret;exact⟨ret_int HU.o.symm,Hb.o⟩
theorem eqF_some {P:Program} (w:World) (d:Nat) (t:TypeId) {ps rs:Array TypeId} {b:Bool} (f:Fn) (fv cs:Array Value) (h:P.underlying t=some (.func ps rs b)):(Op.equalIn (d+1) t (.func f fv cs) .nilFunc).run P w= .ok false w:=by
 simp[Op.equalIn,run_underlying h]
theorem eqF_nil {P:Program} (w:World) (d:Nat) (t:TypeId) {ps rs:Array TypeId} {b:Bool} (h:P.underlying t=some (.func ps rs b)):(Op.equalIn (d+1) t .nilFunc .nilFunc).run P w= .ok true w:=by
 simp[Op.equalIn,run_underlying h]
theorem neqF_some {P:Program} (w:World) (t:TypeId) {ps rs:Array TypeId} {b:Bool} (f:Fn) (fv cs:Array Value) (h:P.underlying t=some (.func ps rs b)):(binOp .neq t (.func f fv cs) .nilFunc).run P w= .ok (.bool true) w:=by
 have e:(Op.equal t (.func f fv cs) .nilFunc).run P w= .ok false w:=eqF_some w 9999 t f fv cs h;simp[binOp,e]
theorem neqF_nil {P:Program} (w:World) (t:TypeId) {ps rs:Array TypeId} {b:Bool} (h:P.underlying t=some (.func ps rs b)):(binOp .neq t .nilFunc .nilFunc).run P w= .ok (.bool false) w:=by
 have e:(Op.equal t .nilFunc .nilFunc).run P w= .ok true w:=eqF_nil w 9999 t h;simp[binOp,e]
def rulesO:Obj:= .cells #[.nilFunc,.func (.func 196) #[] #[],.func (.func 197) #[] #[],.func (.func 198) #[] #[],.func (.func 199) #[] #[],.func (.func 200) #[] #[]] 220
theorem rules_any (w:World):Calls Tryz.prog 171 #[] w fun e w'=>e= .returned (.slice (some ⟨w.heap.size,0,none⟩) 6 6)/\w'=w.alloc rulesO:=by
 go_enter Tryz.func171,Tryz.ntmps171;go_wp2;go_ret;exact⟨rfl,rfl⟩
theorem fault_any (t:Table) (d:Dive) (l:List Dive) (A:Option Addr) (n c B:Nat) (w:World) (ht:TIn w B t) (htl:t.rows.length<=1000000000) (hn:n=l.length) (hA:Sl w B 5 encDive A l) (hz:A=none->n=0/\c=0) (hB:B<=w.heap.size) (hd:OkDive d) (hl:∀x∈l,OkDive x) (hnl:n<=1000000) :
  Calls Tryz.prog 107 #[stayV t d A n c] w fun e w'=>e= .returned (.int .u8 (faultN t l d))/\Bl w w':=by
 obtain⟨W0,hW0⟩:=eY (w.alloc (stayO t d A n c));unfold stayO at hW0;have hs0:W0.heap.size=w.heap.size+1:=by rw[hW0];simp
 have HB0:=hI (show Bl w W0 by rw[hW0];exact(zX _ _).alloc (zm _) _);have h0:W0.heap[w.heap.size]? =some (stayO t d A n c):=by rw[hW0];exact zW _ _
 have HR:=hI (rules_any W0);have HW0:=hI hW0;have HQ:=hI (show ∀X:World,Bl W0 X->X.heap[w.heap.size]? =some (stayO t d A n c) from fun X hX=>(hX.block _ (by omega)).trans h0);have HT:=hI (show ∀X:World,Bl W0 X->TIn X B t/\Sl X B 5 encDive A l from fun X hX=>⟨ht.below ((HB0.o.mono hB).trans (hX.mono (by omega))),hA.below ((HB0.o.mono hB).trans (hX.mono (by omega)))⟩);have Hn:=hI hn;have Hd:=hI hd;have Hl:=hI hl;have Hz:=hI hz;have H1:=hI (fun X:World=>inOrder_any t d A n c X);have H2:=hI (fun(X:World) (hX:Bl W0 X)=>counted_any t d A n c B X (HT.o X hX).1 (by have:=hX.size;omega) htl Hd.o);have H3:=hI (fun(X:World) (hX:Bl W0 X)=>stayOut_any t d A n c B X (HT.o X hX).1 (by have:=hX.size;omega) htl Hd.o);have H4:=hI (fun(X:World) (hX:Bl W0 X)=>rested_any t d l A n c B X Hn.o (HT.o X hX).2 (by have:=hX.size;omega) Hd.o Hl.o hnl)
 have H5:=hI (fun(X:World) (hX:Bl W0 X)=>day_any t d l A n c B X Hn.o (HT.o X hX).2 Hz.o (by have:=hX.size;omega) Hd.o Hl.o hnl);have HF:=hI (show faultN t l d=if !ordB d then 1 else if !cntB t d then 2 else if !outB t d then 3 else if !restB t l d then 4 else if !dayB t l d then 5 else 0 from rfl);clear hW0 h0 ht hA hn hd hl hz;have hnf:=fun(w:World) (f:Fn)=>neqF_some (P:=Tryz.prog) w 220 f #[] #[] Tryz.underlying220
 have hnn:=fun(w:World)=>neqF_nil (P:=Tryz.prog) w 220 Tryz.underlying220
 unfold stayV at H1 H2 H3 H4 H5;unfold stayV;go_enter Tryz.func107,Tryz.ntmps107;go_wp2_with (go_at_call 171;fail);rw[<- HW0.o];refine HR.o.mono ?_;rintro e w1 ⟨rfl,hw1⟩;have hb1:Bl W0 w1:=by rw[hw1];exact(zX _ _).alloc (zm _) _
 have hr1:w1.heap[w.heap.size+1]? =some rulesO:=by rw[<- hs0,hw1];exact zW _ _
 have hz1:W0.heap.size<w1.heap.size:=by rw[hw1];simp
 have HR1:=hI hr1;have HB1:=hI hb1;clear hw1 hr1 hb1 HR;go_wp2;go_loopw [7] (fun v wr=>∃i:Nat,i<=6/\v= .int .i64 i/\Hid (Bl w1 wr)/\Hid ((2<=i->ordB d=true)/\(3<=i->cntB t d=true)/\(4<=i->outB t d=true)/\(5<=i->restB t l d=true)/\(6<=i->dayB t l d=true))) (fun v _=>6-(intOf v).toNat);case atStart=>exact⟨0,by omega,rfl,hI (zX _ _),hI ⟨fun h=>absurd h (by decide),fun h=>absurd h (by decide),fun h=>absurd h (by decide),fun h=>absurd h (by decide),fun h=>absurd h (by decide)⟩⟩
 case round=>
  obtain⟨i,hi,rfl,Hb,Hinv⟩:=hrel;have hsr:=Hb.o.size;have HBr:=hI (HB1.o.trans (Hb.o.mono (by have:=HB1.o.size;omega)));have HBw:=hI (HB0.o.trans (HBr.o.mono (by omega)));have hq:=HQ.o wr HBr.o;unfold stayO at hq;have q0:wr.cell? ⟨w.heap.size,0,none⟩=some (.slice t.A t.rows.length t.c):=by simp only[World.cell?,hq];rfl
  have q1:wr.cell? ⟨w.heap.size,1,none⟩=some (.int .i64 t.rest):=by simp only[World.cell?,hq];rfl
  have q2:wr.cell? ⟨w.heap.size,2,none⟩=some (.int .i64 t.day):=by simp only[World.cell?,hq];rfl
  have q3:wr.cell? ⟨w.heap.size,3,none⟩=some (.string d.who):=by simp only[World.cell?,hq];rfl
  have q4:wr.cell? ⟨w.heap.size,4,none⟩=some (.int .i64 d.pr):=by simp only[World.cell?,hq];rfl
  have q5:wr.cell? ⟨w.heap.size,5,none⟩=some (.int .i64 d.tin):=by simp only[World.cell?,hq];rfl
  have q6:wr.cell? ⟨w.heap.size,6,none⟩=some (.int .i64 d.leave):=by simp only[World.cell?,hq];rfl
  have q7:wr.cell? ⟨w.heap.size,7,none⟩=some (.int .i64 d.out):=by simp only[World.cell?,hq];rfl
  have q8:wr.cell? ⟨w.heap.size,8,none⟩=some (.slice A n c):=by simp only[World.cell?,hq];rfl
  have hr:=(Hb.o.block (w.heap.size+1) (by omega)).trans HR1.o;unfold rulesO at hr;clear hq;rcases i with _ | _ | _ | _ | _ | _ | _ | i
  ·have r0:wr.cell? ⟨w.heap.size+1,0,none⟩=some .nilFunc:=by simp only[World.cell?,hr];rfl
   clear hr;go_wp2;go_roundw;case rel=>exact⟨1,by omega,by go_num,Hb,hI ⟨fun h=>absurd h (by omega),fun h=>absurd h (by omega),fun h=>absurd h (by omega),fun h=>absurd h (by omega),fun h=>absurd h (by omega)⟩⟩
   case measure=>simp[intOf]
  ·have r0:wr.cell? ⟨w.heap.size+1,1,none⟩=some (.func (.func 196) #[] #[]):=by simp only[World.cell?,hr];rfl
   clear hr;have HK:=hI (H1.o wr);cases hR:ordB d
   ·rw[hR] at HK;have HE:=hI (show faultN t l d=1 by rw[HF.o,hR];rfl);go_wp2_with (go_at_call 196;refine HK.o.mono ?_;rintro e w2 ⟨rfl,hb2⟩;have Hb2:=hI hb2;clear hb2);go_ret;exact⟨by rw[HE.o];rfl,HBw.o.trans (Hb2.o.mono (by omega))⟩
   ·rw[hR] at HK;go_wp2_with (go_at_call 196;refine HK.o.mono ?_;rintro e w2 ⟨rfl,hb2⟩;have Hb2:=hI hb2;clear hb2);go_roundw;case rel=>exact⟨2,by omega,by go_num,hI (Hb.o.trans (Hb2.o.mono hsr)),hI ⟨(fun _=>by first | exact hR | trivial),fun h=>absurd h (by omega),fun h=>absurd h (by omega),fun h=>absurd h (by omega),fun h=>absurd h (by omega)⟩⟩
    case measure=>simp[intOf]
  ·have r0:wr.cell? ⟨w.heap.size+1,2,none⟩=some (.func (.func 197) #[] #[]):=by simp only[World.cell?,hr];rfl
   clear hr;have HK:=hI (H2.o wr HBr.o);cases hR:cntB t d
   ·rw[hR] at HK;have HE:=hI (show faultN t l d=2 by rw[HF.o,Hinv.o.1 (by omega),hR];rfl);go_wp2_with (go_at_call 197;refine HK.o.mono ?_;rintro e w2 ⟨rfl,hb2⟩;have Hb2:=hI hb2;clear hb2);go_ret;exact⟨by rw[HE.o];rfl,HBw.o.trans (Hb2.o.mono (by omega))⟩
   ·rw[hR] at HK;go_wp2_with (go_at_call 197;refine HK.o.mono ?_;rintro e w2 ⟨rfl,hb2⟩;have Hb2:=hI hb2;clear hb2);go_roundw;case rel=>exact⟨3,by omega,by go_num,hI (Hb.o.trans (Hb2.o.mono hsr)),hI ⟨fun _=>Hinv.o.1 (by omega),(fun _=>by first | exact hR | trivial),fun h=>absurd h (by omega),fun h=>absurd h (by omega),fun h=>absurd h (by omega)⟩⟩
    case measure=>simp[intOf]
  ·have r0:wr.cell? ⟨w.heap.size+1,3,none⟩=some (.func (.func 198) #[] #[]):=by simp only[World.cell?,hr];rfl
   clear hr;have HK:=hI (H3.o wr HBr.o);cases hR:outB t d
   ·rw[hR] at HK;have HE:=hI (show faultN t l d=3 by rw[HF.o,Hinv.o.1 (by omega),Hinv.o.2.1 (by omega),hR];rfl);go_wp2_with (go_at_call 198;refine HK.o.mono ?_;rintro e w2 ⟨rfl,hb2⟩;have Hb2:=hI hb2;clear hb2);go_ret;exact⟨by rw[HE.o];rfl,HBw.o.trans (Hb2.o.mono (by omega))⟩
   ·rw[hR] at HK;go_wp2_with (go_at_call 198;refine HK.o.mono ?_;rintro e w2 ⟨rfl,hb2⟩;have Hb2:=hI hb2;clear hb2);go_roundw;case rel=>exact⟨4,by omega,by go_num,hI (Hb.o.trans (Hb2.o.mono hsr)),hI ⟨fun _=>Hinv.o.1 (by omega),fun _=>Hinv.o.2.1 (by omega),(fun _=>by first | exact hR | trivial),fun h=>absurd h (by omega),fun h=>absurd h (by omega)⟩⟩
    case measure=>simp[intOf]
  ·have r0:wr.cell? ⟨w.heap.size+1,4,none⟩=some (.func (.func 199) #[] #[]):=by simp only[World.cell?,hr];rfl
   clear hr;have HK:=hI (H4.o wr HBr.o);cases hR:restB t l d
   ·rw[hR] at HK;have HE:=hI (show faultN t l d=4 by rw[HF.o,Hinv.o.1 (by omega),Hinv.o.2.1 (by omega),Hinv.o.2.2.1 (by omega),hR];rfl);go_wp2_with (go_at_call 199;refine HK.o.mono ?_;rintro e w2 ⟨rfl,hb2⟩;have Hb2:=hI hb2;clear hb2);go_ret;exact⟨by rw[HE.o];rfl,HBw.o.trans (Hb2.o.mono (by omega))⟩
   ·rw[hR] at HK;go_wp2_with (go_at_call 199;refine HK.o.mono ?_;rintro e w2 ⟨rfl,hb2⟩;have Hb2:=hI hb2;clear hb2);go_roundw;case rel=>exact⟨5,by omega,by go_num,hI (Hb.o.trans (Hb2.o.mono hsr)),hI ⟨fun _=>Hinv.o.1 (by omega),fun _=>Hinv.o.2.1 (by omega),fun _=>Hinv.o.2.2.1 (by omega),(fun _=>by first | exact hR | trivial),fun h=>absurd h (by omega)⟩⟩
    case measure=>simp[intOf]
  ·have r0:wr.cell? ⟨w.heap.size+1,5,none⟩=some (.func (.func 200) #[] #[]):=by simp only[World.cell?,hr];rfl
   clear hr;have HK:=hI (H5.o wr HBr.o);cases hR:dayB t l d
   ·rw[hR] at HK;have HE:=hI (show faultN t l d=5 by rw[HF.o,Hinv.o.1 (by omega),Hinv.o.2.1 (by omega),Hinv.o.2.2.1 (by omega),Hinv.o.2.2.2.1 (by omega),hR];rfl);go_wp2_with (go_at_call 200;refine HK.o.mono ?_;rintro e w2 ⟨rfl,hb2⟩;have Hb2:=hI hb2;clear hb2);go_ret;exact⟨by rw[HE.o];rfl,HBw.o.trans (Hb2.o.mono (by omega))⟩
   ·rw[hR] at HK;go_wp2_with (go_at_call 200;refine HK.o.mono ?_;rintro e w2 ⟨rfl,hb2⟩;have Hb2:=hI hb2;clear hb2);go_roundw;case rel=>exact⟨6,by omega,by go_num,hI (Hb.o.trans (Hb2.o.mono hsr)),hI ⟨fun _=>Hinv.o.1 (by omega),fun _=>Hinv.o.2.1 (by omega),fun _=>Hinv.o.2.2.1 (by omega),fun _=>Hinv.o.2.2.2.1 (by omega),(fun _=>by first | exact hR | trivial)⟩⟩
    case measure=>simp[intOf]
  ·have HE:=hI (show faultN t l d=0 by rw[HF.o,Hinv.o.1 (by omega),Hinv.o.2.1 (by omega),Hinv.o.2.2.1 (by omega),Hinv.o.2.2.2.1 (by omega),Hinv.o.2.2.2.2 (by omega)];rfl);go_wp2;go_ret;exact⟨by rw[HE.o];rfl,HBw.o⟩
  ·omega
end Go.Proofs.YtjpgnfekbojcaaaGreat
