/- Stays: what is wrong with those of a list. -/
import Derived.Test.YtjpgnfekbojcaaaGreatWAir6
set_option maxHeartbeats 8000000
set_option maxRecDepth 100000
namespace Go.Proofs.YtjpgnfekbojcaaaGreat
open Go.RowKit W7 W8
attribute [local go_sem] Oper.semAt_some
def timesB (d:Dive):Bool:=isTm d.pr&&isTm d.tin&&isTm d.leave&&isTm d.out
def diveErr (l:List Dive) (i:Nat):Int:=
 if nameB (l.getD i default).who then(if timesB (l.getD i default) then(if 0<i/\(l.getD i default).tin<(l.getD (i-1) default).tin then 8 else 0) else 1) else 5
def divesErr (l:List Dive):Int:=firstErr (diveErr l) l.length
def faultsErr (t:Table) (l:List Dive):Int:=if tblErr t≠0 then tblErr t else if 128<l.length then 3 else divesErr l
def faultAt (t:Table) (l:List Dive) (i:Nat):Int:=faultN t (aheadOf l i (l.getD i default).who) (l.getD i default)
def faultsV (t:Table) (l:List Dive):List Int:=if faultsErr t l=0 then(List.range l.length).map (faultAt t l) else[]
theorem firstErr_zero {f:Nat->Int}:∀ {n:Nat},firstErr f n=0->∀i,i<n->f i=0
 | 0,_,i,h=>absurd h (by omega)
 | n+1,h0,i,hi=>by
  have hn:firstErr f n=0:=by
   by_cases hz:firstErr f n=0
   ·exact hz
   ·have h1:firstErr f (n+1)=firstErr f n:=by simp[firstErr,hz]
    rw[h1] at h0;exact h0
  rcases Nat.lt_or_ge i n with h | h
  ·exact firstErr_zero hn i h
  ·obtain rfl:i=n:=by omega
   rw[<- firstErr_succ hn];exact h0
theorem ok_of_times {d:Dive} (h:timesB d=true):OkDive d:=by
 unfold timesB at h;simp only[zY] at h;obtain⟨⟨⟨h1,h2⟩,h3⟩,h4⟩:=h;exact⟨isTm_true.1 h1,isTm_true.1 h2,isTm_true.1 h3,isTm_true.1 h4⟩
theorem ok_of_dives {l:List Dive} (h:divesErr l=0):∀d∈l,OkDive d:=by
 intro d hd;obtain⟨i,hi,rfl⟩:=List.getElem_of_mem hd;have h1:=firstErr_zero h i hi;unfold diveErr at h1;rw[getD_lt hi] at h1
 split at h1
 ·split at h1
  ·rename_i h2
   exact ok_of_times h2
  ·cases h1
 ·cases h1
theorem own_none {w:World} {base e size n c m:Nat} {A:Option Addr} {xs:List Value} (h:w.ownsRow base e size (.slice A m c) n xs) (hA:A=none):m=0/\c=0:=by
 subst hA;rcases h.2 with⟨h1,_⟩ | ⟨g,cap,cur,h1,_⟩
 ·cases h1;exact⟨rfl,rfl⟩
 ·cases h1
theorem elemAf:Elem Tryz.prog 79 90 (.int .u8 0) 1 1:=Elem.mk' Tryz.underlying79 (by kernel_rfl) rfl (by decide) (by decide)
theorem Faults_any (t:Table) (l:List Dive) (A:Option Addr) (n c B:Nat) (w:World) (ht:TIn w B t) (htl:t.rows.length<=1000000000) (hn:n=l.length) (hA:Sl w B 5 encDive A l) (hB:B<=w.heap.size) (hnc:n<=c) (hc:c<=9223372036854775807) (hw:∀d∈l,d.who.size<=maxLen) :
  Calls Tryz.prog 46 #[tabV t,.slice A n c] w fun e w'=>∃v,e= .returned (.tuple #[v,.int .i64 (faultsErr t l)])/\w'.ownsRow w.heap.size 90 1 v (faultsV t l).length ((faultsV t l).map (Value.int .u8))/\Bl w w':=by
 obtain⟨W0,hW0⟩:=eY (w.alloc (.cells #[.slice t.A t.rows.length t.c,.int .i64 t.rest,.int .i64 t.day] 74));have hs0:W0.heap.size=w.heap.size+1:=by rw[hW0];simp
 have HB0:=hI (show Bl w W0 by rw[hW0];exact(zX _ _).alloc (zm _) _)
 have HQ0:=hI (show ∀(X:World),Bl W0 X->X.cell? ⟨w.heap.size,0,none⟩=some (.slice t.A t.rows.length t.c)/\X.cell? ⟨w.heap.size,1,none⟩=some (.int .i64 t.rest)/\X.cell? ⟨w.heap.size,2,none⟩=some (.int .i64 t.day) from fun X hX=>
  ⟨(hX.cell (p:=⟨w.heap.size,0,none⟩) (by simp;omega)).trans (by rw[hW0];exact alloc_cell rfl),(hX.cell (p:=⟨w.heap.size,1,none⟩) (by simp;omega)).trans (by rw[hW0];exact alloc_cell rfl),(hX.cell (p:=⟨w.heap.size,2,none⟩) (by simp;omega)).trans (by rw[hW0];exact alloc_cell rfl)⟩)
 have HT:=hI (fun(X:World) (hX:Bl W0 X)=>show TIn X B t/\Sl X B 5 encDive A l from⟨ht.below ((HB0.o.mono hB).trans (hX.mono (by omega))),hA.below ((HB0.o.mono hB).trans (hX.mono (by omega)))⟩);have HU:=hI (fun(X:World) (hX:Bl W0 X)=>show Bl w X from HB0.o.trans (hX.mono (by omega)));have HC:=hI (CheckTable_any t B W0 (HT.o _ (zX _ _)).1 (by omega));have HW0:=hI hW0;have Hn:=hI hn;have Hw:=hI hw;obtain⟨q0,q1,q2⟩:=HQ0.o W0 (zX _ _);obtain⟨te,hte⟩:=eY (tblErr t);unfold tabV at HC;rw[<- hte] at HC;have HF:=hI (show faultsErr t l=(if te≠0 then te else if 128<l.length then 3 else divesErr l) by rw[hte];rfl)
 have HBad:=hI (show ∀(k:Int) (X:World),faultsErr t l=k->k≠0->Bl W0 X->∃v,Ending.returned (.tuple #[.slice none 0 0,.int .i64 k])= .returned (.tuple #[v,.int .i64 (faultsErr t l)])/\X.ownsRow w.heap.size 90 1 v (faultsV t l).length ((faultsV t l).map (Value.int .u8))/\Bl w X from fun k X hk h0 hX=>by
  have hv:faultsV t l=[]:=by unfold faultsV;rw[if_neg (by rw[hk];exact h0)]
  rw[hv,hk];exact⟨_,rfl,zU _ _ _ _,HU.o X hX⟩)
 clear hW0 ht hA hn hw hte;unfold tabV;go_enter Tryz.func46,Tryz.ntmps46;go_wp2_with (go_at_call 44;fail);rw[<- HW0.o];refine HC.o.mono ?_;rintro e w1 ⟨rfl,hb1⟩;have hs1:=hb1.size;have Hb1:=hI hb1;clear hb1 q0 q1 q2 HC;cases h0:(te==0)
 ·have h0':(te != 0)=true:=by simp[bne,h0]
  have hne:te≠0:=fun h=>by rw[h] at h0;cases h0
  have HE:=hI (HBad.o te w1 (by rw[HF.o,if_pos hne]) hne Hb1.o);clear hne;go_wp2;refine bodyPost_ret (v:= .tuple #[.slice none 0 0,.int .i64 te]) (by simp[results,Tryz.results46,go_sem]) rfl HE.o
 have h0':(te != 0)=false:=by simp[bne,h0]
 have Hte:=hI (show te=0 from eq_of_beq h0)
 by_cases h128:128<n
 ·have HE:=hI (HBad.o 3 w1 (by rw[HF.o,if_neg (by rw[Hte.o];decide),if_pos (by rw[<- Hn.o];exact h128)]) (by decide) Hb1.o);go_wp2;refine bodyPost_ret (v:= .tuple #[.slice none 0 0,.int .i64 3]) (by simp[results,Tryz.results46,go_sem]) rfl HE.o
 have HF2:=hI (show faultsErr t l=divesErr l by rw[HF.o,if_neg (by rw[Hte.o];decide),if_neg (by rw[<- Hn.o];exact h128)]);go_wp2;go_loopw [21] (fun v wr=>∃i:Nat,i<=n/\v= .int .i64 i/\Hid (Bl W0 wr)/\Hid (firstErr (diveErr l) i=0)) (fun v _=>n-(intOf v).toNat);case atStart=>exact⟨0,by omega,rfl,Hb1,hI rfl⟩
 case round=>
  obtain⟨i,hi,rfl,Hb,Hf⟩:=hrel;have hsr:=Hb.o.size
  by_cases hlt:i<n
  ·have hil:i<l.length:=by have:=Hn.o;omega
   obtain⟨b,off,hbe,hbB,hcells⟩:=(HT.o wr Hb.o).2 (by omega);subst hbe;have hbw:b<wr.heap.size:=by omega
   have c0:wr.cell? ⟨b,off+i*5,none⟩=some (.string l[i].who):=hcells i hil 0 _ rfl;have c1:wr.cell? ⟨b,off+i*5+1,none⟩=some (.int .i64 l[i].pr):=hcells i hil 1 _ rfl;have c2:wr.cell? ⟨b,off+i*5+2,none⟩=some (.int .i64 l[i].tin):=hcells i hil 2 _ rfl;have c3:wr.cell? ⟨b,off+i*5+3,none⟩=some (.int .i64 l[i].leave):=hcells i hil 3 _ rfl;have c4:wr.cell? ⟨b,off+i*5+4,none⟩=some (.int .i64 l[i].out):=hcells i hil 4 _ rfl;have HDv:=hI (show diveErr l i=(if nameB l[i].who then(if timesB l[i] then(if 0<i/\l[i].tin<(l.getD (i-1) default).tin then 8 else 0) else 1) else 5) by unfold diveErr;rw[getD_lt hil]);have Hat:=hI (fun h=>HF2.o.trans (firstErr_at (f:=diveErr l) Hf.o h (by have:=Hn.o;omega:i<l.length)));have hws:=Hw.o _ (zC hil);generalize l[i]=x at c0 c1 c2 c3 c4 HDv hws;go_upto_region 9 with fail
   obtain⟨W2,hW2⟩:=eY (wr.alloc (.cells #[.string x.who,.int .i64 x.pr,.int .i64 x.tin,.int .i64 x.leave,.int .i64 x.out] 84));rw[<- hW2];have hs2:W2.heap.size=wr.heap.size+1:=by rw[hW2];simp
   have HB2:=hI (show Bl wr W2 by rw[hW2];exact(zX _ _).alloc (zm _) _);have HA2:=hI (Hb.o.trans (HB2.o.mono hsr));have r0:W2.cell? ⟨wr.heap.size,0,none⟩=some (.string x.who):=by rw[hW2];exact alloc_cell rfl
   have r1:W2.cell? ⟨wr.heap.size,1,none⟩=some (.int .i64 x.pr):=by rw[hW2];exact alloc_cell rfl
   have r2:W2.cell? ⟨wr.heap.size,2,none⟩=some (.int .i64 x.tin):=by rw[hW2];exact alloc_cell rfl
   have r3:W2.cell? ⟨wr.heap.size,3,none⟩=some (.int .i64 x.leave):=by rw[hW2];exact alloc_cell rfl
   have r4:W2.cell? ⟨wr.heap.size,4,none⟩=some (.int .i64 x.out):=by rw[hW2];exact alloc_cell rfl
   clear hW2 c0 c1 c2 c3 c4;have Htb:=hI (show timesB x=(isTm x.pr&&isTm x.tin&&isTm x.leave&&isTm x.out) from rfl);cases hN:nameB x.who
   ·have HV:=hI (show diveErr l i=5 by rw[HDv.o,hN];rfl);have HE:=hI (HBad.o 5 W2 (by rw[Hat.o (by rw[HV.o];decide),HV.o]) (by decide) HA2.o);go_wp2_with (go_at_call 106;refine(isName_any x.who hws _).mono ?_;rintro e w' ⟨rfl,rfl⟩);refine bodyPost_ret (v:= .tuple #[.slice none 0 0,.int .i64 5]) (by simp[results,Tryz.results46,go_sem]) rfl HE.o
   cases h1:isTm x.pr
   ·have HV:=hI (show diveErr l i=1 by rw[HDv.o,hN,Htb.o,h1];rfl);have HE:=hI (HBad.o 1 W2 (by rw[Hat.o (by rw[HV.o];decide),HV.o]) (by decide) HA2.o);go_wp2_with (first | (go_at_call 106;refine(isName_any x.who hws _).mono ?_;rintro e w' ⟨rfl,rfl⟩) | (go_at_call 70;refine(isTime_any _ _).mono ?_;rintro e w' ⟨rfl,rfl⟩));refine bodyPost_ret (v:= .tuple #[.slice none 0 0,.int .i64 1]) (by simp[results,Tryz.results46,go_sem]) rfl HE.o
   cases h2:isTm x.tin
   ·have HV:=hI (show diveErr l i=1 by rw[HDv.o,hN,Htb.o,h1,h2];rfl);have HE:=hI (HBad.o 1 W2 (by rw[Hat.o (by rw[HV.o];decide),HV.o]) (by decide) HA2.o);go_wp2_with (first | (go_at_call 106;refine(isName_any x.who hws _).mono ?_;rintro e w' ⟨rfl,rfl⟩) | (go_at_call 70;refine(isTime_any _ _).mono ?_;rintro e w' ⟨rfl,rfl⟩));refine bodyPost_ret (v:= .tuple #[.slice none 0 0,.int .i64 1]) (by simp[results,Tryz.results46,go_sem]) rfl HE.o
   cases h3:isTm x.leave
   ·have HV:=hI (show diveErr l i=1 by rw[HDv.o,hN,Htb.o,h1,h2,h3];rfl);have HE:=hI (HBad.o 1 W2 (by rw[Hat.o (by rw[HV.o];decide),HV.o]) (by decide) HA2.o);go_wp2_with (first | (go_at_call 106;refine(isName_any x.who hws _).mono ?_;rintro e w' ⟨rfl,rfl⟩) | (go_at_call 70;refine(isTime_any _ _).mono ?_;rintro e w' ⟨rfl,rfl⟩));refine bodyPost_ret (v:= .tuple #[.slice none 0 0,.int .i64 1]) (by simp[results,Tryz.results46,go_sem]) rfl HE.o
   cases h4:isTm x.out
   ·have HV:=hI (show diveErr l i=1 by rw[HDv.o,hN,Htb.o,h1,h2,h3,h4];rfl);have HE:=hI (HBad.o 1 W2 (by rw[Hat.o (by rw[HV.o];decide),HV.o]) (by decide) HA2.o);go_wp2_with (first | (go_at_call 106;refine(isName_any x.who hws _).mono ?_;rintro e w' ⟨rfl,rfl⟩) | (go_at_call 70;refine(isTime_any _ _).mono ?_;rintro e w' ⟨rfl,rfl⟩));refine bodyPost_ret (v:= .tuple #[.slice none 0 0,.int .i64 1]) (by simp[results,Tryz.results46,go_sem]) rfl HE.o
   have HV:=hI (show diveErr l i=(if 0<i/\x.tin<(l.getD (i-1) default).tin then 8 else 0) by rw[HDv.o,hN,Htb.o,h1,h2,h3,h4];rfl)
   by_cases hi0:0<i
   ·have hil1:i-1<l.length:=by omega
    have d2:W2.cell? ⟨b,off+(i-1)*5+2,none⟩=some (.int .i64 l[i-1].tin):=(HB2.o.cell (p:=⟨b,off+(i-1)*5+2,none⟩) hbw).trans (hcells (i-1) hil1 2 _ rfl);rw[getD_lt hil1] at HV;generalize l[i-1].tin=y at d2 HV;clear hcells;cases hc9:decide (x.tin<y)
    ·have Hnx:=hI (show firstErr (diveErr l) (i+1)=0 by rw[firstErr_succ Hf.o,HV.o,if_neg (fun h=>absurd h.2 (zH hc9))]);go_wp2_with (first | (go_at_call 106;refine(isName_any x.who hws _).mono ?_;rintro e w' ⟨rfl,rfl⟩) | (go_at_call 70;refine(isTime_any _ _).mono ?_;rintro e w' ⟨rfl,rfl⟩))
     go_quiet (fail)
     have HB3:=hI (zO (B:=W0.heap.size) HA2.o nq);go_wp2;go_roundw;case rel=>exact⟨i+1,by omega,by go_num,HB3,Hnx⟩
     case measure=>simp[intOf];omega
    ·have HV8:=hI (show diveErr l i=8 by rw[HV.o,if_pos ⟨hi0,zI hc9⟩]);go_wp2_with (first | (go_at_call 106;refine(isName_any x.who hws _).mono ?_;rintro e w' ⟨rfl,rfl⟩) | (go_at_call 70;refine(isTime_any _ _).mono ?_;rintro e w' ⟨rfl,rfl⟩))
     go_quiet (fail)
     have HE:=hI (HBad.o 8 (W2.drewN nq) (by rw[Hat.o (by rw[HV8.o];decide),HV8.o]) (by decide) (zO HA2.o nq));go_wp2;refine bodyPost_ret (v:= .tuple #[.slice none 0 0,.int .i64 8]) (by simp[results,Tryz.results46,go_sem]) rfl HE.o
   ·have Hnx:=hI (show firstErr (diveErr l) (i+1)=0 by rw[firstErr_succ Hf.o,HV.o,if_neg (fun h=>hi0 h.1)]);obtain rfl:i=0:=by omega
    clear hcells hi0;go_wp2_with (first | (go_at_call 106;refine(isName_any x.who hws _).mono ?_;rintro e w' ⟨rfl,rfl⟩) | (go_at_call 70;refine(isTime_any _ _).mono ?_;rintro e w' ⟨rfl,rfl⟩))
    go_quiet (fail)
    have HB3:=hI (zO (B:=W0.heap.size) HA2.o nq);go_wp2;go_roundw;case rel=>exact⟨1,by omega,by go_num,HB3,Hnx⟩
    case measure=>simp[intOf];omega
  ·have hfin:firstErr (diveErr l) l.length=0:=by
    have h1:i=l.length:=by have:=Hn.o;omega
    rw[<- h1];exact Hf.o
   have HE0:=hI (show faultsErr t l=0 from HF2.o.trans hfin);have HFv:=hI (show faultsV t l=(List.range l.length).map (faultAt t l) by unfold faultsV;rw[if_pos HE0.o]);have Hok:=hI (ok_of_dives (l:=l) hfin);have Hb9:=hI Hb.o;clear hfin Hf Hb;go_wp2;go_loopw [9,71] (fun v9 v71 wq=>∃j:Nat,j<=n/\v71= .int .i64 j/\Hid (Bl W0 wq)/\Hid (wq.ownsRow W0.heap.size 90 1 v9 j (((List.range j).map (faultAt t l)).map (Value.int .u8)))) (fun _ v71 _=>n-(intOf v71).toNat);case atStart=>exact⟨0,by omega,rfl,Hb9,hI (zU _ _ _ _)⟩
   case round=>
    obtain⟨j,hj,rfl,Hb,Ho⟩:=hrel;have hsr9:=Hb.o.size
    by_cases hlt2:j<n
    ·have hjl:j<l.length:=by have:=Hn.o;omega
     have hT:=(HT.o wr Hb.o)
     have HT9:=hI hT.1;have HS:=hI (stays_any t l A n c j B wr Hn.o hT.2 (by omega) (by omega) hnc hc hlt2);unfold tabV at HS;obtain⟨q0,q1,q2⟩:=HQ0.o wr Hb.o;clear hT;go_wp2_with (go_at_call 108;fail);refine HS.o.mono ?_;rintro e w3 ⟨d,A',m,c',hd,hm,rfl,ho3,hb3⟩;have hs3:=hb3.size;have Hm:=hI hm;have hml:m<=1000000:=by have h1:=ahead_len l j d.who;omega
     have Hd:=hI (show l.getD j default=d by rw[getD_lt hjl];rw[zB hjl] at hd;exact zJ hd);have hdm:d∈l:=List.mem_of_getElem? hd;have HD:=hI (Hok.o d hdm)
     have Hal:=hI (show ∀x∈aheadOf l j d.who,OkDive x from fun x hx=>Hok.o x (by
      unfold aheadOf at hx;exact List.mem_of_mem_take (List.mem_filter.1 hx).1))
     have HSl:=hI (show Sl w3 w3.heap.size 5 encDive A' (aheadOf l j d.who) from sl_own2 lenDi (base:=wr.heap.size) (e:=84) (c:=c') (by rw[<- Hm.o];exact ho3));have HFa:=hI (fault_any t d (aheadOf l j d.who) A' m c' w3.heap.size w3 ((HT9.o.below (hb3.mono (by omega))).mono (by omega)) htl Hm.o HSl.o (fun h=>own_none ho3 h) (zm _) HD.o Hal.o hml);have Hv:=hI (show faultAt t l j=faultN t (aheadOf l j d.who) d by unfold faultAt;rw[Hd.o]);rw[<- Hv.o] at HFa;have Hb3:=hI (Hb.o.trans (hb3.mono hsr9));have Ho3:=hI (own_below Ho.o hb3);clear hd hm ho3 hb3 hdm HS q0 q1 q2;go_wp2_with (go_at_call 107;fail);refine HFa.o.mono ?_;rintro e w4 ⟨rfl,hb4⟩;have hs4:=hb4.size;have Hb4:=hI (Hb3.o.trans (hb4.mono (by omega)));have Ho4:=hI (own_below Ho3.o hb4);have hbs:W0.heap.size<=w4.heap.size:=by omega
     have Hnx:=hI (show((List.range (j+1)).map (faultAt t l)).map (Value.int .u8)=((List.range j).map (faultAt t l)).map (Value.int .u8)++[.int .u8 (faultAt t l j)] by rw[List.range_succ];simp);generalize faultAt t l j=fv at Hnx;clear hb4;go_wp2_with (at_builtin;refine wpList_append1 rfl _ _ 79 rfl W0.heap.size 90 _ 1 1 elemAf _ _ _ rfl Ho4.o #[.int .u8 fv] 1 _ rfl (by first | simp | omega) rfl (by simp[Value.oneCell']) (by omega) (by omega) ?_;intro v6 w6 hown6 hb6 hsz6 hg6 hblk6;have Ho6:=hI hown6;have Hb6:=hI hb6;clear hown6 hb6 hsz6 hg6 hblk6);go_roundw;case rel=>exact⟨j+1,by omega,by go_num,hI (Hb4.o.trans Hb6.o),hI (by rw[Hnx.o];exact Ho6.o)⟩
     case measure=>simp[intOf];omega
    ·have hjn:j=l.length:=by have:=Hn.o;omega
     have Ho9:=hI (show wr.ownsRow w.heap.size 90 1 u9 (faultsV t l).length ((faultsV t l).map (Value.int .u8)) by
      rw[HFv.o,List.length_map,List.length_range,<-hjn];exact own_mono Ho.o (by omega))
     clear hjn;go_wp2;refine bodyPost_ret (v:= .tuple #[u9,.int .i64 0]) (by simp[results,Tryz.results46,go_sem]) rfl ?_;exact⟨u9,by rw[HE0.o],Ho9.o,HU.o wr Hb.o⟩
end Go.Proofs.YtjpgnfekbojcaaaGreat
