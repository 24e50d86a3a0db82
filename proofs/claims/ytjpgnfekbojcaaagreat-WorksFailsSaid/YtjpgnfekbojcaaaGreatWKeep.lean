/- Does a schedule keep a job. -/
import Derived.Test.YtjpgnfekbojcaaaGreatWJob8
import Derived.Laws.CopyOwn
set_option maxHeartbeats 8000000
set_option maxRecDepth 100000
namespace W8
open W7
theorem range_all_succ {p:Nat->Bool} {i:Nat} (h:(List.range i).all p=true):(List.range (i+1)).all p=p i:=by
 rw[List.range_succ,List.all_append,h];simp
theorem range_all_no {p:Nat->Bool} {i n:Nat} (hi:i<n) (h:p i=false):(List.range n).all p=false:=by
 rw[Bool.eq_false_iff];intro ha;rw[List.all_eq_true] at ha;rw[ha i (List.mem_range.2 hi)] at h;cases h
theorem all_take_succK {α:Type} {p:α->Bool} {l:List α} {k:Nat} (hk:k<l.length) (h:(l.take k).all p=true):(l.take (k+1)).all p=p l[k]:=by
 rw[zK hk,List.all_append,h];simp
theorem all_no {α:Type} {p:α->Bool} {l:List α} {k:Nat} (hk:k<l.length) (h:p l[k]=false):l.all p=false:=by
 rw[Bool.eq_false_iff];intro ha;rw[List.all_eq_true] at ha;rw[ha _ (zC hk)] at h;cases h
theorem firstB_set {i n:Nat} (hi:i<n):(firstB i n).set i true=firstB (i+1) n:=by
 apply List.ext_getElem?;intro k;unfold firstB;rw[List.getElem?_set]
 by_cases hk:i=k
 ·subst hk;simp[hi]
 ·rw[if_neg hk];simp only[List.getElem?_map]
  by_cases hkn:k<n
  ·simp[hkn];omega
  ·simp[hkn]
theorem firstB_zero (n:Nat):firstB 0 n=List.replicate n false:=by
 apply List.ext_getElem?;intro k;unfold firstB
 by_cases hkn:k<n
 ·simp[hkn]
 ·simp[hkn]
theorem keepsAt_time {j:JobP} {st:List Int} {n:Nat} (hn:st.length=n) (h:(List.range n).all (keepsAt j st)=true):∀i,0<=st.getD i 0/\st.getD i 0<=100000:=by
 intro i
 by_cases hi:i<n
 ·rw[List.all_eq_true] at h;have:=h i (List.mem_range.2 hi);unfold keepsAt at this;simp only[zY] at this;exact isTm_true.1 this.1.1
 ·rw[zA,List.getElem?_eq_none (by omega)];exact⟨Int.le_refl _,by decide⟩
end W8
namespace Go.Proofs.YtjpgnfekbojcaaaGreat
open Go.RowKit W7 W8
attribute [local go_sem] Oper.semAt_some
theorem wpList_copyAll {P:Program} {w:World} {ops:Array Oper} {rest:List Oper} {o:Oper} {a:Act} {Q:Exit->Act->World->Prop} (hgd:o.guard=none) (d s:Operand) (dT sT:TypeId)
  (ho:o.op= .call { callee:= .builtin .copy,args:= #[d,s],argTypes:= #[dT,sT] }) (elem:TypeId) (hu:P.underlying dT=some (.slice elem)) (hsz:(P.info? elem).map (·.size)=some 1)
  (n g t sCap B:Nat) (sp:Option Addr) (hd:a.eval d= .slice (some ⟨g,0,none⟩) n n) (hs:a.eval s= .slice sp n sCap)
  (cur:List Value) (hg:w.heap[g]? =some (.cells cur.toArray t (0,0))) (hcl:cur.length=n) (xs:List Int) (hn:xs.length=n) (hS:Sl w B 1 encInt1 sp xs)
  (h:∀w',w'.heap[g]? =some (.cells (xs.map (Value.int .i64)).toArray t (0,0))->w.grownBy w' (some g)->wpList P ops Q rest (a.put o.dst (.int .i64 (n:Int))) w'):wpList P ops Q (o::rest) a w:=by
 by_cases h0:n=0
 ·subst h0;obtain rfl:xs=[]:=List.eq_nil_of_length_eq_zero hn;obtain rfl:cur=[]:=List.eq_nil_of_length_eq_zero hcl;exact wpList_copy_nothing hgd d s dT sT ho elem hu hsz _ _ 0 0 0 sCap hd hs rfl (h w hg (World.grownBy.refl _ _))
 ·obtain⟨b,off,rfl,_,hc⟩:=hS (by omega);refine wpList_copy_own hgd d s dT sT ho elem hu hsz g 0 n n ⟨b,off,none⟩ n sCap hd hs cur.toArray t hg (xs.map (Value.int .i64)) (by simp[hn]) ?_ (by simp[hn,hcl]) (by simp[Value.oneCell']) ?_
  ·intro j v hv
   have hj:j<xs.length:=by
    have:=(List.getElem?_eq_some_iff.1 hv).1
    simpa using this
   have hadd:(⟨b,off,none⟩:Addr).add j=⟨b,off+j,none⟩:=by unfold Addr.add;split<;>simp_all
   rw[hadd];have h2:=hc j hj 0 (.int .i64 xs[j]) rfl;rw[Nat.mul_one,Nat.add_zero] at h2;rw[h2];simp only[List.getElem?_map,zB hj,Option.map_some,Option.some.injEq] at hv;rw[<- hv]
  ·have hl:(xs.map (Value.int .i64)).length=n:=by simp[hn]
   have e:(cur.toArray.toList.take 0++(xs.map (Value.int .i64)++cur.toArray.toList.drop (0+(xs.map (Value.int .i64)).length)))=xs.map (Value.int .i64):=by
    simp[hn,hcl]
   rw[e,hl];exact h _ (setRow_heap w g _ _ t _ hg) ⟨rfl,rfl,rfl,by simp[World.setRow],fun k _ hk=>setRow_other w g k _ (fun e=>hk (by rw[e]))⟩
theorem openR_ne {X:World} {g sb pb:Nat} {j:Job} {b:Bd} {fr:Int} (h:BdIn X g sb pb j b fr):g≠sb/\g≠pb/\sb≠pb:=by
 refine⟨fun e=> ?_,fun e=> ?_,fun e=> ?_⟩
 ·have h1:=h.hg;rw[e,h.hs] at h1;simp only[Option.some.injEq,Obj.cells.injEq] at h1;exact absurd h1.2.1 (by decide)
 ·have h1:=h.hg;rw[e,h.hp] at h1;simp only[Option.some.injEq,Obj.cells.injEq] at h1;exact absurd h1.2.1 (by decide)
 ·have h1:=h.hs;rw[e,h.hp] at h1;simp only[Option.some.injEq,Obj.cells.injEq] at h1;exact absurd h1.2.1 (by decide)
theorem BdIn.grown_other {X Y:World} {g sb pb:Nat} {j:Job} {b:Bd} {fr:Int} {row:Option Nat} (h:BdIn X g sb pb j b fr) (hg:X.grownBy Y row) (h1:some g≠row) (h2:some sb≠row) (h3:some pb≠row):BdIn Y g sb pb j b fr:=
 ⟨(hg.block _ (blk_lt h.hg) h1).trans h.hg,(hg.block _ (blk_lt h.hs) h2).trans h.hs,(hg.block _ (blk_lt h.hp) h3).trans h.hp,h.ns,h.np⟩
theorem keeps_any (j:Job) (st:List Int) (SA:Option Addr) (sc B:Nat) (w:World) (hj:JIn w B j) (hB:B<=w.heap.size) (hG:JGood j.p) (hst:st.length=j.tasks.length) (hS:Sl w B 1 encInt1 SA st) :
  Calls Tryz.prog 69 #[jobV j,.slice SA j.tasks.length sc] w fun e w'=>e= .returned (.bool (keepsV j.p st))/\Bl w w':=by
 obtain⟨n,hn⟩:=eX j.tasks.length;obtain⟨TA,hTA⟩:=eX j.TA;have hjv:jobV j= .agg #[.slice TA n j.tc,.slice j.RA j.res.length j.rc]:=by unfold jobV;rw[hn,hTA]
 rw[hn] at hst;rw[hjv,hn];obtain⟨W0,HW0,hs0,HB0,HX00,HU0⟩:=boxes1 w (.cells #[.slice TA n j.tc,.slice j.RA j.res.length j.rc] 25);have h64:n<=64:=by have:=hG.nt;rw[j.nt] at this;omega
 have hlc:=hj.tl;have hc2:=hj.tc;rw[hn] at hlc;have HJ:=hI (show ∀X:World,Bl W0 X->JIn X B j/\Sl X B 1 encInt1 SA st from fun X hX=>⟨hj.below ((HU0.o X hX).mono hB),hS.below ((HU0.o X hX).mono hB)⟩);have HG:=hI hG;have Hn:=hI hn;have HTA:=hI hTA;have Hst:=hI hst;have HK:=hI (show keepsV j.p st=((List.range n).all (keepsAt j.p st)&&(List.range n).all (fun i=>fitsV j.p ⟨st,firstB i n⟩ i (st.getD i 0))) by unfold keepsV;rw[j.nt,hn]);have HOp:=hI (opened_any j W0 (by omega));rw[hjv] at HOp;have q0:=kC 0 (HX00.o W0 (zX _ _)) rfl;have q1:=kC 1 (HX00.o W0 (zX _ _)) rfl;clear hj hG hn hTA hjv hst hS;go_enter Tryz.func69,Tryz.ntmps69;go_upto_region 1 with fail;rw[<- HW0.o];go_upto_region 2 with(go_at_call 64;refine HOp.o.mono ?_;rintro e w1 ⟨⟨g,sb,pb,rfl,hbd,hg0,hs0',hp0⟩,hb1⟩;have hs1:=hb1.size;have Hb1:=hI hb1;have Hbd:=hI hbd;clear hb1 hbd)
 clear q0 q1 HOp;have p2:=kC 2 Hbd.o.hg rfl;rw[Hn.o] at p2;have Hne:=hI (openR_ne Hbd.o);have hgl:=blk_lt Hbd.o.hg;have hsl:=blk_lt Hbd.o.hs;have hpl:=blk_lt Hbd.o.hp;go_upto_region 3 with(refine wpList_copyAll rfl _ _ _ _ rfl 3 Tryz.underlying26 (by kernel_rfl) n sb 3 sc B SA rfl rfl _ Hbd.o.hs (by have:=Hbd.o.ns;have:=Hn.o;simp;omega) st Hst.o (HJ.o w1 Hb1.o).2 ?_;intro w2 hw2 hg2;have Hw2:=hI hw2;have Hg2:=hI hg2;have hs2:=hg2.size;clear hw2 hg2)
 clear p2;have Hb2:=hI (Hb1.o.grown Hg2.o hs1 (fun k hk=>by cases hk;exact hs0'))
 have Hbd2:=hI (show BdIn w2 g sb pb j ⟨st,List.replicate n false⟩ 0 from
  ⟨(Hg2.o.block g hgl (fun h=>Hne.o.1 (zJ h))).trans Hbd.o.hg,Hw2.o,((Hg2.o.block pb hpl (fun h=>Hne.o.2.2 (zJ h).symm)).trans Hbd.o.hp).trans (by unfold bd0;rw[j.nt,Hn.o]),by show st.length=_;rw[Hst.o,Hn.o],by simp[Hn.o]⟩)
 clear Hbd Hw2 Hg2 hgl hsl hpl;have hs02:=Hb2.o.size;have HBd:=hI (show ∀X:World,Bl w2 X->BdIn X g sb pb j ⟨st,List.replicate n false⟩ 0/\JIn X B j/\Sl X B 1 encInt1 SA st from fun X hX=>⟨Hbd2.o.below hX,(HJ.o X (Hb2.o.trans (hX.mono (by omega)))).1,(HJ.o X (Hb2.o.trans (hX.mono (by omega)))).2⟩);have HU2:=hI (show ∀X:World,Bl w2 X->Bl W0 X from fun X hX=>Hb2.o.trans (hX.mono (by omega)));have q0:=kC 0 (HX00.o w2 Hb2.o) rfl;go_wp2;clear q0;go_loopw [22] (fun v22 wr=>∃i:Nat,i<=n/\v22= .int .i64 i/\Hid (Bl w2 wr)/\Hid ((List.range i).all (keepsAt j.p st)=true)) (fun v22 _=>n-(intOf v22).toNat);case atStart=>exact⟨0,by omega,rfl,hI (zX _ _),hI rfl⟩
 case round=>
  obtain⟨i,hi,rfl,Hb,Hok⟩:=hrel;have hsr:=Hb.o.size
  by_cases hlt:i<n
  ·have hil:i<j.tasks.length:=by have:=Hn.o;omega
   obtain⟨hbd,hjn,hsn⟩:=HBd.o wr Hb.o;obtain⟨tb,off,hTb,htb⟩:=hjn.ta (by omega);have hTe:TA=some ⟨tb,off,none⟩:=by rw[<- HTA.o];exact hTb
   subst hTe;obtain⟨ub,uoff,hue,hub,_⟩:=hsn (by have:=Hst.o;omega);subst hue
   have HCs:=hI (show ∀(X:World) (k:Nat),Bl w2 X->k<n->X.cell? ⟨ub,uoff+k,none⟩=some (.int .i64 (st.getD k 0)) from fun X k hX hk=>by
    obtain⟨b9,o9,e9,_,hc9⟩:=(HBd.o X hX).2.2 (by have:=Hst.o;omega);cases e9;have hkl:k<st.length:=by have:=Hst.o;omega
    have h:=hc9 k hkl 0 _ rfl;rw[Nat.mul_one,Nat.add_zero] at h;rw[h,zA,zB hkl]
    rfl)
   obtain⟨c0,c1,c2,c3⟩:=hjn.tcells hTb hil;have hTk:=hjn.tks _ (j.T_mem hil);have hnl:=hTk.nl;have hnc:=hTk.nc;have HNs:=hI (fun(X:World) (hX:Bl w2 X)=>((HBd.o X hX).2.1.tks _ (j.T_mem hil)).ns);have HNd:=hI (HG.o.needs _ (j.Tp_mem hil));have hnn:=needs_len HG.o (j.Tp_mem hil);have HEnd:=hI (fun(X:World) (hX:Bl w2 X) (k:Nat) (hk:k<j.tasks.length) (ht:isTm (st.getD k 0)=true)=>end_any j ⟨st,List.replicate n false⟩ 0 g sb pb B k X (HBd.o X hX).1 (HBd.o X hX).2.1 HG.o hk (isTm_true.1 ht));have HBad:=hI (show keepsAt j.p st i=false->keepsV j.p st=false from fun h=>by rw[HK.o,range_all_no hlt h];rfl);have HSn:=hI (range_all_succ (p:=keepsAt j.p st) Hok.o)
   have HKa:=hI (show keepsAt j.p st i=(isTm (st.getD i 0)&&decide (endV j.p ⟨st,List.replicate n false⟩ i<=100000)&&(j.T i).p.needs.all (fun k=>isTm (st.getD k.toNat 0)&&decide (endV j.p ⟨st,List.replicate n false⟩ k.toNat<=st.getD i 0))) by unfold keepsAt needsOk;rw[j.pT];unfold endV;rw[j.pT]);have s0:=HCs.o wr i Hb.o hlt;generalize j.T i=t at c0 c1 c2 c3 HNs HNd hnn HKa hnl hnc;obtain⟨NA,hNA⟩:=eX t.NA;obtain⟨nn,hnn'⟩:=eX t.p.needs.length;rw[hNA,hnn'] at c2;rw[hNA] at HNs;rw[hnn'] at hnl hnn;have Hnn:=hI hnn';obtain⟨si,hsi⟩:=eX (st.getD i 0);have Hsi:=hI hsi;rw[hsi] at s0 HKa;obtain⟨W4,hW4⟩:=eY (wr.alloc (.cells #[.string t.p.name,.int .i64 t.p.takes,.slice NA nn t.nc,.slice t.UA t.p.uses.length t.uc] 46));have hs4:wr.heap.size+1<=W4.heap.size:=by rw[hW4];simp
   have HB4:=hI (show Bl w2 W4 by rw[hW4];exact Hb.o.alloc hsr _);have HX4:=hI (show ∀X:World,Bl W4 X->X.heap[wr.heap.size]? =some (.cells #[.string t.p.name,.int .i64 t.p.takes,.slice NA nn t.nc,.slice t.UA t.p.uses.length t.uc] 46 (0,0)) from fun X hX=>(hX.block _ (by omega)).trans (by rw[hW4];exact zW _ _));clear hbd hjn hsn hTb hTk hNA hnn' hsi s0;go_upto_region 6 with fail;rw[<- hW4];clear hW4 c0 c1 c2 c3;have s0:=HCs.o W4 i HB4.o hlt;rw[Hsi.o] at s0;cases h1:isTm si
   ·have HV:=hI (HBad.o (by rw[HKa.o,h1];rfl));go_wp2_with (go_at_call 70;refine(isTime_any _ _).mono ?_;rintro e w' ⟨rfl,rfl⟩);go_ret;exact⟨ret_bool HV.o.symm,HU0.o _ (HU2.o _ HB4.o)⟩
   have HEi:=hI (fun(X:World) (hX:Bl w2 X)=>HEnd.o X hX i hil (by rw[Hsi.o];exact h1));generalize endV j.p ⟨st,List.replicate n false⟩ i=ei at HEi HKa;cases h2:decide (100000<ei);rotate_left
   ·have HV:=hI (HBad.o (by rw[HKa.o,h1,zE (show ¬ei<=100000 by have:=zI h2;omega)];rfl));go_wp2_with (first | (go_at_call 70;refine(isTime_any _ _).mono ?_;rintro e w' ⟨rfl,rfl⟩) | (go_at_call 138;refine(HEi.o W4 HB4.o).mono ?_;rintro e w' ⟨rfl,kk,rfl⟩));go_ret;exact⟨ret_bool HV.o.symm,HU0.o _ (HU2.o _ (zO HB4.o _))⟩
   have HKb:=hI (show keepsAt j.p st i=t.p.needs.all (fun k=>isTm (st.getD k.toNat 0)&&decide (endV j.p ⟨st,List.replicate n false⟩ k.toNat<=si)) by rw[HKa.o,h1,zD (show ei<=100000 by have:=zH h2;omega)];simp);go_upto_region 8 with(first | (go_at_call 70;refine(isTime_any _ _).mono ?_;rintro e w' ⟨rfl,rfl⟩) | (go_at_call 138;refine(HEi.o W4 HB4.o).mono ?_;rintro e w' ⟨rfl,kk,rfl⟩))
   clear HKa h2 s0 HEi;obtain⟨W5,hW5⟩:=eY (W4.drewN kk);have HB45:=hI (show Bl W4 W5 by rw[hW5];exact zO (zX _ _) _);have HB5:=hI (HB4.o.trans (HB45.o.mono (by have:=HB4.o.size;omega)));rw[<- hW5];clear hW5;have t2:=kC 2 (HX4.o W5 HB45.o) rfl;go_wp2;clear t2;have hs5:=HB45.o.size;have hs24:=HB4.o.size;have HU4:=hI (show ∀X:World,Bl W4 X->Bl w2 X from fun X hX=>HB4.o.trans (hX.mono hs24));obtain⟨PN,hPN⟩:∃PN:Int->Bool,PN=fun k=>isTm (st.getD k.toNat 0)&&decide (endV j.p ⟨st,List.replicate n false⟩ k.toNat<=si):=⟨_,rfl⟩
   rw[<- hPN] at HKb;have HPN:=hI (show ∀k,PN k=(isTm (st.getD k.toNat 0)&&decide (endV j.p ⟨st,List.replicate n false⟩ k.toNat<=si)) from fun k=>by rw[hPN]);clear hPN;obtain⟨wa,rfl⟩:∃wa:World,wa=wr:=⟨_,rfl⟩
   go_loopw [42] (fun v42 wr=>∃q:Nat,q<=nn/\v42= .int .i64 q/\Hid (Bl W4 wr)/\Hid ((t.p.needs.take q).all PN=true)) (fun v42 _=>nn-(intOf v42).toNat);case atStart=>exact⟨0,by omega,rfl,HB45,hI rfl⟩
   case round=>
    obtain⟨q,hq,rfl,Hb3,Hok3⟩:=hrel;have hsr3:=Hb3.o.size
    by_cases hlt3:q<nn
    ·have hql:q<t.p.needs.length:=by have:=Hnn.o;omega
     obtain⟨nb,noff,hne2,hnb,hcells⟩:=(HNs.o wr (HU4.o _ Hb3.o)) (by omega)
     subst hne2;have c0:wr.cell? ⟨nb,noff+q,none⟩=some (.int .i64 t.p.needs[q]):=by have h:=hcells q hql 0 _ rfl;rwa [Nat.mul_one,Nat.add_zero] at h
     have hnd:=HNd.o _ (zC hql);have HBad3:=hI (show PN t.p.needs[q]=false->keepsV j.p st=false from fun h=>HBad.o (by rw[HKb.o,all_no hql h]));have HSn3:=hI (all_take_succK (p:=PN) hql Hok3.o);obtain⟨x,hx⟩:∃x:Nat,t.p.needs[q]=x:=⟨t.p.needs[q].toNat,by omega⟩
     rw[hx] at c0 hnd HBad3 HSn3;have hxl:x<j.tasks.length:=by have:=hnd.2;rw[j.nt] at this;omega
     have hxn:x<n:=by have:=Hn.o;omega
     have HPx:=hI (show PN (x:Int)=(isTm (st.getD x 0)&&decide (endV j.p ⟨st,List.replicate n false⟩ x<=si)) from HPN.o x);have yx:=zV (HCs.o wr x (HU4.o _ Hb3.o) hxn) (by omega);have yi:=zV (HCs.o wr i (HU4.o _ Hb3.o) hlt) (by omega);rw[Hsi.o] at yi;have HEx:=hI (fun(e:Later wr) (ht:isTm (st.getD x 0)=true)=>(HEnd.o e.w ((HU4.o _ Hb3.o).trans (e.b.mono (by omega))) x hxl ht).mono (fun r w' (hr:r= .returned (.int .i64 (endV j.p ⟨st,List.replicate n false⟩ x))/\∃k,w'=e.w.drewN k)=>(⟨hr.1,by obtain⟨k,hk⟩:=hr.2;rw[hk];exact zO (zX _ _) _⟩:r= .returned (.int .i64 (endV j.p ⟨st,List.replicate n false⟩ x))/\Below e.w.heap.size e.w w')));generalize st.getD x 0=sx at yx HPx HEx;generalize endV j.p ⟨st,List.replicate n false⟩ x=ex at HPx HEx;clear hcells hx hnd hxl;go_upto_region 11 with fail;clear c0;cases h3:isTm sx
     ·have HV:=hI (HBad3.o (by rw[HPx.o,h3];rfl));refine wp_region_later (by kernel_rfl) (by kernel_rfl) ?_
      repeat (any_goals (first | go_big_quiet_step ((first | (go_at_call 70;exact later_call_same _ (isTime_any _ _)) | fail)) | quiet_step ((first | (go_at_call 70;exact later_call_same _ (isTime_any _ _)) | fail))))
      refine wpQuiet_nil ?_;rintro w' ⟨e,rfl⟩;have HEb:=hI (HU0.o _ (HU2.o _ (HU4.o _ (Hb3.o.trans (e.b.mono hsr3)))));go_wp2;go_ret;exact⟨ret_bool HV.o.symm,HEb.o⟩
     have HEx2:=hI (fun(e:Later wr)=>HEx.o e h3);cases h4:decide (si<ex)
     ·have HV:=hI (show(t.p.needs.take (q+1)).all PN=true by rw[HSn3.o,HPx.o,h3,zD (show ex<=si by have:=zH h4;omega)];rfl);refine wp_region_later (by kernel_rfl) (by kernel_rfl) ?_
      repeat (any_goals (first | go_big_quiet_step ((first | (go_at_call 70;exact later_call_same _ (isTime_any _ _)) | (go_at_call 138;exact later_call _ (HEx2.o _)))) | quiet_step ((first | (go_at_call 70;exact later_call_same _ (isTime_any _ _)) | (go_at_call 138;exact later_call _ (HEx2.o _))))))
      refine wpQuiet_nil ?_;rintro w' ⟨e,rfl⟩;have HEb:=hI (Hb3.o.trans (e.b.mono hsr3));go_wp2;go_roundw;case rel=>exact⟨q+1,by omega,by go_num,HEb,HV⟩
      case measure=>simp[intOf];omega
     ·have HV:=hI (HBad3.o (by rw[HPx.o,h3,zE (show ¬ex<=si by have:=zI h4;omega)];rfl));refine wp_region_later (by kernel_rfl) (by kernel_rfl) ?_
      repeat (any_goals (first | go_big_quiet_step ((first | (go_at_call 70;exact later_call_same _ (isTime_any _ _)) | (go_at_call 138;exact later_call _ (HEx2.o _)))) | quiet_step ((first | (go_at_call 70;exact later_call_same _ (isTime_any _ _)) | (go_at_call 138;exact later_call _ (HEx2.o _))))))
      refine wpQuiet_nil ?_;rintro w' ⟨e,rfl⟩;have HEb:=hI (HU0.o _ (HU2.o _ (HU4.o _ (Hb3.o.trans (e.b.mono hsr3)))));go_wp2;go_ret;exact⟨ret_bool HV.o.symm,HEb.o⟩
    ·have HV:=hI (show(List.range (i+1)).all (keepsAt j.p st)=true by rw[HSn.o,HKb.o];have h:=Hok3.o;rwa [zG (by have:=Hnn.o;omega)] at h);go_wp2;go_roundw;case rel=>exact⟨i+1,by omega,by go_num,hI (HU4.o _ Hb3.o),HV⟩
     case measure=>simp[intOf];omega
  ·obtain rfl:i=n:=by omega
   have HK2:=hI (show keepsV j.p st=(List.range i).all (fun k=>fitsV j.p ⟨st,firstB k i⟩ k (st.getD k 0)) by rw[HK.o,Hok.o];rfl);have HTm:=hI (keepsAt_time Hst.o Hok.o);have q0:=kC 0 (HX00.o wr (HU2.o _ Hb.o)) rfl;have HbdR:=hI (show BdIn wr g sb pb j ⟨st,firstB 0 i⟩ 0 by rw[firstB_zero];exact(HBd.o wr Hb.o).1);have HBr:=hI (HU2.o _ Hb.o);have hgl:=blk_lt HbdR.o.hg;have hsl:=blk_lt HbdR.o.hs;have hpl:=blk_lt HbdR.o.hp;have hs0r:=HBr.o.size;go_wp2;clear q0;obtain⟨wa,rfl⟩:∃wa:World,wa=wr:=⟨_,rfl⟩
   go_loopw [67] (fun v67 wr=>∃k:Nat,k<=i/\v67= .int .i64 k/\Hid (Bl W0 wr)/\Hid (wa.heap.size<=wr.heap.size)/\Hid (BdIn wr g sb pb j ⟨st,firstB k i⟩ 0)/\Hid ((List.range k).all (fun k=>fitsV j.p ⟨st,firstB k i⟩ k (st.getD k 0))=true)) (fun v67 _=>i-(intOf v67).toNat);case atStart=>exact⟨0,by omega,rfl,HBr,hI (zm _),HbdR,hI rfl⟩
   case round=>
    obtain⟨k,hk,rfl,Hb3,Hs3,Hbd3,Hok3⟩:=hrel;have hsr3:=Hb3.o.size;have hss3:=Hs3.o
    by_cases hlt3:k<i
    ·have hkl:k<j.tasks.length:=by have:=Hn.o;omega
     have HSk:=hI (range_all_succ (p:=fun k=>fitsV j.p ⟨st,firstB k i⟩ k (st.getD k 0)) Hok3.o);have HBd3:=hI (show fitsV j.p ⟨st,firstB k i⟩ k (st.getD k 0)=false->keepsV j.p st=false from fun h=>by rw[HK2.o,range_all_no hlt3 h]);obtain⟨hjn,hsn⟩:=HJ.o wr Hb3.o;obtain⟨ub,uoff,hue,hub,hcs⟩:=hsn (by have:=Hst.o;omega);subst hue
     have s0:wr.cell? ⟨ub,uoff+k,none⟩=some (.int .i64 (st.getD k 0)):=by
      have hks:k<st.length:=by have:=Hst.o;omega
      have h:=hcs k hks 0 _ rfl;rw[Nat.mul_one,Nat.add_zero] at h;rw[h,zA,zB hks]
      rfl
     have htk:=HTm.o k;have HFt:=hI (fits_any j ⟨st,firstB k i⟩ 0 (st.getD k 0) k g sb pb B wr Hbd3.o hjn (by omega) HG.o HTm.o hkl (by omega));generalize fitsV j.p ⟨st,firstB k i⟩ k (st.getD k 0)=fv at HFt HSk HBd3;generalize st.getD k 0=sk at s0 HFt htk;clear hjn hsn hcs;cases fv
     ·have HV:=hI (HBd3.o rfl);go_wp2_with (go_at_call 139;refine HFt.o.mono ?_;rintro e w3 ⟨rfl,hb3⟩;have Hb4:=hI hb3;clear hb3);go_ret;exact⟨ret_bool HV.o.symm,HU0.o _ (Hb3.o.trans (Hb4.o.mono (by omega)))⟩
     ·have HV:=hI (HSk.o);go_upto_region 20 with(go_at_call 139;refine HFt.o.mono ?_;rintro e w3 ⟨rfl,hb3⟩;have Hb4:=hI hb3;have hs4:=hb3.size;clear hb3)
      have Hbd4:=hI (Hbd3.o.below Hb4.o);have p3:=kC 3 Hbd4.o.hg rfl;rw[Hn.o] at p3;have f0:=W7.bf (j:=k) Hbd4.o.hp;have d0:=Hbd4.o.pl hkl
      have HN:=hI (show BdIn (w3.setCell ⟨pb,k,none⟩ (.bool true)) g sb pb j ⟨st,firstB (k+1) i⟩ 0 by
       have h:=Hbd4.o.putP (n:=k) (x:=true) Hne.o.2.1 Hne.o.2.2;rw[firstB_set hlt3] at h;exact h)
      have HBn:=hI (show Below W0.heap.size W0 (w3.setCell ⟨pb,k,none⟩ (.bool true)) from(Hb3.o.trans (Hb4.o.mono (by omega))).setCell (p:=⟨pb,k,none⟩) (by simp;omega) _);have hsn2:wa.heap.size<=(w3.setCell ⟨pb,k,none⟩ (.bool true)).heap.size:=by simp[World.setCell];omega
      have Hsn2:=hI hsn2;clear hsn2;go_wp2;go_roundw;case rel=>exact⟨k+1,by omega,by go_num,HBn,Hsn2,HN,HV⟩
      case measure=>simp[intOf];omega
    ·have HV:=hI (show keepsV j.p st=true by rw[HK2.o,show i=k by omega];have h:=Hok3.o;rwa [show i=k by omega] at h);go_wp2;go_ret;exact⟨ret_bool HV.o.symm,HU0.o _ Hb3.o⟩
end Go.Proofs.YtjpgnfekbojcaaaGreat
