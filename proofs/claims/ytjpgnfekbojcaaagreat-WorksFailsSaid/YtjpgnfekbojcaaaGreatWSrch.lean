/- The search of a train in memory;is there room at a station (room). -/
import Derived.Test.YtjpgnfekbojcaaaGreatWRJob8
import Derived.DeepKeys5
set_option maxHeartbeats 8000000
set_option maxRecDepth 100000
namespace Go.Proofs.YtjpgnfekbojcaaaGreat
open Go.RowKit W7 W8
attribute [local go_sem] Oper.semAt_some
structure SrD where
 sg:Nat
 g:Nat
 mb:Nat
 eb:Nat
 PA:Option Addr
 SA:Option Addr
 KA:Option Addr
 pc:Nat
 sc:Nat
 kc:Nat
 sbs:List Nat
 kbs:List Nat
 base:Nat
 B:Nat
structure StOk (l:Line) (stops:List Int):Prop where
 pos:0<stops.length
 len:stops.length<=16
 at':∀k,k<stops.length->0<=stops.getD k 0/\stops.getD k 0<l.room.length
 step:∀k,k+1<stops.length->stops.getD (k+1) 0-stops.getD k 0=1\/stops.getD (k+1) 0-stops.getD k 0= -1
structure SrIn (X:World) (d:SrD) (l:Line) (tab:List (List TCall)) (stops:List Int):Prop where
 blk:X.heap[d.sg]? =some (.cells #[.pointer (some ⟨d.g,0,none⟩),.slice d.PA stops.length d.pc,.map (some d.mb),.map (some d.eb)] 133 (0,0))
 trk:TrkIn X d.base d.g l d.SA d.KA d.sc d.kc d.sbs d.kbs (fun i t=>stAll i t tab) (fun i t=>seAll i t tab)
 ln:LnIn X d.B l
 hB:d.B<=X.heap.size
 sp:X.ownsRow d.base 3 1 (.slice d.PA stops.length d.pc) stops.length (stops.map (Value.int .i64))
 sl:d.sbs.length=l.room.length
 kl:d.kbs.length=l.run.length
 ok:TabOk l tab
 st:StOk l stops
theorem SrIn.below {X Y:World} {d:SrD} {l:Line} {tab:List (List TCall)} {stops:List Int} (h:SrIn X d l tab stops) (hb:Bl X Y):SrIn Y d l tab stops:=
 ⟨(hb.block _ (blk_lt h.blk)).trans h.blk,h.trk.below hb,h.ln.below (hb.mono h.hB),Nat.le_trans h.hB hb.size,own_below h.sp hb,h.sl,h.kl,h.ok,h.st⟩
section
variable {X:World} {d:SrD} {l:Line} {tab:List (List TCall)} {stops:List Int}
theorem SrIn.stop (h:SrIn X d l tab stops) {k:Nat} (hk:k<stops.length):∃pb,d.PA=some ⟨pb,0,none⟩/\pb<X.heap.size/\X.cell? ⟨pb,k,none⟩=some (.int .i64 (stops.getD k 0)):=by
 obtain⟨pb,cap,e,_,hlt,_,_,hc⟩:=owns_cells h.sp (by omega)
 injection e with e1 _ _
 refine⟨pb,e1,hlt,?_⟩;have h1:=hc k (.int .i64 (stops.getD k 0)) (by rw[List.getElem?_map,zB hk,zA,zB hk];rfl)
 rwa [Nat.zero_add] at h1
theorem SrIn.stB (h:SrIn X d l tab stops) {i:Nat} (hi:i<d.sbs.length):∃sab,d.SA=some ⟨sab,0,none⟩/\sab<X.heap.size/\X.cell? ⟨sab,i,none⟩=some (.pointer (some ⟨d.sbs.getD i 0,0,none⟩)):=by
 obtain⟨sab,cap,e,_,hlt,_,_,hc⟩:=owns_cells h.trk.sr (by omega)
 injection e with e1 _ _
 refine⟨sab,e1,hlt,?_⟩;have h1:=hc i (ptrV (d.sbs.getD i 0)) (by rw[List.getElem?_map,zB hi,zA,zB hi];rfl)
 rwa [Nat.zero_add] at h1
theorem SrIn.seB (h:SrIn X d l tab stops) {i:Nat} (hi:i<d.kbs.length):∃kab,d.KA=some ⟨kab,0,none⟩/\kab<X.heap.size/\X.cell? ⟨kab,i,none⟩=some (.pointer (some ⟨d.kbs.getD i 0,0,none⟩)):=by
 obtain⟨kab,cap,e,_,hlt,_,_,hc⟩:=owns_cells h.trk.kr (by omega)
 injection e with e1 _ _
 refine⟨kab,e1,hlt,?_⟩;have h1:=hc i (ptrV (d.kbs.getD i 0)) (by rw[List.getElem?_map,zB hi,zA,zB hi];rfl)
 rwa [Nat.zero_add] at h1
theorem ln_room {B:Nat} (h:LnIn X B l) {i:Nat} (hi:i<l.room.length):∃rb roff,l.MA=some ⟨rb,roff,none⟩/\rb<B/\X.cell? ⟨rb,roff+i,none⟩=some (.int .i64 (l.room.getD i 0)):=by
 obtain⟨rb,roff,e,hb,hc⟩:=h.room (by omega);refine⟨rb,roff,e,hb,?_⟩;have h5:=hc i hi 0 _ rfl;rw[Nat.mul_one,Nat.add_zero] at h5;rw[h5,zA,zB hi]
 rfl
theorem ln_run {B:Nat} (h:LnIn X B l) {i:Nat} (hi:i<l.run.length):∃rb roff,l.RA=some ⟨rb,roff,none⟩/\rb<B/\X.cell? ⟨rb,roff+i,none⟩=some (.int .i64 (l.run.getD i 0)):=by
 obtain⟨rb,roff,e,hb,hc⟩:=h.run (by omega);refine⟨rb,roff,e,hb,?_⟩;have h5:=hc i hi 0 _ rfl;rw[Nat.mul_one,Nat.add_zero] at h5;rw[h5,zA,zB hi]
 rfl
end
theorem later_un {w:World} {n b o:Nat} {v:Value} (h:∀e:Later w,e.w.cell? ⟨b,o,none⟩=some v):∀e:Later (w.drewN n),e.w.cell? ⟨b,o,none⟩=some v:=fun e=>h ⟨e.w,(zO (zX _ _) n).trans e.b⟩
theorem sroom_any (d:SrD) (l:Line) (tab:List (List TCall)) (stops:List Int) (k:Nat) (t:Int) (w:World) (h:SrIn w d l tab stops) (hk:k<stops.length) :
  Calls Tryz.prog 155 #[.pointer (some ⟨d.sg,0,none⟩),.agg #[.int .i64 (k:Int),.int .i64 t]] w fun e w'=>e= .returned (.bool (roomB l tab stops k t))/\Bl w w':=by
 obtain⟨sp,hsp⟩:=eX stops.length;obtain⟨W0,hW0⟩:=eY (w.alloc (.cells #[.int .i64 (k:Int),.int .i64 t] 136));have hs0:W0.heap.size=w.heap.size+1:=by rw[hW0];simp
 have HB0:=hI (show Bl w W0 by rw[hW0];exact(zX _ _).alloc (zm _) _);have Q0:=hI (show W0.heap[w.heap.size]? =some (.cells #[.int .i64 (k:Int),.int .i64 t] 136 (0,0)) by rw[hW0];exact zW _ _);have h0:=h.below HB0.o;have hst:=h.st.at' k hk;have hlo:=line_ok h.ok.line;have hpc:=own_caps1 h.sp;have hscc:=own_caps1 h.trk.sr;have hml:=h.ln.mlc;have hmc:=h.ln.mc2;obtain⟨ns,hns⟩:∃x:Nat,stops.getD k 0=(x:Int):=⟨(stops.getD k 0).toNat,by omega⟩
 have hnm:ns<l.room.length:=by omega
 obtain⟨pb,hPA,hpb,p0⟩:=h0.stop hk;obtain⟨sab,hSA,hsab,s0⟩:=h0.stB (i:=ns) (by rw[h.sl];exact hnm);obtain⟨rb,roff,hMA,hrb,r0⟩:=ln_room h0.ln hnm;have hmi:=h0.trk.st ns (by rw[h.sl];exact hnm);obtain⟨pS,hpS⟩:=eX (d.sbs.getD ns 0);rw[hpS] at s0 hmi;have hblk:=h0.blk;have htk:=h0.trk.blk;rw[hsp,hPA] at hblk;rw[h.sl,h.kl,hSA,hMA] at htk;rw[hns] at p0;obtain⟨m,hm⟩:=eX l.room.length;rw[hm] at htk hnm hml;rw[hm] at hlo;have hm16:=hlo.1;rw[h.sl,hm] at hscc;rw[hsp] at hpc hk;have HV:=hI (show roomB l tab stops k t=(isTm t&&decide ((stAll (ns:Int) t tab:Int)<l.room.getD ns 0)) by unfold roomB;rw[hns,zZ]);have hbs:=(tab_bounds h.ok).1 ns;have HMi:=hI hmi;have y0:=zV (kC 1 htk rfl) (blk_lt htk);have y1:=zV (kC 2 htk rfl) (blk_lt htk);have y2:=zV (kC 0 hblk rfl) (blk_lt hblk);have ys:=zV s0 hsab;have yr:=zV r0 (by have:=h.hB;omega);have yq:=zV (kC 1 Q0.out rfl) (by omega)
 have hpp:=kC 1 hblk rfl;have HW0:=hI hW0;have HY:=hI (show(∀e:Later W0,e.w.cell? ⟨d.g,1,none⟩=some (.slice (some ⟨rb,roff,none⟩) m l.mc))/\(∀e:Later W0,e.w.cell? ⟨d.g,2,none⟩=some (.slice (some ⟨sab,0,none⟩) m d.sc))/\(∀e:Later W0,e.w.cell? ⟨d.sg,0,none⟩=some (.pointer (some ⟨d.g,0,none⟩))) from⟨y0,y1,y2⟩);have q0:=kC 0 Q0.out rfl;have q1:=kC 1 Q0.out rfl;generalize l.room.getD ns 0=rv at yr HV;generalize d.pc=pc at *;generalize d.sc=sc at *;generalize d.sg=sg at *;generalize d.g=g at *;clear hW0 h h0 hst hlo hPA hSA hMA hpS hmi hblk htk hsp hm r0 s0 hns;go_enter Tryz.func155,Tryz.ntmps155;go_upto_region 1 with fail;rw[<- HW0.o]
 go_quiet (fail)
 have z0:=later_un (n:=nq) HY.o.1;have z1:=later_un (n:=nq) HY.o.2.1;have z2:=later_un (n:=nq) HY.o.2.2;have zs:=later_un (n:=nq) ys;have zr:=later_un (n:=nq) yr;have zq:=later_un (n:=nq) yq;have HB1:=hI (zO HB0.o nq);have hs1:w.heap.size<=(W0.drewN nq).heap.size:=HB1.o.size;cases ht:isTm t
 ·have HR:=hI (show roomB l tab stops k t=false by rw[HV.o,ht];rfl);have HTm:=hI (fun X=>by have h:=isTime_any t X;rw[ht] at h;exact h);go_upto_region 2 with fail;clear y0 y1 y2 ys yr yq hpp p0 q0 q1;refine wp_region_later (by kernel_rfl) (by kernel_rfl) ?_
  repeat (any_goals (first | go_big_quiet_step ((go_at_call 70;exact later_call_same _ (HTm.o _))) | quiet_step ((go_at_call 70;exact later_call_same _ (HTm.o _)))))
  refine wpQuiet_nil ?_;rintro w' ⟨e,rfl⟩;have HB2:=hI (HB1.o.trans (e.b.mono hs1));go_wp2;go_ret;exact⟨ret_bool HR.o.symm,HB2.o⟩
 ·have HTm:=hI (fun X=>by have h:=isTime_any t X;rw[ht] at h;exact h);have htt:=isTm_true.1 ht;obtain⟨tn,htn⟩:∃x:Nat,t=(x:Int):=⟨t.toNat,by omega⟩
  subst htn;have hbt:=hbs (tn:Int);have HR:=hI (show roomB l tab stops k (tn:Int)=decide ((stAll (ns:Int) (tn:Int) tab:Int)<rv) by rw[HV.o,ht];rfl);have yc:=zV (HMi.o.cell (t:=tn) (by omega)) HMi.o.lt;generalize stAll (ns:Int) (tn:Int) tab=cnt at yc HR hbt;have zc:=later_un (n:=nq) yc;obtain⟨ci,hci⟩:∃ci:Int,(cnt:Int)=ci:=⟨_,rfl⟩
  rw[hci] at zc HR;have hc0:0<=ci/\ci<=60000:=by omega
  obtain⟨hc1,hc2⟩:=hc0;go_upto_region 2 with fail;clear y0 y1 y2 ys yr yq yc hpp p0 q0 q1 hci;refine wp_region_later (by kernel_rfl) (by kernel_rfl) ?_
  repeat (any_goals (first | go_big_quiet_step ((go_at_call 70;exact later_call_same _ (HTm.o _))) | quiet_step ((go_at_call 70;exact later_call_same _ (HTm.o _)))))
  refine wpQuiet_nil ?_;rintro w' ⟨e,rfl⟩;have HB2:=hI (HB1.o.trans (e.b.mono hs1));go_wp2;go_ret;exact⟨ret_bool HR.o.symm,HB2.o⟩
end Go.Proofs.YtjpgnfekbojcaaaGreat
namespace Go.Proofs.YtjpgnfekbojcaaaGreat
open Go.RowKit W7 W8
theorem laidOutM:laidOutB Tryz.prog=true:=by kernel_rfl
theorem wideM:(match Tryz.prog.underlying 136 with | some (.array _ _) | some (.struct _)=>true | _=>false)=true:=by rw[Tryz.underlying136]
theorem ktM:Tryz.prog.keyTypeAt 2 136=true:=by kernel_rfl
theorem rowM:(136:TypeId)<Tryz.prog.types.size:=zI (by kernel_rfl)
theorem lawM:WideMaps.KeyLaw Tryz.prog 136:=deep_law_laid laidOutM (m:=2) (by omega) rowM ktM wideM
theorem keyedM:Maps.Keyed Tryz.prog 136:=Maps.Keyed.of_law lawM
theorem cellsM:Tryz.prog.cellsOf 136=2:=by kernel_rfl
theorem cellsI:Tryz.prog.cellsOf 3=1:=by kernel_rfl
theorem keyTM:Tryz.prog.keyType 136=true:=by kernel_rfl
theorem sizeTM:∃n,Tryz.prog.types.size=n+2:=⟨Tryz.prog.types.size-2,by have h:(136:Nat)<Tryz.prog.types.size:=rowM;omega⟩
theorem keyM_some (a b:Int) (ha:(Lit.int .i64 a).wf=true) (hb:(Lit.int .i64 b).wf=true):keyOf Tryz.prog 136 (.agg #[.int .i64 a,.int .i64 b])=some (.string (keyBytes [.int .i64 a,.int .i64 b])):=by
 obtain⟨n,hn⟩:=sizeTM;unfold keyOf;rw[Tryz.underlying136,keyTM,hn];have hf:(Value.agg #[Value.int .i64 a,Value.int .i64 b]).formed Tryz.prog 136=true:=by simp[Value.formed,Tryz.underlying136,cellsM]
 simp only[hf,Bool.and_self,if_true];simp only[Program.keyLits,Tryz.underlying136];simp[Value.cells,cellsM,cellsI,Tryz.underlying3,ha,hb]
def keyMo (k:Nat) (t:Int):Lit:= .string (keyBytes [.int .i64 (k:Int),.int .i64 t])
def moV (k:Nat) (t:Int):Value:= .agg #[.int .i64 (k:Int),.int .i64 t]
structure KeyB (k:Nat) (t:Int):Prop where
 k:k<1000
 lo: -10000000<=t
 hi:t<=10000000
theorem keyMo_of {k:Nat} {t:Int} (h:KeyB k t):keyOf Tryz.prog 136 (moV k t)=some (keyMo k t):=keyM_some _ _ (wf64 (by have:=h.k;omega)) (wf64 (by have:=h.lo;have:=h.hi;omega))
theorem keyMo_is (k:Nat) (t:Int):WideAt.IsKeyLit (keyMo k t):=by simp[WideAt.IsKeyLit,keyMo]
theorem keyMo_ne {k k':Nat} {t t':Int} (h:KeyB k t) (h':KeyB k' t') (hne:(k,t)≠(k',t')):keyMo k t≠keyMo k' t':=fun e=>by
 have h1:=keyMo_of h;have h2:=keyMo_of h';rw[<- e] at h2;have h3:=keyedM.inj h1 h2;unfold moV at h3;simp at h3;exact hne (by rw[show k=k' by omega,h3.2])
theorem plainB_inv {v:Value} {z:DataW Unit×List MemPlace} (h:plainElem Tryz.prog 4 v=some z):∃b,v= .bool b/\z=(.lit (.bool b),[]):=by
 unfold plainElem at h;rw[Tryz.underlying4] at h;cases v<;>simp at h
 exact⟨_,rfl,h.symm⟩
theorem zeroB (w:World):(zeroValue 4).run Tryz.prog w= .ok (.bool false) w:=by kernel_rfl
def MapIn (X:World) (b:Nat) (E:List (Nat×Int)) (f:Nat->Int->Bool):Prop:=∃D:DataW Unit,X.ownsMap Tryz.prog 136 (plainElem Tryz.prog 4) b (Maps.size D) D/\Maps.size D=E.length ∧
 ∀k t,KeyB k t->Maps.has D (keyMo k t)=E.contains (k,t)/\D.atKey (keyMo k t) (.lit (.bool false))= .lit (.bool (E.contains (k,t)&&f k t))
def mapLen (X:World) (b:Nat):Nat:=match X.heap[b]? with
 | some (.map es _)=>es.size
 | _=>0
section
variable {X Y:World} {b:Nat} {E:List (Nat×Int)} {f:Nat->Int->Bool}
theorem MapIn.lt (h:MapIn X b E f):b<X.heap.size:=by obtain⟨D,h,_⟩:=h;exact h.lt
theorem MapIn.kept (h:MapIn X b E f) (he:Y.heap[b]? =X.heap[b]?):MapIn Y b E f:=by
 obtain⟨D,⟨es,clock,hb,F,hs,hD⟩,hM⟩:=h;exact⟨D,⟨es,clock,he.trans hb,F,hs,hD⟩,hM⟩
theorem MapIn.below (h:MapIn X b E f) (hb:Bl X Y):MapIn Y b E f:=h.kept (hb.block b h.lt)
theorem MapIn.made (w:World) (f:Nat->Int->Bool):MapIn (w.alloc (.map #[] 0)) w.heap.size [] f:=
 ⟨.map [],World.ownsMap_made _ _ _ _,by simp[Maps.size],fun k t _=>⟨by simp[Maps.has],by simp[DataW.atKey]⟩⟩
theorem MapIn.len (h:MapIn X b E f):mapLen X b=E.length:=by
 obtain⟨D,⟨es,clock,hb,F,hs,rfl⟩,h2,_⟩:=h;unfold mapLen;rw[hb];simp only;rw[<- h2];simp[Maps.size,length_sorted]
theorem MapIn.is (h:MapIn X b E f):∃es c,X.heap[b]? =some (.map es c):=by
 obtain⟨D,⟨es,clock,hb,_⟩,_⟩:=h;exact⟨es,clock,hb⟩
theorem MapIn.look {k:Nat} {t:Int} (h:MapIn X b E f) (hk:KeyB k t):(Instr.lookup 131 (.map (some b)) (moV k t) false).run Tryz.prog X= .ok (.bool (E.contains (k,t)&&f k t)) X:=by
 obtain⟨D,hown,_,hD⟩:=h;obtain⟨v,ps,hrun,hv⟩:=hown.lookup keyedM Tryz.underlying131 (zeroB X) (plainElem_bool Tryz.underlying4 false) (keyMo_of hk);obtain⟨c,rfl,hc⟩:=plainB_inv hv;have h1:=(hD k t hk).2;have h2:=congrArg Prod.fst hc;simp only at h2;rw[h1] at h2
 injection h2 with h3
 injection h3 with h4
 rw[hrun,h4]
theorem MapIn.look_ok {k:Nat} {t:Int} (h:MapIn X b E f) (hk:KeyB k t):(Instr.lookup 131 (.map (some b)) (moV k t) true).run Tryz.prog X= .ok (.tuple #[.bool (E.contains (k,t)&&f k t),.bool (E.contains (k,t))]) X:=by
 obtain⟨D,hown,_,hD⟩:=h;obtain⟨v,ps,hrun,hv⟩:=hown.look_ok keyedM Tryz.underlying131 (zeroB X) (plainElem_bool Tryz.underlying4 false) (keyMo_of hk);obtain⟨c,rfl,hc⟩:=plainB_inv hv;have h1:=(hD k t hk).2;have h2:=congrArg Prod.fst hc;simp only at h2;rw[h1] at h2
 injection h2 with h3
 injection h3 with h4
 rw[hrun,h4,(hD k t hk).1]
end
def insK (E:List (Nat×Int)) (p:Nat×Int):List (Nat×Int):=if E.contains p then E else p::E
theorem insK_mem {E:List (Nat×Int)} {p q:Nat×Int}:q∈insK E p↔q=p\/q∈E:=by
 unfold insK
 split
 ·rename_i h
  rw[List.contains_iff_mem] at h;exact⟨.inr,fun h1=>h1.elim (fun e=>e▸h) id⟩
 ·exact List.mem_cons
theorem insK_contains {E:List (Nat×Int)} {p q:Nat×Int}:(insK E p).contains q=(q==p||E.contains q):=by
 rw[Bool.eq_iff_iff,List.contains_iff_mem,insK_mem,Bool.or_eq_true,beq_iff_eq,List.contains_iff_mem]
theorem insK_nodup {E:List (Nat×Int)} {p:Nat×Int} (h:E.Nodup):(insK E p).Nodup:=by
 unfold insK
 split
 ·exact h
 ·rename_i h1
  rw[List.contains_iff_mem] at h1;exact List.nodup_cons.2 ⟨h1,h⟩
theorem wpList_mapIn_put {P:Program} (hP:P=Tryz.prog) {w:World} {ops:Array Oper} {rest:List Oper} {o:Oper} {a:Act} {Q:Exit->Act->World->Prop} (hg:o.guard=none) (m x v:Operand) (hop:o.op=Op.mapUpdate 131 m x v)
  (b:Nat) (E:List (Nat×Int)) (f:Nat->Int->Bool) (k:Nat) (t:Int) (h:MapIn w b E f) (hm:a.eval m= .map (some b)) (hx:a.eval x=moV k t) (hv:a.eval v= .bool (f k t)) (hk:KeyB k t) (hl:E.length<1000000000)
  (hK:∀w',MapIn w' b (insK E (k,t)) f->w.grownBy w' (some b)->wpList P ops Q rest (a.put o.dst undef) w'):wpList P ops Q (o::rest) a w:=by
 subst hP;obtain⟨D,hown,hsz,hD⟩:=h;refine wpList_mapUpdate_own w hg m x v 131 hop 136 4 keyedM Tryz.underlying131 (plainElem Tryz.prog 4) b (Maps.size D) D hm hown (by unfold maxLen;omega) (moV k t) (.bool (f k t)) (keyMo k t) hx hv (keyMo_of hk) (.lit (.bool (f k t))) [] (plainElem_bool Tryz.underlying4 _) ?_;intro w' hown' hgr;refine hK w' ⟨_,own_fit hown',?_,fun k' t' hk'=> ?_⟩ hgr
 ·have ht:=hown.tidy keyedM;rw[Maps.size_put ht,(hD k t hk).1,hsz];unfold insK
  split<;>rfl
 ·have ht:=(hown.tidy keyedM).isMap;have h1:=hD k' t' hk';rw[insK_contains]
  by_cases he:(k',t')=(k,t)
  ·injection he with e1 e2
   subst e1 e2;rw[Maps.has_put_same ht (keyMo_is _ _),Maps.atKey_put_same ht (keyMo_is _ _)];simp
  ·have hne2:=keyMo_ne hk' hk he;rw[Maps.has_put_other hne2,Maps.atKey_put_other hne2,h1.1,h1.2];have hb:((k',t')==(k,t))=false:=beq_false_of_ne he;simp only[hb,Bool.false_or];exact⟨trivial,trivial⟩
def Alien (X:World) (b:Nat):Prop:=∀cs T,X.heap[b]? =some (.cells cs T (0,0))->T≠133/\T≠190/\T≠195/\T≠191/\T≠3
theorem MapIn.alien {X:World} {b:Nat} {E:List (Nat×Int)} {f:Nat->Int->Bool} (h:MapIn X b E f):Alien X b:=fun cs T hc=>by
 obtain⟨es,c,h1⟩:=h.is;rw[h1] at hc;cases hc
theorem own_alien {X Y:World} {base k n b T:Nat} {v:Value} {xs:List Value} (h:X.ownsRow base T k v n xs) (g:X.grownBy Y (some b)) (ha:∀cs,X.heap[b]? ≠some (.cells cs T (0,0))):Y.ownsRow base T k v n xs:=h.kept g (by
 cases hv:v.ownBlock with
 | none=>exact .inl rfl
 | some j=>
  refine .inr fun e=> ?_
  obtain⟨cs,hc⟩:=owns_block h j hv;rw[zJ e] at hc;exact ha cs hc)
theorem SrIn.grown {X Y:World} {d:SrD} {l:Line} {tab:List (List TCall)} {stops:List Int} {b:Nat} (h:SrIn X d l tab stops) (g:X.grownBy Y (some b)) (hb:d.B<=b) (ha:Alien X b):SrIn Y d l tab stops:=by
 have hne:∀(i:Nat) (o:Obj),X.heap[i]? =some o->(∀cs T,o=Obj.cells cs T (0,0)->T=133\/T=190\/T=195\/T=191\/T=3)->(∃cs T,o=Obj.cells cs T (0,0))->Y.heap[i]? =some o:=fun i o hi ht ⟨cs,T,ho⟩=>by
  refine(g.block i (blk_lt hi) (fun e=> ?_)).trans hi;have e1:=zJ e;subst e1;have h1:=ht cs T ho;have h2:=ha cs T (by rw[hi,ho]);rcases h1 with h1 | h1 | h1 | h1 | h1
  ·exact h2.1 h1
  ·exact h2.2.1 h1
  ·exact h2.2.2.1 h1
  ·exact h2.2.2.2.1 h1
  ·exact h2.2.2.2.2 h1
 have hmin:∀c f,MinIn X c f->MinIn Y c f:=fun c f ⟨cs,h1,h2⟩=>⟨cs,hne c _ h1 (fun cs T e=>by cases e;exact .inr (.inr (.inl rfl))) ⟨_,_,rfl⟩,h2⟩
 have hpr:∀ {v:Value} {n:Nat} {xs:List Value},X.ownsRow d.base 191 1 v n xs->Y.ownsRow d.base 191 1 v n xs:=fun hr=>own_alien hr g (fun cs hc=>(ha cs _ hc).2.2.2.1 rfl)
 have hbl:Below d.B X Y:=⟨g.os,g.tape,g.output,g.size,fun i hi=>g.block i (by have:=h.hB;omega) (fun e=>by have:=zJ e;omega)⟩
 exact⟨hne _ _ h.blk (fun cs T e=>by cases e;exact .inl rfl) ⟨_,_,rfl⟩,
  ⟨hne _ _ h.trk.blk (fun cs T e=>by cases e;exact .inr (.inl rfl)) ⟨_,_,rfl⟩,hpr h.trk.sr,hpr h.trk.kr,fun i hi=>hmin _ _ (h.trk.st i hi),fun i hi=>hmin _ _ (h.trk.se i hi),h.trk.nd,h.trk.ge,h.trk.ne⟩,
  h.ln.below hbl,Nat.le_trans h.hB g.size,own_alien h.sp g (fun cs hc=>(ha cs _ hc).2.2.2.2 rfl),h.sl,h.kl,h.ok,h.st⟩
def ELater (w:World) (b:Nat) (M:World->Prop):Type:={ W:World // w.grownBy W (some b)/\M W }
def ELater.w {w:World} {b:Nat} {M:World->Prop} (e:ELater w b M):World:=e.1
theorem ELater.g {w:World} {b:Nat} {M:World->Prop} (e:ELater w b M):w.grownBy e.w (some b):=e.2.1
theorem ELater.m {w:World} {b:Nat} {M:World->Prop} (e:ELater w b M):M e.w:=e.2.2
theorem wp_region_elater_tail {P:Program} {id:Nat} {Q:Exit->Act->World->Prop} {a:Act} {w:World} {l:List Oper} (b:Nat) (M:World->Prop) (n:Nat) (hm:P.follows .mixedOrders=true) (hB:Region.lexTailB .any l.toArray n=true) (h0:M { w with drawn:=w.drawn+1 })
  (h:wpQuiet P l.toArray (fun w'=>∃e:ELater w b M,w'=e.w) (fun a'=>∀w',(∃e:ELater w b M,w'=e.w)->wpList P l.toArray Q (l.drop n) a' w') (l.take n) a):(Code.region id l.toArray true).wp P Q a w:=
 wp_region_class_tail n hm hB ⟨⟨{ w with drawn:=w.drawn+1 },⟨⟨rfl,rfl,rfl,zm _,fun _ _ _=>rfl⟩,h0⟩⟩,rfl⟩ h
theorem elater_call {P:Program} {f:FuncId} {args:Array Value} {w:World} {b:Nat} {M:World->Prop} (hM:∀X Y,M X->Bl X Y->M Y) (e:ELater w b M) {v:Value} (h:Calls P f args e.w fun r w'=>r= .returned v/\Below e.w.heap.size e.w w') :
  Calls P f args e.w fun r w'=>r= .returned v/\∃e':ELater w b M,w'=e'.w:=
 h.mono fun _ w' ⟨hr,hb⟩=>⟨hr,⟨w',grown_trans e.g (grown_of_below hb _),hM _ _ e.m hb⟩,rfl⟩
theorem elater_call2 {P:Program} {f:FuncId} {args:Array Value} {w:World} {b:Nat} {M:World->Prop} (e:ELater w b M) {v:Value} (h:Calls P f args e.w fun r w'=>r= .returned v/\e.w.grownBy w' (some b)/\M w') :
  Calls P f args e.w fun r w'=>r= .returned v/\∃e':ELater w b M,w'=e'.w:=
 h.mono fun _ w' ⟨hr,hg,hm⟩=>⟨hr,⟨w',grown_trans e.g hg,hm⟩,rfl⟩
theorem elater_cell {w:World} {b c o:Nat} {M:World->Prop} {v:Value} (h:w.cell? ⟨c,o,none⟩=some v) (hc:c<w.heap.size) (hne:c≠b):∀e:ELater w b M,e.w.cell? ⟨c,o,none⟩=some v:=fun e=>
 (World.cell?_of_block (a:=⟨c,o,none⟩) (e.g.block c hc (fun he=>hne (zJ he)))).trans h
end Go.Proofs.YtjpgnfekbojcaaaGreat
