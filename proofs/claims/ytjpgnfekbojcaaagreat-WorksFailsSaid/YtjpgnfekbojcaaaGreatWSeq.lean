/- slices.Values,slices.Collect,slices.Sorted at[]int. -/
import Derived.Test.YtjpgnfekbojcaaaGreatWJob7
import Derived.RangeFuncBound
import Derived.RangeFuncLeaves
import Derived.Shelf.Abstract
import Derived.OwnWalkIn
import Derived.TacticsInMore
import Derived.LoopNIn
import Derived.LoopIn
import Derived.Test.YtjpgnfekbojcaaaGreatWFTw
set_option maxHeartbeats 4000000
set_option maxRecDepth 100000
namespace Go.Proofs.YtjpgnfekbojcaaaGreat
open Go.RowKit W7 W8
attribute [local go_sem] Oper.semAt_some
theorem values_seq (zs:List Int) (A:Option Addr) (Bs n0 n cap:Nat) (w0:World) (hn:n=zs.length) (hBs:Bs<w0.heap.size) (hn0:n0<=w0.heap.size) (hc:w0.cell? ⟨Bs,0,none⟩=some (.slice A n cap)) (hS:Sl w0 n0 1 encInt1 A zs) (hl:n<=100000) :
  SeqR Tryz.prog 131 #[.pointer (some ⟨Bs,0,none⟩)] (fun x:Int=> #[Value.int .i64 x]) (fun _ _=>True) (Below n0) (fun ys=>ys=zs) (fun pre=>pre <+: zs) zs.length w0:=by
 subst hn;intro l J Jx W hW hJ hJx hY h0;have hc':=(hW.cell (p:=⟨Bs,0,none⟩) hBs).trans hc;have HS:=hI (hS.below (hW.mono hn0));clear hc hS;refine(callsIn_wide (n:=1)).1 ?_;refine callsIn_of_wp Tryz.func131 rfl trivial ?_ rfl;simp only[Tryz.ntmps131,List.size_toArray,List.length_cons,List.length_nil,Nat.reduceAdd,Nat.reduceSub,Array.replicate_succ,Array.replicate_zero,List.push_toArray,List.append_toArray,List.nil_append,List.cons_append]
 gi_wp2
 gi_loopw [7] (fun i wr=>∃k:Nat,k<=zs.length/\i= .int .i64 k/\Hid (J (zs.take k) wr)/\Hid (Below n0 W wr)) (fun i _=>zs.length-(intOf i).toNat)
 case atStart=>exact⟨0,Nat.zero_le _,rfl,hI h0,hI (zX _ _)⟩
 case round=>
  obtain⟨k,hk,rfl,HJ,Hb⟩:=hrel
  by_cases hlt:k<zs.length
  ·obtain⟨b,off,rfl,hbB,hcells⟩:=(HS.o.below Hb.o) (by omega)
   have c0:wr.cell? ⟨b,off+k,none⟩=some (.int .i64 zs[k]):=by have h:=hcells k hlt 0 _ rfl;rwa [Nat.mul_one,Nat.add_zero] at h
   obtain⟨fn,tmps,assign,body,hy,hR⟩:=hY 0 (zs.take k) zs[k] wr HJ.o (by rw[List.length_take];omega) trivial;have HT:=hI (show zs.take (k+1)=zs.take k++[zs[k]] from zK hlt);generalize zs[k]=x at c0 hy hR HT;clear hcells
   gi_wp2
   refine hR.mono ?_;rintro e W3 (⟨rfl,hJ3,hk3⟩ | ⟨rfl,hJx3⟩)
   ·gi_wp2
    go_roundw;case rel=>exact⟨k+1,by omega,by simp,hI (by rw[HT.o];exact hJ3),hI (Hb.o.trans hk3)⟩
    case measure=>simp[intOf];omega
   ·gi_wp2
    refine bodyPost_ret (results_none rfl _ _ _) rfl ?_;exact⟨⟨_,rfl⟩,.inr ⟨_,by rw[<- HT.o];exact List.take_prefix _ _,hJx3⟩⟩
  ·have HE:=hI (show zs.take k=zs from zG (by omega))
   gi_wp2
   go_end0;exact⟨⟨_,rfl⟩,.inl ⟨_,rfl,by rw[HE.o] at HJ;exact HJ.o⟩⟩
def SeqI (B0:Nat) (W0:World) (pre:List Int) (W:World):Prop:=
 (∃v,W.cell? ⟨B0,0,none⟩=some v/\W.frozen? ⟨B0,0,none⟩=false/\W.ownsRow W0.heap.size 3 1 v pre.length (pre.map (Value.int .i64)))/\Below B0 W0 W
theorem seqI_own {B:Nat} {W0:World} (hB:B<W0.heap.size):OwnFrom W0.heap.size (SeqI B W0):=by
 rintro ys W W' row ⟨⟨v,h1,h2,h3⟩,hb⟩ hg hr;have hsz:=hb.size;have hne:some B≠row:=fun e=>by have:=(hr B e.symm).1;omega
 have hblk:=hg.block B (by omega) hne;refine⟨⟨v,by simp only[World.cell?] at h1 ⊢;rw[hblk];exact h1,by simp only[World.frozen?] at h2 ⊢;rw[hblk];exact h2,h3.kept hg ?_⟩,⟨hg.os.trans hb.os,hg.tape.trans hb.tape,hg.output.trans hb.output,Nat.le_trans hsz hg.size,fun i hi=>(hg.block i (by omega) (fun e=>by have:=(hr i e.symm).1;omega)).trans (hb.block i hi)⟩⟩;cases hv:v.ownBlock with
 | none=>exact .inl rfl
 | some k=>
  refine .inr fun e=> ?_
  obtain⟨cs,hc⟩:=owns_block h3 k hv;obtain⟨_,o,ho1,ho2⟩:=hr k e.symm;rw[hc] at ho1;cases ho1;simp[Obj.isCells] at ho2
theorem round_keptI {b n0:Nat} {W Wk W5:World} {base n e:Nat} {v u:Value} {xs:List Value} (hb:Bl W Wk) (ho:W.ownsRow base e 1 v n xs) (hg:Wk.grownBy W5 v.ownBlock) (h1:n0<=base) (h2:n0<=b) (h3:n0<=W.heap.size) :
  KeepsOthers W (W5.setCell ⟨b,0,none⟩ u)/\Below n0 W (W5.setCell ⟨b,0,none⟩ u):=by
 have hsz:W.heap.size<=W5.heap.size:=Nat.le_trans hb.size hg.size
 have key:∀k o,W.heap[k]? =some o->v.ownBlock≠some k->W5.heap[k]? =some o:=fun k o h1 h2=>by
  have hk:=(zT.1 h1).1;exact(hg.block k (by have:=hb.size;omega) (Ne.symm h2)).trans ((hb.block k hk).trans h1)
 constructor
 ·refine KeepsOthers.trans (B:=W5) ⟨hsz,fun k o h1 h2=>key k o h1 fun e=> ?_⟩ (KeepsOthers.setCell _ _ _);obtain⟨cs,hc⟩:=owns_block ho k e;rw[hc] at h1;cases h1;simp[Obj.isCells] at h2
 ·refine Below.setCell (p:=⟨b,0,none⟩) ?_ h2 _;exact(hb.mono h3).grown hg (by have:=hb.size;omega) (fun k hk=>by have:=(ho.lt k hk).1;omega)
theorem appendSeq_any (zs:List Int) (A:Option Addr) (Bs n0 n cap:Nat) (w:World) (hn:n=zs.length) (hBs:Bs<w.heap.size) (hn0:n0<=w.heap.size) (hc:w.cell? ⟨Bs,0,none⟩=some (.slice A n cap)) (hS:Sl w n0 1 encInt1 A zs) (hl:n<=100000) :
  Calls Tryz.prog 178 #[.slice none 0 0,.func (.func 131) #[] #[.pointer (some ⟨Bs,0,none⟩)]] w fun e w'=>∃v,e= .returned v/\w'.ownsRow w.heap.size 3 1 v zs.length (zs.map (Value.int .i64))/\Bl w w':=by
 subst hn;obtain⟨W0,hW0⟩:=eY (w.alloc (.cells #[.slice none 0 0] 26));have hs0:W0.heap.size=w.heap.size+1:=by rw[hW0];simp
 have hB0:Bl w W0:=by rw[hW0];exact(zX _ _).alloc (zm _) _
 have hd0:W0.cell? ⟨w.heap.size,0,none⟩=some (.slice none 0 0):=by rw[hW0];exact alloc_cell rfl
 have hf0:W0.frozen? ⟨w.heap.size,0,none⟩=false:=by rw[hW0];exact alloc_free
 refine(callsIn_wide (n:=9)).1 ?_;refine callsIn_of_wp_marks Tryz.func178 rfl trivial ?_ rfl;simp only[Tryz.ntmps178,List.size_toArray,List.length_cons,List.length_nil,Nat.reduceAdd,Nat.reduceSub,Array.replicate_succ,Array.replicate_zero,List.push_toArray,List.append_toArray,List.nil_append,List.cons_append]
 gi_wp2
 rw[<- hW0]
 refine wpIn_rangeFunc_R (gf:=131) rfl (enters_of Tryz.func131 (by kernel_rfl) rfl) (values_seq zs A Bs n0 zs.length cap W0 rfl (by omega) (by omega) ((hB0.cell (p:=⟨Bs,0,none⟩) hBs).trans hc) (hS.below (hB0.mono hn0)) hl) (fun h1 h2=>h1.trans h2) (fun W l o o' h1 h2 h3=>(zX n0 W).grown (grownBy_putObj' W l o') (by have:=(zT.1 h2).1;omega) (fun k e=>by cases e;omega)) (fun _ _ _ _ _ _ _ _ h=>h) (zX _ _) (fun _=>rfl)
  (SeqI w.heap.size W0) (fun _ _ _=>False) (seqI_own (by omega)) (fun _ _ _ _ _ h _ _=>h.elim) ⟨⟨_,hd0,hf0,zU _ _ _ _⟩,zX _ _⟩
  (fun x=>{ tmps:= #[.slice none 0 0,.func (.func 131) #[] #[.pointer (some ⟨Bs,0,none⟩)],.pointer (some ⟨w.heap.size,0,none⟩),undef,.slice none 0 0,.int .i64 x,.func (.func 131) #[] #[.pointer (some ⟨Bs,0,none⟩)],.int .i64 x,undef,undef,undef,undef,undef],defers:=[] }) ?assign ?body ?done ?stop
 case assign=>
  intro lp m x W K hK
  gi_wp2
  exact hK
 case stop=>intro D c pre W _ _ h;exact h.elim
 case done=>
  rintro D ys W hD rfl ⟨⟨v,hv1,hv2,hv3⟩,hb⟩ hK;have hDW:=(zT.1 hK).1
  have hne:some D≠v.ownBlock:=fun e=>by
   obtain⟨cs',hc'⟩:=owns_block hv3 D e.symm;rw[hc'] at hK;cases hK
  have Ho:=hI hv3;have Hb:=hI hb;have HK:=hI hK;obtain⟨Av,cv,rfl,_,_⟩:=own_cap' hv3;clear hv3 hb hK
  gi_wp2
  have Hfin:=hI (show((W.putObj D (.deferred none)).ownsRow W0.heap.size 3 1 (.slice Av ys.length cv) ys.length (ys.map (Value.int .i64))) from Ho.o.kept (grownBy_putObj' W D _) (by
   cases hv:(Value.slice Av ys.length cv).ownBlock with
   | none=>exact .inl rfl
   | some k=>exact .inr (fun e=>hne (by rw[hv];exact e.symm))))
  exact⟨by simp,.inl ⟨_,_,rfl,run_takeDeferred HK.o,by
   refine⟨_,results_tmp rfl _ _ _,_,rfl,own_mono Hfin.o (by omega),?_⟩;exact hB0.trans ((Hb.o.trans (belowK_b (w:=W0) (zm _) W D _ _ hD HK.o rfl rfl |>.mono (by omega))).mono (zm _))⟩⟩
 case body=>
  rintro lp m pre x W ⟨⟨v,hv1,hv2,hv3⟩,hb⟩ hlen _;have hbs:=hb.size;have Hv:=hI hv3;have Hb:=hI hb;obtain⟨Av,cv,rfl,_,_⟩:=own_cap' hv3;obtain⟨i0,hi,hz0,hz1,hz2⟩:=info_parts (show(Tryz.prog.info? 3).map (fun i=>(i.zero,i.size,i.bytes))=some (some (.int .i64 0),1,8) by kernel_rfl);clear hv3 hb hc hS hd0 hf0 hW0
  gi_wp2_with (gi_at_builtin;go_loud (refine wpListIn_append_own _ rfl _ _ 26 rfl W0.heap.size 3 i0 (.int .i64 0) 1 8 Tryz.underlying26 hi hz0 hz1 hz2 rfl (by decide) _ _ _ rfl (Hv.o.alloc _) ⟨W.heap.size,0,none⟩ 1 1 [.int .i64 x] rfl rfl (cell_one_new _ _ _) (by simp[Value.oneCell']) (by unfold maxLen;omega) (by omega) (by simp;omega) ?_;intro v' w1 hown' hgrow _;obtain⟨g',cap',rfl,_,_,_,_,_⟩:=owns_cells hown' (by omega);have hblk:=(hgrow.block w.heap.size (by simp;omega) (fun e=>by have:=(Hv.o.lt _ e.symm).1;omega)).trans (zP W _ w.heap.size (by omega));have Hr:=hI hown';have Hg:=hI hgrow;have x2:w1.cell? ⟨w.heap.size,0,none⟩=some (.slice Av pre.length cv):=(by simp only[World.cell?] at hv1 ⊢;rw[hblk];exact hv1);have x3:w1.frozen? ⟨w.heap.size,0,none⟩=false:=(by simp only[World.frozen?] at hv2 ⊢;rw[hblk];exact hv2);clear hown' hgrow hblk))
  have hro:=round_keptI (n0:=n0) (b:=w.heap.size) (u:= .slice (some ⟨g',0,none⟩) (pre.length+1) cap') ((zX W.heap.size W).alloc (zm _) (.cells #[.int .i64 x] 3)) Hv.o Hg.o (by omega) hn0 (by omega);have hsz:=Hg.o.size;refine⟨hro.1,hro.2,⟨_,World.cell?_setCell_same' _ _ _ (by rw[x2];rfl),by rw[World.frozen?_setCell];exact x3,?_⟩,?_⟩
  ·rw[zF,List.map_append];exact ownsRow_setCell_below Hr.o (by simp;omega) _
  ·exact((Hb.o.alloc (by omega) _).grown Hg.o (by simp;omega) (fun k e=>by have:=(Hv.o.lt k e).1;omega)).setCell (p:=⟨w.heap.size,0,none⟩) (zm _) _
theorem insNil_any (A:Option Addr) (c:Nat) (w:World):Calls Tryz.prog 201 #[.slice A 0 c,.int .i64 0,.int .i64 0] w fun e w'=>e= .returned (.tuple #[])/\w'=w:=by
 go_enter Tryz.func201,Tryz.ntmps201;go_wp2;refine wp_loop_rounds 1 ?_;rw[rounds_succ];go_wp2;go_end0;exact⟨rfl,rfl⟩
theorem pdqNil_any (A:Option Addr) (c:Nat) (k:Int) (w:World):Calls Tryz.prog 179 #[.slice A 0 c,.int .i64 0,.int .i64 0,.int .i64 k] w fun e w'=>e= .returned (.tuple #[])/\w'=w:=by
 go_enter Tryz.func179,Tryz.ntmps179;go_wp2;refine wp_loop_rounds 1 ?_;rw[rounds_succ];go_wp2_with (go_at_call 201;refine(insNil_any A c _).mono ?_;rintro e w' ⟨rfl,rfl⟩);refine bodyPost_ret (results_none rfl _ _ _) rfl ?_;exact⟨rfl,rfl⟩
theorem len0_any (w:World):Calls Tryz.prog 180 #[.int .u64 0] w fun e w'=>(∃k,e= .returned (.int .i64 k))/\w'=w:=by
 go_enter Tryz.func180,Tryz.ntmps180;go_wp2;go_ret;exact⟨⟨_,rfl⟩,rfl⟩
theorem sortNil_any (A:Option Addr) (c:Nat) (w:World):Calls Tryz.prog 130 #[.slice A 0 c] w fun e w'=>e= .returned (.tuple #[])/\w'=w:=by
 go_enter Tryz.func130,Tryz.ntmps130;go_wp2_with (first | (go_at_call 180;refine(len0_any _).mono ?_;rintro e w' ⟨⟨k,rfl⟩,rfl⟩) | (go_at_call 179;refine(pdqNil_any A c _ _).mono ?_;rintro e w' ⟨rfl,rfl⟩));go_end0;exact⟨rfl,rfl⟩
theorem collect_any (zs:List Int) (A:Option Addr) (Bs n0 n cap:Nat) (w:World) (hn:n=zs.length) (hBs:Bs<w.heap.size) (hn0:n0<=w.heap.size) (hc:w.cell? ⟨Bs,0,none⟩=some (.slice A n cap)) (hS:Sl w n0 1 encInt1 A zs) (hl:n<=100000) :
  Calls Tryz.prog 129 #[.func (.func 131) #[] #[.pointer (some ⟨Bs,0,none⟩)]] w fun e w'=>∃v,e= .returned v/\w'.ownsRow w.heap.size 3 1 v zs.length (zs.map (Value.int .i64))/\Bl w w':=by
 have H:=hI (appendSeq_any zs A Bs n0 n cap w hn hBs hn0 hc hS hl);clear hn hBs hn0 hc hS hl;go_enter Tryz.func129,Tryz.ntmps129;go_wp2_with (go_at_call 178;refine H.o.mono ?_;rintro e w1 ⟨v,rfl,ho,hb⟩;have Ho:=hI ho;have Hb:=hI hb;clear ho hb);go_ret;exact⟨_,rfl,Ho.o,Hb.o⟩
theorem sorted_any (zs:List Int) (A:Option Addr) (Bs n0 n cap:Nat) (w:World) (hn:n=zs.length) (hBs:Bs<w.heap.size) (hn0:n0<=w.heap.size) (hc:w.cell? ⟨Bs,0,none⟩=some (.slice A n cap)) (hS:Sl w n0 1 encInt1 A zs) (hl:n<=100000) :
  Calls Tryz.prog 58 #[.func (.func 131) #[] #[.pointer (some ⟨Bs,0,none⟩)]] w fun e w'=>∃v,e= .returned v/\w'.ownsRow w.heap.size 3 1 v zs.length ((sortI zs).map (Value.int .i64))/\Bl w w':=by
 have H:=hI (collect_any zs A Bs n0 n cap w hn hBs hn0 hc hS hl);have hzl:zs.length<=100000:=by omega
 clear hn hBs hn0 hc hS hl;go_enter Tryz.func58,Tryz.ntmps58;go_upto_region 2 with(go_at_call 129;refine H.o.mono ?_;rintro e w1 ⟨v,rfl,ho,hb⟩;have Ho:=hI ho;have Hb:=hI hb;clear ho hb)
 have hsz:=Hb.o.size;cases zs with
 | nil=>
  obtain⟨Av,cv,rfl,_,_⟩:=own_cap' Ho.o;go_wp2_with (go_at_call 130;refine(sortNil_any _ _ _).mono ?_;rintro e w' ⟨rfl,rfl⟩);go_ret;exact⟨_,rfl,Ho.o,Hb.o⟩
 | cons x l=>
  obtain⟨g,cap',rfl,hg,_,_,_,_⟩:=owns_cells Ho.o (by simp);have HSo:=hI (sortInt_any (x::l) w.heap.size g cap' w1 Ho.o hzl);go_wp2_with (go_at_call 130;refine HSo.o.mono ?_;rintro e w2 ⟨rfl,ho2,hg2⟩;have Ho2:=hI ho2;have Hb2:=hI (Hb.o.grown hg2 hsz (fun k hk=>by cases hk;exact hg));clear ho2 hg2);go_ret;exact⟨_,rfl,Ho2.o,Hb2.o⟩
end Go.Proofs.YtjpgnfekbojcaaaGreat
namespace W8
open W7
theorem sortI_nodup (l:List Int):(sortI l).Nodup↔l.Nodup:=(sortI_perm l).nodup_iff
theorem keeps_iff {l:List Int} {i:Nat} (hi:i<l.length):Go.Lib.keeps l.toArray i=true↔i=0\/l[i]≠l[i-1]'(by omega):=by
 unfold Go.Lib.keeps;rw[decide_eq_true_iff,getElem!_pos l.toArray i (by simpa using hi),getElem!_pos l.toArray (i-1) (by simp;omega)];simp
theorem compact_len {l:List Int} (hs:l.Pairwise (· <= ·)):(Go.Lib.compact l).length=l.length↔l.Nodup:=by
 constructor
 ·intro h;unfold Go.Lib.compact Go.Lib.compactUpTo at h;rw[List.length_map] at h;have h1:((List.range l.length).filter (Go.Lib.keeps l.toArray)).length=(List.range l.length).length:=by rw[h];simp
  rw[List.length_filter_eq_length_iff] at h1;rw[List.Nodup,List.pairwise_iff_getElem];intro i k hi hk hik he;rw[List.pairwise_iff_getElem] at hs;have h2:=(keeps_iff hk).1 (h1 k (List.mem_range.2 hk));have h3:l[k-1]<=l[k]:=hs (k-1) k (by omega) hk (by omega)
  have h4:l[i]<=l[k-1]'(by omega):=by
   by_cases e:i=k-1
   ·subst e;exact Int.le_refl _
   ·exact hs i (k-1) hi (by omega) (by omega)
  rcases h2 with h2 | h2
  ·omega
  ·omega
 ·intro h;rw[Go.Lib.compact_all l (fun i hi=>(keeps_iff hi).2 ?_)]
  by_cases h0:i=0
  ·exact .inl h0
  ·right
   intro he;rw[List.Nodup,List.pairwise_iff_getElem] at h;exact h (i-1) i (by omega) hi (by omega) he.symm
theorem any_perm {p:Int->Bool} {l l':List Int} (h:l.Perm l'):l.any p=l'.any p:=by
 rw[Bool.eq_iff_iff,List.any_eq_true,List.any_eq_true];exact⟨fun⟨x,hx,hp⟩=>⟨x,h.mem_iff.1 hx,hp⟩,fun⟨x,hx,hp⟩=>⟨x,h.mem_iff.2 hx,hp⟩⟩
theorem perm_false_len {order:List Int} {n:Nat} (h:order.length≠n):permB order n=false:=by
 unfold permB;rw[zE h];rfl
theorem perm_false_any {order:List Int} {n:Nat} (hl:order.length=n) (h:(sortI order).any (fun x=> !withinB x 0 ((n:Int)-1))=true):permB order n=false:=by
 unfold permB;rw[zD hl]
 have:order.all (fun k=>withinB k 0 ((n:Int)-1))=false:=by
  rw[any_perm (sortI_perm order),List.any_eq_true] at h;obtain⟨x,hx,hp⟩:=h;rw[Bool.eq_false_iff];intro ha;rw[List.all_eq_true] at ha;rw[ha x hx] at hp;cases hp
 rw[this]
 rfl
theorem perm_rest {order:List Int} {n:Nat} (hl:order.length=n) (h:(sortI order).any (fun x=> !withinB x 0 ((n:Int)-1))=false):permB order n=decide ((Go.Lib.compact (sortI order)).length=n):=by
 unfold permB;rw[zD hl]
 have:order.all (fun k=>withinB k 0 ((n:Int)-1))=true:=by
  rw[any_perm (sortI_perm order),List.any_eq_false] at h;rw[List.all_eq_true];intro x hx;have:=h x hx
  simpa using this
 rw[this];simp only[Bool.and_self,Bool.true_and];rw[<- hl,<-sortI_length order];exact decide_eq_decide.2 ((sortI_nodup order).symm.trans (compact_len (sortI_sorted order)).symm)
end W8
namespace Go.Proofs.YtjpgnfekbojcaaaGreat
open Go.RowKit Go.Shelf Go.Sort W7 W8
theorem grown_putRow {w:World} {g m:Nat} {d:Array Int}:w.grownBy (putRow (Value.int .i64) (Sort.ahead w m) g 0 d) (some g):=by
 refine⟨rfl,rfl,rfl,by simp[putRow,mapBlock,Sort.ahead],fun i hi hne=> ?_⟩;have:g≠i:=fun e=>hne (by rw[e])
 simp[putRow,mapBlock,Sort.ahead,Array.getElem?_modify,this]
theorem compactI_any (l:List Int) (base:Nat) (v:Value) (w:World) (hown:w.ownsRow base 3 1 v l.length (l.map (Value.int .i64))) (hl:l.length<=100000) :
  Calls Tryz.prog 63 #[v] w fun e w'=>(∃A c,e= .returned (.slice A (Lib.compact l).length c)/\(Lib.compact l).length<=c/\c<=9223372036854775807)/\w.grownBy w' v.ownBlock:=by
 cases l with
 | nil=>
  obtain⟨A,c,rfl,h1,h2⟩:=own_cap' hown;have hcon:=Any.slices_Compact_int_empty Tryz.compactInt A c w
  change Calls Tryz.prog 63 _ _ _ at hcon
  refine hcon.mono fun e w' ⟨he,hw⟩=>⟨⟨A,c,he,h1,h2⟩,by rw[hw];exact World.grownBy.refl _ _⟩
 | cons x l=>
  obtain⟨g,cap',rfl,hg,hgw,hnc,hcap,_⟩:=owns_cells hown (by simp);have hcon:=Any.slices_Compact_int Tryz.compactInt g 0 cap' (x::l) w (holds_own1 hown) (by omega) hnc
  change Calls Tryz.prog 63 _ _ _ at hcon
  refine hcon.mono fun e w' ⟨he,q,hw⟩=>⟨⟨_,cap',he,?_,hcap⟩,?_⟩
  ·have:(Lib.compact (x::l)).length<=(x::l).length:=by
    unfold Lib.compact Lib.compactUpTo;rw[List.length_map];have:=List.length_filter_le (Lib.keeps (x::l).toArray) (List.range (x::l).length)
    simpa using this
   omega
  ·rw[hw];exact grown_putRow
end Go.Proofs.YtjpgnfekbojcaaaGreat
namespace W8
open Go
def Res.putOff (r:Res) (off:List JSpan) (A:Option Addr) (c:Nat):Res:=⟨{ r.p with off:=off },A,c⟩
def Job.putOff (j:Job) (q:Nat) (off:List JSpan) (A:Option Addr) (c:Nat):Job:={ j with res:=j.res.set q ((j.R q).putOff off A c) }
end W8
namespace Go.Proofs.YtjpgnfekbojcaaaGreat
open Go.RowKit W7 W8
theorem sl_own {X:World} {base e k n c:Nat} {A:Option Addr} {α:Type} {enc:α->List Value} {xs:List α} (h:X.ownsRow base e k (.slice A n c) n (xs.flatMap enc)) (hk:∀x,(enc x).length=k) (hk0:0<k):Sl X X.heap.size k enc A xs:=fun h0=>by
 have hl:(xs.flatMap enc).length=xs.length*k:=by
  clear h h0
  induction xs with
  | nil=>simp
  | cons a r ih=>rw[List.flatMap_cons,zF,ih,hk,List.length_cons,Nat.succ_mul];omega
 have hn:n*k=xs.length*k:=by rw[<- hl];exact h.1.symm
 have hnx:n=xs.length:=Nat.eq_of_mul_eq_mul_right hk0 hn
 obtain⟨g,rfl⟩:∃g,A=some ⟨g,0,none⟩:=by
  rcases h.2 with⟨e0,h1⟩ | ⟨g,cap,cur,e0,_⟩
  ·omega
  ·injection e0 with e1 _ _;exact⟨g,e1⟩
 refine⟨g,0,rfl,(h.lt g rfl).2,fun i hi m v hv=> ?_⟩;have hm:m<k:=by have:=(List.getElem?_eq_some_iff.1 hv).1;rwa [hk] at this
 have h2:(xs.flatMap enc)[i*k+m]? =some v:=by rw[flatMap_get hk xs i m hi hm];exact hv
 have h3:i*k+m<n*k:=by
  rw[hn];have:(i+1)*k<=xs.length*k:=Nat.mul_le_mul_right k hi;rw[Nat.add_mul] at this;omega
 rw[Nat.zero_add];exact(h.cellAt _ h3).trans h2
theorem lenT:∀t:Task,(encTask t).length=4:=fun _=>rfl
theorem lenR:∀t:Res,(encRes t).length=3:=fun _=>rfl
theorem own_caps {X:World} {base e k n c:Nat} {A:Option Addr} {xs:List Value} (h:X.ownsRow base e k (.slice A n c) n xs):n<=c/\c<=9223372036854775807:=by
 obtain⟨A',c',e1,h1,h2⟩:=own_cap' h
 injection e1 with _ _ e3
 subst e3;exact⟨h1,h2⟩
theorem JOwn.jin {X:World} {base:Nat} {j:Job} (h:JOwn X base j):JIn X X.heap.size j:=
 ⟨sl_own h.tk.row lenT (by omega),sl_own h.rs.row lenR (by omega),(own_caps h.tk.row).1,(own_caps h.tk.row).2,(own_caps h.rs.row).1,(own_caps h.rs.row).2,
  fun t ht=>⟨(h.tk.tk t ht).nm,sl_own (h.tk.tk t ht).ns lenI (by omega),sl_own (h.tk.tk t ht).us lenU (by omega),(own_caps (h.tk.tk t ht).ns).1,(own_caps (h.tk.tk t ht).ns).2,(own_caps (h.tk.tk t ht).us).1,(own_caps (h.tk.tk t ht).us).2⟩,
  fun r hr=>⟨(h.rs.rs r hr).nm,sl_own (h.rs.rs r hr).os lenP (by omega),(own_caps (h.rs.rs r hr).os).1,(own_caps (h.rs.rs r hr).os).2⟩⟩
theorem JOwn.below {X Y:World} {base:Nat} {j:Job} (h:JOwn X base j) (hb:Bl X Y):JOwn Y base j:=
 ⟨⟨own_below h.tk.row hb,fun t ht=>⟨own_below (h.tk.tk t ht).ns hb,own_below (h.tk.tk t ht).us hb,(h.tk.tk t ht).nm⟩⟩,⟨own_below h.rs.row hb,fun r hr=>⟨own_below (h.rs.rs r hr).os hb,(h.rs.rs r hr).nm⟩⟩⟩
theorem JOwn.setB {X:World} {base b k:Nat} {j:Job} (h:JOwn X base j) (hb:b<base) (u:Value):JOwn (X.setCell ⟨b,k,none⟩ u) base j:=
 ⟨⟨ownsRow_setCell_below h.tk.row hb u,fun t ht=>⟨ownsRow_setCell_below (h.tk.tk t ht).ns hb u,ownsRow_setCell_below (h.tk.tk t ht).us hb u,(h.tk.tk t ht).nm⟩⟩,⟨ownsRow_setCell_below h.rs.row hb u,fun r hr=>⟨ownsRow_setCell_below (h.rs.rs r hr).os hb u,(h.rs.rs r hr).nm⟩⟩⟩
theorem own_nil0 {w:World} {base e size n c:Nat} {A:Option Addr} {xs:List Value} (h:w.ownsRow base e size (.slice A n c) n xs) (hA:A=none):n=0/\c=0:=by
 subst hA;rcases h.2 with⟨e0,_⟩ | ⟨g,cap,cur,e0,_⟩
 ·cases e0;exact⟨rfl,rfl⟩
 ·cases e0
theorem encRs_set:∀(l:List Res) (i:Nat) (_:i<l.length) (off:List JSpan) (A:Option Addr) (c:Nat),(l.flatMap encRes).set (i*3+2) (.slice A off.length c)=(l.set i ((l.getD i default).putOff off A c)).flatMap encRes
 | [],_,h,_,_,_=>absurd h (by simp)
 | x::l,0,_,off,A,c=>rfl
 | x::l,i+1,h,off,A,c=>by
  have ih:=encRs_set l i (by simpa using h) off A c
  show([Value.string x.p.name,.int .i64 x.p.many,.slice x.OA x.p.off.length x.oc]++l.flatMap encRes).set ((i+1)*3+2) _=[Value.string x.p.name,.int .i64 x.p.many,.slice x.OA x.p.off.length x.oc]++(l.set i _).flatMap encRes
  rw[show(i+1)*3+2=(i*3+2)+1+1+1 by omega];simp only[List.cons_append,List.nil_append,List.set_cons_succ];rw[ih];rfl
theorem JOwn.put {X:World} {base q g c:Nat} {j:Job} {off:List JSpan} {A:Option Addr} (h:JOwn X base j) (hq:q<j.res.length) (hg:j.RA=some ⟨g,0,none⟩) (ho:X.ownsRow base 50 2 (.slice A off.length c) off.length (off.flatMap encJSpan)) :
  JOwn (X.setCell ⟨g,q*3+2,none⟩ (.slice A off.length c)) base (j.putOff q off A c):=by
 have hr:=h.rs.row;rw[hg] at hr;obtain⟨cs,hcs⟩:=owns_block hr g rfl;have hk:∀ {e k m:Nat} {u:Value} {xs:List Value},X.ownsRow base e k u m xs->e≠43->(X.setCell ⟨g,q*3+2,none⟩ (.slice A off.length c)).ownsRow base e k u m xs:=fun h hne=>own_setK h hcs (Ne.symm hne) _
 refine⟨⟨hk h.tk.row (by decide),fun t ht=>⟨hk (h.tk.tk t ht).ns (by decide),hk (h.tk.tk t ht).us (by decide),(h.tk.tk t ht).nm⟩⟩,⟨?_,fun r hr'=> ?_⟩⟩
 ·obtain⟨h1,_⟩:=hr.stored (q*3+2) (.slice A off.length c);rw[encRs_set _ _ hq] at h1
  show(X.setCell ⟨g,q*3+2,none⟩ (.slice A off.length c)).ownsRow base 43 3 (.slice j.RA (j.res.set q _).length j.rc) (j.res.set q _).length _
  rw[List.length_set,hg];exact h1
 ·rcases List.mem_or_eq_of_mem_set hr' with h1 | h1
  ·exact⟨hk (h.rs.rs r h1).os (by decide),(h.rs.rs r h1).nm⟩
  ·rw[h1];exact⟨hk ho (by decide),(h.rs.rs _ (j.R_mem hq)).nm⟩
theorem putOff_p {j:Job} {q c:Nat} {off:List JSpan} {A:Option Addr}:(j.putOff q off A c).p=⟨j.p.tasks,j.p.res.set q { j.p.res.getD q default with off:=off }⟩:=by
 unfold Job.putOff Job.p;simp only[List.map_set]
 congr 2
 have:=j.pR q;unfold Job.p at this;simp only at this;rw[this]
 rfl
end Go.Proofs.YtjpgnfekbojcaaaGreat
