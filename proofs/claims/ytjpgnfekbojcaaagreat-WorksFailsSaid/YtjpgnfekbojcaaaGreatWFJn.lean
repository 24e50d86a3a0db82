/- A span among others (joined). -/
import Derived.Test.YtjpgnfekbojcaaaGreatWFCl
import Derived.Test.YtjpgnfekbojcaaaGreatWJSpec2
set_option maxHeartbeats 8000000
set_option maxRecDepth 100000
namespace W8
open W7
theorem spLe_anti (a b:JSpan) (h1:spLe a b=true) (h2:spLe b a=true):a=b:=by
 obtain⟨al,ah⟩:=a;obtain⟨bl,bh⟩:=b;simp[spLe] at h1 h2;rw[JSpan.mk.injEq];omega
theorem insS_perm (x:JSpan):∀l:List JSpan,(insS x l).Perm (x::l)
 | []=>List.Perm.refl _
 | y::l=>by
  unfold insS
  split
  ·exact List.Perm.refl _
  ·exact((insS_perm x l).cons y).trans (List.Perm.swap x y l)
theorem sortS_perm:∀l:List JSpan,(sortS l).Perm l
 | []=>List.Perm.refl _
 | x::l=>(insS_perm x (sortS l)).trans ((sortS_perm l).cons x)
theorem spLe_trans {a b c:JSpan} (h1:spLe a b=true) (h2:spLe b c=true):spLe a c=true:=by
 simp[spLe] at *;omega
theorem insS_sorted (x:JSpan):∀l:List JSpan,l.Pairwise (fun a b=>spLe a b=true)->(insS x l).Pairwise (fun a b=>spLe a b=true)
 | [],_=>by simp[insS]
 | y::l,h=>by
  have h1:=List.pairwise_cons.1 h;unfold insS
  split
  ·rename_i hxy
   refine List.pairwise_cons.2 ⟨fun a ha=> ?_,h⟩;rcases List.mem_cons.1 ha with rfl | ha
   ·exact hxy
   ·exact spLe_trans hxy (h1.1 a ha)
  ·rename_i hxy
   refine List.pairwise_cons.2 ⟨fun a ha=> ?_,insS_sorted x l h1.2⟩;rcases List.mem_cons.1 ((insS_perm x l).mem_iff.1 ha) with rfl | ha
   ·simp[spLe] at hxy ⊢;omega
   ·exact h1.1 a ha
theorem sortS_sorted:∀l:List JSpan,(sortS l).Pairwise (fun a b=>spLe a b=true)
 | []=>List.Pairwise.nil
 | x::l=>insS_sorted x _ (sortS_sorted l)
theorem sortS_eq {l l':List JSpan} (hp:l'.Perm l) (hs:l'.Pairwise (fun a b=>spLe a b=true)):l'=sortS l:=
 perm_pair_eq spLe_anti (hp.trans (sortS_perm l).symm) hs (sortS_sorted l)
theorem join_nil (x:JSpan) (l:List JSpan):joinGo [] (x::l)=joinGo [x] l:=by simp[joinGo]
theorem join_new {o:List JSpan} {X x:JSpan} {l:List JSpan} (h: ¬x.lo<=X.hi+1):joinGo (o++[X]) (x::l)=joinGo (o++[X]++[x]) l:=by
 simp only[joinGo];rw[if_neg];simp[zA];omega
theorem join_old {o:List JSpan} {X x:JSpan} {l:List JSpan} (h:x.lo<=X.hi+1):joinGo (o++[X]) (x::l)=joinGo (o++[⟨X.lo,max X.hi x.hi⟩]) l:=by
 have e:(o++[X]).getD ((o++[X]).length-1) default=X:=by simp[zA]
 simp only[joinGo];rw[e,if_pos ⟨by simp,h⟩,List.dropLast_concat]
theorem set_last {o:List JSpan} {X Y:JSpan}:(o++[X]).set o.length Y=o++[Y]:=by simp
end W8
namespace Go.Proofs.YtjpgnfekbojcaaaGreat
open Go.RowKit Go.Shelf Go.Sort W7 W8
attribute [local go_sem] Oper.semAt_some
def BJ:Type:={ s:JSpan // 0<=s.lo/\s.lo<=1000000/\0<=s.hi/\s.hi<=1000000 }
instance:Inhabited BJ:=⟨⟨⟨0,0⟩,by decide⟩⟩
def encBJ (s:BJ):List Value:=encJSpan s.1
def cmpBJ (x y:BJ):Int:=if x.1.lo-y.1.lo=0 then x.1.hi-y.1.hi else x.1.lo-y.1.lo
theorem joined1_any (x y:BJ) (W:World) :
  Calls Tryz.prog 144 #[.agg #[.int .i64 x.1.lo,.int .i64 x.1.hi],.agg #[.int .i64 y.1.lo,.int .i64 y.1.hi]] W fun e w'=>e= .returned (.int .i64 (cmpBJ x y))/\∃q os',w'=grow (W.drewN q) os':=by
 unfold cmpBJ;obtain⟨⟨xl,xh⟩,h1,h2,h5,h6⟩:=x;obtain⟨⟨yl,yh⟩,h3,h4,h7,h8⟩:=y;simp only at h1 h2 h3 h4 h5 h6 h7 h8 ⊢;have h10:=fun(w:World) (u v:Value) (t:TypeId) (k:Nat) (hk:w.heap.size=k)=>show(w.alloc (.cells #[u,v] t)).cell? ⟨k,0,none⟩=some u by rw[<- hk];exact alloc_cell rfl
 have h11:=fun(w:World) (u v:Value) (t:TypeId) (k:Nat) (hk:w.heap.size=k)=>show(w.alloc (.cells #[u,v] t)).cell? ⟨k,1,none⟩=some v by rw[<- hk];exact alloc_cell rfl
 obtain⟨cv,hcv⟩:=eX (if xl-yl=0 then xh-yh else xl-yl);have HOr:=hI (fun(b c:Nat) (w:World) (g0:w.cell? ⟨b,0,none⟩=some (.int .i64 (xl-yl))) (g1:w.cell? ⟨b,1,none⟩=some (.int .i64 (xh-yh)))=>show Calls Tryz.prog 125 #[.slice (some ⟨b,0,none⟩) 2 c] w (fun e w'=>e= .returned (.int .i64 cv)/\w'=w) from by rw[<- hcv];exact cmpOr_any (xl-yl) (xh-yh) b c w g0 g1);have H10:=hI h10;have H11:=hI h11;rw[hcv];clear h10 h11 hcv;go_enter Tryz.func144,Tryz.ntmps144;go_wp2_with (go_at_call 125;refine(HOr.o _ _ _ (H10.o _ _ _ _ _ (by simp)) (H11.o _ _ _ _ _ (by simp))).mono ?_;rintro e w' ⟨rfl,rfl⟩);go_ret;exact⟨rfl,0,_,by rw[alloc_eq_grow,alloc_eq_grow,alloc_eq_grow,grow_grow,grow_grow];rfl⟩
theorem ltBJ (x y:BJ):ltOf cmpBJ x y=decide (x.1.lo<y.1.lo\/(x.1.lo=y.1.lo/\x.1.hi<y.1.hi)):=by
 unfold ltOf cmpBJ;rw[decide_eq_decide]
 split<;>omega
theorem swoBJ:SWO (ltOf cmpBJ) where
 irrefl x:=by rw[ltBJ];simp
 trans x y z h1 h2:=by
  rw[ltBJ,decide_eq_true_eq] at *;omega
 ntrans x y z h1 h2:=by
  rw[ltBJ,decide_eq_false_iff_not] at *;omega
theorem perm_sorted {α:Type} [Inhabited α] {lt:α->α->Bool} {l:List α} {d':Array α} (hp:PermIn 0 l.toArray.size l.toArray d') (hs:SortedIn lt 0 l.toArray.size d') :
  d'.toList.Perm l/\d'.toList.Pairwise fun a b=>lt b a=false:=by
 obtain⟨hz,_,hp⟩:=hp;have e1:d'.extract 0 l.toArray.size=d':=by rw[<- hz];exact Array.extract_size
 have e2:l.toArray.extract 0 l.toArray.size=l.toArray:=Array.extract_size;rw[e1,e2] at hp;refine⟨hp,?_⟩;rw[List.pairwise_iff_getElem];intro i j hi hj hij;have h:=hs i j (Nat.zero_le _) hij (by simpa [hz] using hj);simp only[Array.length_toList] at hi hj;rw[getElem!_pos d' j hj,getElem!_pos d' i hi] at h
 simpa using h
def bjVal (x:BJ):JSpan:=x.1
theorem toBJ {xs:List JSpan} (h:∀s∈xs,0<=s.lo/\s.lo<=1000000/\0<=s.hi/\s.hi<=1000000):∃L:List BJ,L.map bjVal=xs:=by
 induction xs with
 | nil=>exact⟨[],rfl⟩
 | cons x xs ih=>
  obtain⟨L,hL⟩:=ih fun y hy=>h y (by simp[hy])
  exact⟨⟨x,h x (by simp)⟩::L,by show x::L.map bjVal=x::xs;rw[hL]⟩
theorem flat_bj (L:List BJ):L.flatMap encBJ=(L.map bjVal).flatMap encJSpan:=by
 induction L with
 | nil=>rfl
 | cons x L ih=>show encJSpan x.1++L.flatMap encBJ=encJSpan x.1++(L.map bjVal).flatMap encJSpan;rw[ih]
theorem sortSpans_any (sp:List JSpan) (hb:∀s∈sp,0<=s.lo/\s.lo<=1000000/\0<=s.hi/\s.hi<=1000000) (hl:sp.length<=100000) (base g cap:Nat) (w:World) (hown:w.ownsRow base 50 2 (.slice (some ⟨g,0,none⟩) sp.length cap) sp.length (sp.flatMap encJSpan)) :
  Calls Tryz.prog 143 #[.slice (some ⟨g,0,none⟩) sp.length cap,.func (.func 144) #[] #[]] w fun e w'=>e= .returned (.tuple #[])/\w'.ownsRow base 50 2 (.slice (some ⟨g,0,none⟩) sp.length cap) sp.length ((sortS sp).flatMap encJSpan)/\w.grownBy w' (some g):=by
 obtain⟨l,rfl⟩:=toBJ hb;have hL:(l.map bjVal).length=l.length:=List.length_map _;rw[hL] at hown hl ⊢;rw[<- flat_bj] at hown;have eg:∀args w,(callFunc 144 args).run Tryz.prog w= .ok (.enter 144 args) w:=enters_of Tryz.func144 (by kernel_rfl) rfl
 have hcon:=AnyQ.slices_SortFunc Tryz.sortSpan 2 Tryz.isAgg50 Tryz.sizeOf50 encBJ (fun _=>rfl) (fun x v hv=>by simp[encBJ,encJSpan] at hv;rcases hv with rfl | rfl<;>rfl) cmpBJ swoBJ 144 #[] g 0 cap l.toArray w eg
  (fun _ _ _ _ x y=>joined1_any x y _) (holdsK_of_own (enc:=encBJ) (k:=2) (fun _=>rfl) (by omega) hown) (hown.lt g rfl).2 (by rw[List.size_toArray];omega)
 change Calls Tryz.prog 143 _ _ _ at hcon
 rw[List.size_toArray] at hcon;refine hcon.mono fun e w' ⟨he,d',n,os,hp,hs,hw⟩=>⟨he,?_⟩
 obtain⟨h1,h2⟩:=perm_sorted hp hs
 have hso:d'.toList.map bjVal=sortS (l.map bjVal):=sortS_eq (h1.map _) (List.pairwise_map.2 (h2.imp (fun{a b} h=>by
  rw[ltBJ,decide_eq_false_iff_not] at h
  show spLe a.1 b.1=true
  simp only[spLe,Bool.or_eq_true,zY,decide_eq_true_eq];omega)))
 rw[hw];have:=own_of_sorted (enc:=encBJ) (k:=2) (fun _=>rfl) (by omega) (m:=n) (os:=os) hown h1.length_eq;rw[<- hso,<-flat_bj];exact⟨by simpa using this,grown_of_sorted⟩
theorem spans_snoc (l:List JSpan) (x:JSpan):(l++[x]).flatMap encJSpan=l.flatMap encJSpan++[.int .i64 x.lo,.int .i64 x.hi]:=by rw[List.flatMap_append];rfl
theorem own_cellsP {w:World} {base g cap n e:Nat} {l:List JSpan} (h:w.ownsRow base e 2 (.slice (some ⟨g,0,none⟩) n cap) n (l.flatMap encJSpan)) {i:Nat} (hi:i<l.length) :
  w.cell? ⟨g,i*2,none⟩=some (.int .i64 l[i].lo)/\w.cell? ⟨g,i*2+1,none⟩=some (.int .i64 l[i].hi):=by
 have hn:n*2=l.length*2:=by have:=h.1;rw[flat_lenP] at this;omega
 exact⟨(h.cellAt _ (by omega)).trans (flatMap_get (enc:=encJSpan) (k:=2) lenP l i 0 hi (by omega)),(h.cellAt _ (by omega)).trans (flatMap_get (enc:=encJSpan) (k:=2) lenP l i 1 hi (by omega))⟩
theorem spans_set:∀(l:List JSpan) (i:Nat) (hi:i<l.length) (b:Int),(l.flatMap encJSpan).set (i*2+1) (.int .i64 b)=(l.set i ⟨l[i].lo,b⟩).flatMap encJSpan
 | [],_,h,_=>absurd h (by simp)
 | x::l,0,_,b=>rfl
 | x::l,i+1,h,b=>by
  have ih:=spans_set l i (by simpa using h) b
  show([Value.int .i64 x.lo,.int .i64 x.hi]++l.flatMap encJSpan).set ((i+1)*2+1) _=[Value.int .i64 x.lo,.int .i64 x.hi]++(l.set i _).flatMap encJSpan
  rw[show(i+1)*2+1=(i*2+1)+1+1 by omega];simp only[List.cons_append,List.nil_append,List.set_cons_succ];rw[ih];rfl
theorem own_putP {w:World} {base g cap n e:Nat} {l:List JSpan} (h:w.ownsRow base e 2 (.slice (some ⟨g,0,none⟩) n cap) n (l.flatMap encJSpan)) {i:Nat} (hi:i<l.length) (b:Int) :
  (w.setCell ⟨g,i*2+1,none⟩ (.int .i64 b)).ownsRow base e 2 (.slice (some ⟨g,0,none⟩) n cap) n ((l.set i ⟨l[i].lo,b⟩).flatMap encJSpan):=by
 obtain⟨h1,_⟩:=h.stored (i*2+1) (.int .i64 b);rw[spans_set l i hi] at h1;exact h1
theorem joined_any (l:List JSpan) (s:JSpan) (A:Option Addr) (n c B:Nat) (w:World) (hn:n=l.length) (hA:Sl w B 2 encJSpan A l) (hB:B<=w.heap.size) (hz:A=none->n=0/\c=0) (hl:n<=1000)
  (hb:∀x∈l++[s],0<=x.lo/\x.lo<=1000000/\0<=x.hi/\x.hi<=1000000) :
  Calls Tryz.prog 72 #[.slice A n c,.agg #[.int .i64 s.lo,.int .i64 s.hi]] w fun e w'=>∃v,e= .returned v/\w'.ownsRow w.heap.size 50 2 v (joinedV l s).length ((joinedV l s).flatMap encJSpan)/\Bl w w':=by
 obtain⟨W0,HW0,hs0,HB0,HX00,HU0⟩:=boxes1 w (.cells #[.int .i64 s.lo,.int .i64 s.hi] 50);have Hn:=hI hn;have Hz:=hI hz;have HA:=hI (show ∀X,Bl W0 X->Sl X X.heap.size 2 encJSpan A l from fun X hX=>(hA.below ((HU0.o X hX).mono hB)).mono (by have:=hX.size;omega));have HB':=hI hb;have HJ:=hI (show joinedV l s=joinGo [] (sortS (l++[s])) from rfl);generalize joinedV l s=J at HJ ⊢;have hmx:=max_run Tryz.prog;clear hn hz hA hb;go_enter Tryz.func72,Tryz.ntmps72;go_upto_region 1 with fail;rw[<- HW0.o];have hgd:=HX00.o W0 (zX _ _)
 go_cut [5] (fun v5 wx=>∃(A2:Option Addr) (c2:Nat),v5= .slice A2 (n+1) c2/\Hid (wx.ownsRow W0.heap.size 50 2 (.slice A2 (n+1) c2) (n+1) ((l++[s]).flatMap encJSpan))/\Hid (Bl W0 wx))
 case first=>
  have y0:=zV (kC 0 hgd rfl) (by omega);have y1:=zV (kC 1 hgd rfl) (by omega);clear hgd;have HCl:=hI (fun(X:World) (hX:Bl W0 X)=>cloneP_any l A n c X Hn.o (HA.o X hX) Hz.o (by omega));obtain⟨C,hC⟩:∃C:(Nat->Bool)->(Nat->Value)->World->Prop,C=fun L V w'=>∃e:Later W0,w'=e.w/\(L 0=true->V 0= .slice A n c)/\(L 1=true->L 4=false->Hid (e.w.ownsRow W0.heap.size 50 2 (V 1) n (l.flatMap encJSpan)))/\(L 2=true->V 2= .agg #[.int .i64 s.lo,.int .i64 s.hi])/\(L 3=true->L 4=false->Hid (∃gb,V 3= .slice (some ⟨gb,0,none⟩) 1 1/\BlkAt W0 e.w gb (#[.int .i64 s.lo,.int .i64 s.hi]:Array Value).toList))/\(L 4=true->Hid (e.w.ownsRow W0.heap.size 50 2 (V 4) (n+1) (l.flatMap encJSpan++(#[.int .i64 s.lo,.int .i64 s.hi]:Array Value).toList))):=⟨_,rfl⟩
  have HC:=hI hC;clear hC;refine wp_region_slots 5 [10,11,12,13,14] C (by kernel_rfl) (by kernel_rfl) (by kernel_rfl) (by kernel_rfl) (by decide) (by kernel_rfl) ?_ ?_ ?_
  ·rw[HC.o];exact⟨⟨_,(zX W0.heap.size W0).drew⟩,rfl,nff,nff,nff,nff,nff⟩
  ·rintro L V w' i o hi ho hLi haf hInv;rw[HC.o] at hInv;obtain⟨e,rfl,h0,h1,h2,h3,h4⟩:=hInv;have hse:W0.heap.size<=e.w.heap.size:=e.b.size;rcases i with _ | _ | _ | _ | _ | i;case succ.succ.succ.succ.succ=>omega
   all_goals (simp only[zR,zS,Option.some.injEq] at ho;subst ho;simp only[putAll])
   ·go_wp2;rw[HC.o];refine⟨upd V 0 _,rfl,?_⟩;exact⟨e,rfl,fun _=>rfl,h1,h2,h3,h4⟩
   ·rw[h0 (haf ⟨0,.data⟩ (by simp) rfl)];go_wp2_with (go_at_call 142;refine(HCl.o e.w e.b).mono ?_;rintro r w2 ⟨v,rfl,ho2,hb2⟩);rw[HC.o];refine⟨upd (upd V 0 _) 1 _,rfl,?_⟩;exact⟨⟨w2,e.b.trans (hb2.mono e.b.size)⟩,rfl,fun _=>rfl,fun _ _=>hI (own_mono ho2 hse),h2,fun y y2=>(by obtain⟨gb,p1,p2⟩:=(h3 y y2).out;exact hI ⟨gb,p1,p2.below hb2⟩),fun y=>hI (own_below (h4 y).out hb2)⟩
   ·go_wp2;rw[HC.o];refine⟨upd V 2 _,rfl,?_⟩;exact⟨e,rfl,h0,h1,fun _=>rfl,h3,h4⟩
   ·rw[h2 (haf ⟨2,.data⟩ (by simp) rfl)];go_wp2;rw[HC.o];refine⟨upd (upd V 2 _) 3 _,rfl,?_⟩;exact⟨⟨_,e.b.alloc hse (.cells (#[.int .i64 s.lo,.int .i64 s.hi]:Array Value) 50)⟩,rfl,h0,fun y y2=>hI ((h1 y y2).out.alloc _),fun _=>rfl,fun _ _=>hI ⟨_,rfl,BlkAt.new hse⟩,fun y=>hI ((h4 y).out.alloc _)⟩
   ·have ho0:=(h1 (haf ⟨1,.data⟩ (by simp) rfl) hLi).out;obtain⟨gb,hgb,hnb⟩:=(h3 (haf ⟨3,.data⟩ (by simp) rfl) hLi).out;have HS:=hI (hnb.src (size:=2) rfl);rw[hgb];generalize V 1=v1 at ho0;go_wp2_with (at_builtin;refine wpList_appendL rfl _ _ 41 rfl W0.heap.size 50 _ 2 16 elemP _ _ _ rfl ho0 _ 1 _ _ rfl HS.o (by simp[Value.oneCell']) (by omega) (by omega) ?_;intro v6 w6 hown6 hb6 hsz6 hg6 hblk6;have HF6:=hI (And.intro hown6 hb6);clear hown6 hb6 hsz6 hg6 hblk6);rw[HC.o];refine⟨upd (upd (upd V 1 _) 3 _) 4 _,rfl,?_⟩;exact⟨⟨_,e.b.trans HF6.o.2⟩,rfl,h0,fun _ y=>absurd y (by simp),h2,fun _ y=>absurd y (by simp),fun _=>hI HF6.o.1⟩
  ·rintro L V w' hL hInv;rw[HC.o] at hInv;obtain⟨e,rfl,h0,h1,h2,h3,h4⟩:=hInv;have ho4:=(h4 (hL 4 (by omega))).out;obtain⟨A2,c2,hv4,hc21,hc22⟩:=own_cap' ho4;simp only[putAll];rw[hv4] at ho4 ⊢;clear h0 h1 h2 h3 h4;go_wp2;go_meet;exact⟨A2,c2,rfl,hI (by rw[spans_snoc];exact ho4),hI e.b⟩
 case rest=>
  obtain⟨A2,c2,rfl,Ho,HB5⟩:=hcut;have hs5:=HB5.o.size;have hL1:(l++[s]).length=n+1:=by simp[Hn.o]
  obtain⟨g,rfl⟩:∃g,A2=some ⟨g,0,none⟩:=by
   rcases Ho.o.2 with⟨_,h0⟩ | ⟨g,cap,cur,e0,_⟩
   ·omega
   ·injection e0 with e1 _ _;exact⟨g,e1⟩
  have hgB:=Ho.o.lt g rfl
  have HSo:=hI (by
   have h:=sortSpans_any (l++[s]) HB'.o (by omega) W0.heap.size g c2 wc (by rw[hL1];exact Ho.o);rw[hL1] at h;exact h)
  go_upto_region 3 with(go_at_call 143;refine HSo.o.mono ?_;rintro e w2 ⟨rfl,ho2,hg2⟩;have hs2:=hg2.size;have Ho2:=hI ho2;have HB2:=hI (HB5.o.grown hg2 (by omega) (fun k hk=>by cases hk;omega));clear ho2 hg2)
  obtain⟨S,hS⟩:=eX (sortS (l++[s]));have hSl:S.length=n+1:=by rw[<- hS,(sortS_perm _).length_eq,hL1]
  have HSb:=hI (show ∀x∈S,0<=x.lo/\x.lo<=1000000/\0<=x.hi/\x.hi<=1000000 from fun x hx=>HB'.o x (by rw[<- hS] at hx;exact(sortS_perm _).mem_iff.1 hx));rw[hS] at Ho2 HJ;have HSl:=hI hSl;have hgl2:=(Ho2.o.lt g rfl).2
  have HOv:=hI (show ∀X,Bl w2 X->∀k (hk:k<S.length),X.cell? ⟨g,k*2,none⟩=some (.int .i64 S[k].lo)/\X.cell? ⟨g,k*2+1,none⟩=some (.int .i64 S[k].hi) from fun X hX k hk=>by
   obtain⟨h1,h2⟩:=own_cellsP Ho2.o hk;exact⟨(hX.cell (p:=⟨g,k*2,none⟩) hgl2).trans h1,(hX.cell (p:=⟨g,k*2+1,none⟩) hgl2).trans h2⟩)
  have hbs:W0.heap.size<=w2.heap.size:=by omega
  clear hS hSl HSo hL1 Ho;go_wp2;go_loopw [6,19] (fun v6 v19 wr=>∃(k:Nat) (out:List JSpan),k<=n+1/\out.length<=k/\v19= .int .i64 k/\Hid (joinGo out (S.drop k)=J)/\Hid (∀x∈out,0<=x.lo/\x.lo<=1000000/\0<=x.hi/\x.hi<=1000000)/\Hid (wr.ownsRow w2.heap.size 50 2 v6 out.length (out.flatMap encJSpan))/\Hid (Bl w2 wr)) (fun _ v19 _=>n+1-(intOf v19).toNat);case atStart=>exact⟨0,[],by omega,zm _,rfl,hI HJ.o.symm,hI (fun x hx=>absurd hx (by simp)),hI (zU _ _ _ _),hI (zX _ _)⟩
  case round=>
   obtain⟨k,out,hk,hok,rfl,HJo,HOb,Ho,Hb⟩:=hrel;have hsr:=Hb.o.size;obtain⟨A6,c6,rfl,q1,q2⟩:=own_cap' Ho.o
   by_cases hlt:k<n+1
   ·have hkl:k<S.length:=by have:=HSl.o;omega
    have HDr:=hI (show S.drop k=S[k]::S.drop (k+1) from List.drop_eq_getElem_cons hkl);obtain⟨c0,c1⟩:=HOv.o wr Hb.o k hkl;have hxb:=HSb.o _ (zC hkl);generalize S[k]=x at HDr c0 c1 hxb;obtain⟨xl,hxl⟩:=eX x.lo;obtain⟨xh,hxh⟩:=eX x.hi;have HXe:=hI (show x=⟨xl,xh⟩ by rw[<- hxl,<-hxh]);rw[hxl,hxh] at hxb;rw[hxl] at c0;rw[hxh] at c1;rw[HDr.o,HXe.o] at HJo;clear hxl hxh HDr;have HXb:=hI hxb;obtain⟨W6,hW6⟩:=eY (wr.alloc (.cells #[.int .i64 xl,.int .i64 xh] 50));have hs6:wr.heap.size<W6.heap.size:=by rw[hW6];simp
    have HB6:=hI (show Bl w2 W6 by rw[hW6];exact Hb.o.alloc hsr _);have HO6:=hI (show W6.ownsRow w2.heap.size 50 2 (.slice A6 out.length c6) out.length (out.flatMap encJSpan) by rw[hW6];exact Ho.o.alloc _);have hx6:W6.heap[wr.heap.size]? =some (.cells #[.int .i64 xl,.int .i64 xh] 50 (0,0)):=by rw[hW6];exact zW _ _
    have z0:=zV (kC 0 hx6 rfl) hs6;have z1:=zV (kC 1 hx6 rfl) hs6;have r0:=kC 0 hx6 rfl;have r1:=kC 1 hx6 rfl;go_upto_region 7 with fail;rw[<- hW6];clear hW6 c0 c1 hx6;rcases (show out=[]\/∃o X,out=o++[X] from(List.eq_nil_or_concat out).imp id (fun⟨o,X,h⟩=>⟨o,X,by rw[h,List.concat_eq_append]⟩)) with rfl | ⟨o,X,rfl⟩
    ·have HNw:=hI (show joinGo [⟨xl,xh⟩] (S.drop (k+1))=J by rw[<- HJo.o,join_nil]);have HO7:=hI (show W6.ownsRow w2.heap.size 50 2 (.slice A6 0 c6) 0 [] from HO6.o);have hz0:decide ((0:Int)<0)=false:=rfl;clear Ho HO6 HJo HOb q1 hok;simp only[List.length_nil];go_upto_region 8 with fail
     go_quiet (fail)
     go_wp2_with (at_builtin;refine wpList_append1 rfl _ _ 41 rfl w2.heap.size 50 _ 2 16 elemP _ _ _ rfl (own_below HO7.o (zO (zX _ _) _)) #[.int .i64 xl,.int .i64 xh] 1 _ rfl (by simp) rfl (by simp[Value.oneCell']) (by omega) (by simp;omega) ?_;intro v8 w8 hown8 hb8 hsz8 hg8 hblk8;have Ho8:=hI hown8;have Hb8:=hI hb8;clear hown8 hb8 hsz8 hg8 hblk8);go_roundw;case rel=>exact⟨k+1,[⟨xl,xh⟩],by omega,by simp,by go_num,HNw,hI (fun y hy=>by rw[zN.1 hy];exact HXb.o),hI Ho8.o,hI (HB6.o.trans ((zO (zX _ _) _).trans (Hb8.o.mono (by omega))))⟩
     case measure=>simp[intOf];omega
    ·obtain⟨m,hm⟩:∃m,(o++[X]).length=m+1:=⟨o.length,by simp⟩
     have hmo:o.length=m:=by simpa using hm
     rw[hm] at HO6 q1 hok ⊢
     obtain⟨g',hg'⟩:∃g',A6=some ⟨g',0,none⟩:=by
      rcases HO6.o.2 with⟨_,h0⟩ | ⟨g9,cap,cur,e0,_⟩
      ·omega
      ·injection e0 with e1 _ _;exact⟨g9,e1⟩
     subst hg';obtain⟨d0,d1⟩:=own_cellsP HO6.o (i:=m) (by omega);have hXg:(o++[X])[m]'(by omega)=X:=by simp[<- hmo]
     rw[hXg] at d0 d1;have hXb:=HOb.o X (by simp);have hgw:=HO6.o.lt g' rfl;have HIn:=hI (show ∀y∈o,0<=y.lo/\y.lo<=1000000/\0<=y.hi/\y.hi<=1000000 from fun y hy=>HOb.o y (by simp[hy]));have hpos:decide ((0:Int)<(m:Int)+1)=true:=zD (by omega);have w1':IntKind.i64.wrap ((m:Int)+1-1)=(m:Int):=by rw[IntWalk.i64_in _ (by omega)];omega
     have w7':((m:Int)+1-1).toNat=m:=by omega
     have hm1000:m<=2000:=by omega
     have Hmo:=hI hmo;have HOb2:=HOb;clear hm hmo hXg Ho HOb;cases ht2:decide (xl<=X.hi+1)
     ·have HNw:=hI (show joinGo (o++[X]++[⟨xl,xh⟩]) (S.drop (k+1))=J by rw[<- HJo.o];exact(join_new (by simpa using ht2)).symm);clear HJo;go_upto_region 8 with fail
      go_quiet (fail)
      go_wp2_with (at_builtin;refine wpList_append1 rfl _ _ 41 rfl w2.heap.size 50 _ 2 16 elemP _ _ _ rfl (own_below HO6.o (zO (zX _ _) _)) #[.int .i64 xl,.int .i64 xh] 1 _ rfl (by simp) rfl (by simp[Value.oneCell']) (by omega) (by simp;omega) ?_;intro v8 w8 hown8 hb8 hsz8 hg8 hblk8;have Ho8:=hI hown8;have Hb8:=hI hb8;clear hown8 hb8 hsz8 hg8 hblk8);go_roundw
      case rel=>exact⟨k+1,o++[X]++[⟨xl,xh⟩],by omega,by simp[Hmo.o];omega,by go_num,HNw,hI (fun y hy=>by
       rcases List.mem_append.1 hy with hy | hy
       ·exact HOb2.o y hy
       ·rw[zN.1 hy];exact HXb.o),hI (by rw[spans_snoc,show(o++[X]++[(⟨xl,xh⟩:JSpan)]).length=m+1+1 by simp[Hmo.o]];exact Ho8.o),hI (HB6.o.trans ((zO (zX _ _) _).trans (Hb8.o.mono (by omega))))⟩
      case measure=>simp[intOf];omega
     ·have HNw:=hI (show joinGo (o++[⟨X.lo,max X.hi xh⟩]) (S.drop (k+1))=J by rw[<- HJo.o];exact(join_old (X:=X) (x:=⟨xl,xh⟩) (show xl<=X.hi+1 by simpa using ht2)).symm);clear HJo;go_upto_region 8 with fail
      go_quiet (fail)
      go_wp2;obtain⟨WX,hWX⟩:=eY (W6.drewN nq);rw[<- hWX];have hsX:wr.heap.size<WX.heap.size:=by rw[hWX];exact hs6
      have HoW:=hI (show WX.ownsRow w2.heap.size 50 2 (.slice (some ⟨g',0,none⟩) (m+1) c6) (m+1) ((o++[X]).flatMap encJSpan) by rw[hWX];exact own_below HO6.o (zO (zX _ _) _));have HbW:=hI (show Bl w2 WX by rw[hWX];exact zO HB6.o _);have hlm:(o++[X]).length=m+1:=by simp[Hmo.o]
      obtain⟨k0,k1⟩:=own_cellsP HoW.o (i:=m) (by omega);have hXg:(o++[X])[m]'(by omega)=X:=by simp[<- Hmo.o]
      rw[hXg] at k0 k1
      have HoP0:=hI (show ∀Y:World,Y.ownsRow w2.heap.size 50 2 (.slice (some ⟨g',0,none⟩) (m+1) c6) (m+1) ((o++[X]).flatMap encJSpan)->(Y.setCell ⟨g',m*2+1,none⟩ (.int .i64 (max X.hi xh))).ownsRow w2.heap.size 50 2 (.slice (some ⟨g',0,none⟩) (m+1) c6) (m+1) ((o++[(⟨X.lo,max X.hi xh⟩:JSpan)]).flatMap encJSpan) from fun Y hY=>by
       have h:=own_putP hY (i:=m) (by omega) (max X.hi xh);rw[hXg] at h;rw[show(o++[X]).set m (⟨X.lo,max X.hi xh⟩:JSpan)=o++[⟨X.lo,max X.hi xh⟩] by rw[<- Hmo.o];exact set_last] at h;exact h)
      have hgX:g'<WX.heap.size:=(HoW.o.lt g' rfl).2;have m1:=zV k1 hgX;have m4:=zV (w:=WX) (b:=wr.heap.size) (o:=1) (v:= .int .i64 xh) (by rw[hWX];exact r1) hsX;have m6:=later_free (HoW.o.frozenAt (m*2+1)) hgX;clear k0 k1 hWX d0 d1 z0 z1 r0 r1 hXg hlm HO6 HOb2;refine wp_region_later_tail 14 (by kernel_rfl) (by kernel_rfl) ?_;simp only[List.take_succ_cons,List.take_zero,List.drop_succ_cons,List.drop_zero]
      repeat (any_goals (first | go_big_quiet_step ((fail)) | quiet_step ((fail))))
      refine wpQuiet_nil ?_;rintro w' ⟨e,rfl⟩;have HoP:=hI (HoP0.o _ (own_below HoW.o e.b));have HbE:=hI ((HbW.o.trans (e.b.mono (by omega))).setCell (p:=⟨g',m*2+1,none⟩) hgw.1 (.int .i64 (max X.hi xh)));go_wp2;go_roundw
      case rel=>exact⟨k+1,o++[⟨X.lo,max X.hi xh⟩],by omega,by simp[Hmo.o];omega,by go_num,HNw,hI (fun y hy=>by
       rcases List.mem_append.1 hy with hy | hy
       ·exact HIn.o y hy
       ·rw[zN.1 hy];have:=HXb.o;simp only;omega),hI (by rw[show(o++[(⟨X.lo,max X.hi xh⟩:JSpan)]).length=m+1 by simp[Hmo.o]];exact HoP.o),HbE⟩
      case measure=>simp[intOf];omega
   ·have hke:k=n+1:=by omega
    have HJe:=hI (show out=J by rw[<- HJo.o,List.drop_of_length_le (by have:=HSl.o;omega)];rfl);have HOe:=hI (show wr.ownsRow w.heap.size 50 2 (.slice A6 out.length c6) J.length (J.flatMap encJSpan) by rw[<- HJe.o];exact own_mono Ho.o (by omega));clear HJe HJo Ho;go_wp2;go_ret;exact⟨_,rfl,HOe.o,HU0.o _ (HB2.o.trans (Hb.o.mono hbs))⟩
end Go.Proofs.YtjpgnfekbojcaaaGreat
