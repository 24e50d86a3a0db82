/- A job whose rows are the call's own: as a job in memory;with other spans at a resource. -/
import Derived.Test.YtjpgnfekbojcaaaGreatWFTw
import Derived.Test.YtjpgnfekbojcaaaGreatWKeep
set_option maxHeartbeats 2000000
namespace W8
open Go
def Res.putOff (r:Res) (off:List JSpan) (A:Option Addr) (c:Nat):Res:=⟨{ r.p with off:=off },A,c⟩
def Job.putOff (j:Job) (q:Nat) (off:List JSpan) (A:Option Addr) (c:Nat):Job:={ j with res:=j.res.set q ((j.R q).putOff off A c) }
end W8
namespace Go.Proofs.YtjpgnfekbojcaaaGreat
open Go.RowKit W7 W8
theorem sl_own {X:World} {base e k n c:Nat} {A:Option Addr} {α:Type} {enc:α->List Value} {xs:List α} (h:X.ownsRow base e k (.slice A n c) n (xs.flatMap enc)) (hk:∀x,(enc x).length=k) (hk0:0<k):Sl X X.heap.size k enc A xs:=fun h0=>by
 have hl:(xs.flatMap enc).length=xs.length*k:=by
  clear h h0
  induction xs with
  | nil=>simp
  | cons a r ih=>rw[List.flatMap_cons,List.length_append,ih,hk,List.length_cons,Nat.succ_mul];omega
 have hn:n*k=xs.length*k:=by rw[<- hl];exact h.1.symm
 have hnx:n=xs.length:=Nat.eq_of_mul_eq_mul_right hk0 hn
 obtain⟨g,rfl⟩:∃g,A=some ⟨g,0,none⟩:=by
  rcases h.2 with⟨e0,h1⟩ | ⟨g,cap,cur,e0,_⟩
  ·omega
  ·injection e0 with e1 _ _;exact⟨g,e1⟩
 refine⟨g,0,rfl,(h.lt g rfl).2,fun i hi m v hv=> ?_⟩;have hm:m<k:=by have:=(List.getElem?_eq_some_iff.1 hv).1;rwa [hk] at this
 have h2:(xs.flatMap enc)[i*k+m]? =some v:=by rw[flatMap_get hk xs i m hi hm];exact hv
 have h3:i*k+m<n*k:=by
  rw[hn];have:(i+1)*k<=xs.length*k:=Nat.mul_le_mul_right k hi;rw[Nat.add_mul] at this;omega
 rw[Nat.zero_add];exact(h.cellAt _ h3).trans h2
theorem lenT:∀t:Task,(encTask t).length=4:=fun _=>rfl
theorem lenR:∀t:Res,(encRes t).length=3:=fun _=>rfl
theorem own_caps {X:World} {base e k n c:Nat} {A:Option Addr} {xs:List Value} (h:X.ownsRow base e k (.slice A n c) n xs):n<=c/\c<=9223372036854775807:=by
 obtain⟨A',c',e1,h1,h2⟩:=own_cap' h
 injection e1 with _ _ e3
 subst e3;exact⟨h1,h2⟩
theorem JOwn.jin {X:World} {base:Nat} {j:Job} (h:JOwn X base j):JIn X X.heap.size j:=
 ⟨sl_own h.tk.row lenT (by omega),sl_own h.rs.row lenR (by omega),(own_caps h.tk.row).1,(own_caps h.tk.row).2,(own_caps h.rs.row).1,(own_caps h.rs.row).2,
  fun t ht=>⟨(h.tk.tk t ht).nm,sl_own (h.tk.tk t ht).ns lenI (by omega),sl_own (h.tk.tk t ht).us lenU (by omega),(own_caps (h.tk.tk t ht).ns).1,(own_caps (h.tk.tk t ht).ns).2,(own_caps (h.tk.tk t ht).us).1,(own_caps (h.tk.tk t ht).us).2⟩,
  fun r hr=>⟨(h.rs.rs r hr).nm,sl_own (h.rs.rs r hr).os lenP (by omega),(own_caps (h.rs.rs r hr).os).1,(own_caps (h.rs.rs r hr).os).2⟩⟩
theorem JOwn.below {X Y:World} {base:Nat} {j:Job} (h:JOwn X base j) (hb:Bl X Y):JOwn Y base j:=
 ⟨⟨own_below h.tk.row hb,fun t ht=>⟨own_below (h.tk.tk t ht).ns hb,own_below (h.tk.tk t ht).us hb,(h.tk.tk t ht).nm⟩⟩,⟨own_below h.rs.row hb,fun r hr=>⟨own_below (h.rs.rs r hr).os hb,(h.rs.rs r hr).nm⟩⟩⟩
theorem JOwn.setB {X:World} {base b k:Nat} {j:Job} (h:JOwn X base j) (hb:b<base) (u:Value):JOwn (X.setCell ⟨b,k,none⟩ u) base j:=
 ⟨⟨ownsRow_setCell_below h.tk.row hb u,fun t ht=>⟨ownsRow_setCell_below (h.tk.tk t ht).ns hb u,ownsRow_setCell_below (h.tk.tk t ht).us hb u,(h.tk.tk t ht).nm⟩⟩,⟨ownsRow_setCell_below h.rs.row hb u,fun r hr=>⟨ownsRow_setCell_below (h.rs.rs r hr).os hb u,(h.rs.rs r hr).nm⟩⟩⟩
theorem own_nil0 {w:World} {base e size n c:Nat} {A:Option Addr} {xs:List Value} (h:w.ownsRow base e size (.slice A n c) n xs) (hA:A=none):n=0/\c=0:=by
 subst hA;rcases h.2 with⟨e0,_⟩ | ⟨g,cap,cur,e0,_⟩
 ·cases e0;exact⟨rfl,rfl⟩
 ·cases e0
theorem encRs_set:∀(l:List Res) (i:Nat) (_:i<l.length) (off:List JSpan) (A:Option Addr) (c:Nat),(l.flatMap encRes).set (i*3+2) (.slice A off.length c)=(l.set i ((l.getD i default).putOff off A c)).flatMap encRes
 | [],_,h,_,_,_=>absurd h (by simp)
 | x::l,0,_,off,A,c=>rfl
 | x::l,i+1,h,off,A,c=>by
  have ih:=encRs_set l i (by simpa using h) off A c
  show([Value.string x.p.name,.int .i64 x.p.many,.slice x.OA x.p.off.length x.oc]++l.flatMap encRes).set ((i+1)*3+2) _=[Value.string x.p.name,.int .i64 x.p.many,.slice x.OA x.p.off.length x.oc]++(l.set i _).flatMap encRes
  rw[show(i+1)*3+2=(i*3+2)+1+1+1 by omega];simp only[List.cons_append,List.nil_append,List.set_cons_succ];rw[ih];rfl
theorem JOwn.put {X:World} {base q g c:Nat} {j:Job} {off:List JSpan} {A:Option Addr} (h:JOwn X base j) (hq:q<j.res.length) (hg:j.RA=some ⟨g,0,none⟩) (ho:X.ownsRow base 50 2 (.slice A off.length c) off.length (off.flatMap encJSpan)) :
  JOwn (X.setCell ⟨g,q*3+2,none⟩ (.slice A off.length c)) base (j.putOff q off A c):=by
 have hr:=h.rs.row;rw[hg] at hr;obtain⟨cs,hcs⟩:=owns_block hr g rfl;have hk:∀ {e k m:Nat} {u:Value} {xs:List Value},X.ownsRow base e k u m xs->e≠43->(X.setCell ⟨g,q*3+2,none⟩ (.slice A off.length c)).ownsRow base e k u m xs:=fun h hne=>own_setK h hcs (Ne.symm hne) _
 refine⟨⟨hk h.tk.row (by decide),fun t ht=>⟨hk (h.tk.tk t ht).ns (by decide),hk (h.tk.tk t ht).us (by decide),(h.tk.tk t ht).nm⟩⟩,⟨?_,fun r hr'=> ?_⟩⟩
 ·obtain⟨h1,_⟩:=hr.stored (q*3+2) (.slice A off.length c);rw[encRs_set _ _ hq] at h1
  show(X.setCell ⟨g,q*3+2,none⟩ (.slice A off.length c)).ownsRow base 43 3 (.slice j.RA (j.res.set q _).length j.rc) (j.res.set q _).length _
  rw[List.length_set,hg];exact h1
 ·rcases List.mem_or_eq_of_mem_set hr' with h1 | h1
  ·exact⟨hk (h.rs.rs r h1).os (by decide),(h.rs.rs r h1).nm⟩
  ·rw[h1];exact⟨hk ho (by decide),(h.rs.rs _ (j.R_mem hq)).nm⟩
theorem putOff_p {j:Job} {q c:Nat} {off:List JSpan} {A:Option Addr}:(j.putOff q off A c).p=⟨j.p.tasks,j.p.res.set q { j.p.res.getD q default with off:=off }⟩:=by
 unfold Job.putOff Job.p;simp only[List.map_set]
 congr 2
 have:=j.pR q;unfold Job.p at this;simp only at this;rw[this]
 rfl
end Go.Proofs.YtjpgnfekbojcaaaGreat
namespace Go.Proofs.YtjpgnfekbojcaaaGreat
open Go.RowKit Go.Shelf Go.Sort W7 W8
attribute [local go_sem] Oper.semAt_some
def clampI (m:Nat) (x:Int):Int:=if 0<=x/\x<m then x else 0
theorem clampI_in {m:Nat} (h:0<m) (x:Int):∃q:Nat,clampI m x=(q:Int)/\q<m:=by
 unfold clampI
 split
 ·exact⟨x.toNat,by omega,by omega⟩
 ·exact⟨0,rfl,h⟩
theorem clampI_eq {m:Nat} {x:Int} (h:0<=x/\x<m):clampI m x=x:=if_pos h
def encC (m:Nat) (x:Int):Value:= .int .i64 (clampI m x)
theorem fail2_any (p q pb sn sc B:Nat) (SA:Option Addr) (st:List Int) (w:World) (hS:Sl w B 1 encInt1 SA st) (hsn:sn=st.length) (_hsl:sn<=sc) (_hsc:sc<=9223372036854775807) (hp:p<sn) (hq:q<sn) (hT:∀i,0<=st.getD i 0/\st.getD i 0<=100000) (hpb:w.cell? ⟨pb,0,none⟩=some (.slice SA sn sc)) :
  Calls Tryz.prog 76 #[.int .i64 (p:Int),.int .i64 (q:Int),.pointer (some ⟨pb,0,none⟩)] w fun e w'=>e= .returned (.int .i64 (st.getD p 0-st.getD q 0))/\∃k os,w'=grow (w.drewN k) os:=by
 obtain⟨ub,uoff,hue,hub,hcs⟩:=hS (by omega);subst hue
 have hc:∀k,k<sn->w.cell? ⟨ub,uoff+k,none⟩=some (.int .i64 (st.getD k 0)):=fun k hk=>by
  have h:=hcs k (by omega) 0 _ rfl;rw[Nat.mul_one,Nat.add_zero] at h;rw[h,List.getD_eq_getElem?_getD,List.getElem?_eq_getElem (by omega)]
  rfl
 have c0:=hc p hp;have c1:=hc q hq;have h0:=hT p;have h1:=hT q;generalize st.getD p 0=a at c0 h0 ⊢;generalize st.getD q 0=b at c1 h1 ⊢;clear hS hcs hc hT hsn;go_enter Tryz.func76,Tryz.ntmps76;go_upto_region 1 with fail
 go_quiet (fail)
 go_wp2;go_ret;exact⟨ret_int (by go_num),_,#[],(grow_empty _).symm⟩
theorem putRow_congr {enc enc':Int->Value} {w:World} {blk off:Nat} {d:Array Int} (h:∀x∈d,enc x=enc' x):putRow enc w blk off d=putRow enc' w blk off d:=by
 unfold putRow
 congr 1
 funext c
 unfold putCells
 congr 1
 funext k x
 split
 ·rename_i hk
  have hk2:k-off<d.size:=by omega
  rw[getElem!_pos d _ hk2];exact h _ (Array.getElem_mem _)
 ·rfl
def SortS (st l:List Int) (base g cap:Nat) (w:World) (e:Ending) (w':World):Prop:=
 e= .returned (.tuple #[])/\w'.ownsRow base 3 1 (.slice (some ⟨g,0,none⟩) l.length cap) l.length ((sortO st l).map (Value.int .i64))/\w.grownBy w' (some g)
theorem insInt_any (st l:List Int) (base g cap pb sn sc B:Nat) (SA:Option Addr) (w:World) (hown:w.ownsRow base 3 1 (.slice (some ⟨g,0,none⟩) l.length cap) l.length (l.map (Value.int .i64))) (hl:l.length<=1000)
  (hS:Sl w B 1 encInt1 SA st) (hsn:sn=st.length) (hsl:sn<=sc) (hsc:sc<=9223372036854775807) (hT:∀i,0<=st.getD i 0/\st.getD i 0<=100000) (hpb:w.cell? ⟨pb,0,none⟩=some (.slice SA sn sc)) (hBg:B<=g) (hpg:pb≠g) (hpl:pb<w.heap.size)
  (hasc:l.Pairwise (· < ·)) (hin:∀x∈l,0<=x/\x<sn) (h0:0<sn) :
  Calls Tryz.prog 188 #[.slice (some ⟨g,0,none⟩) l.length cap,.int .i64 0,.int .i64 l.length,.func (.func 76) #[] #[.pointer (some ⟨pb,0,none⟩)]] w (SortS st l base g cap w):=by
 have eg:∀args w,(callFunc 76 args).run Tryz.prog w= .ok (.enter 76 args) w:=enters_of Tryz.func76 (by kernel_rfl) rfl;have hgl:=(hown.lt g rfl).2;have henc:∀x∈l,encC sn x=Value.int .i64 x:=fun x hx=>by unfold encC;rw[clampI_eq (hin x hx)]
 have hH:Holds (encC sn) w g 0 l.toArray:=fun j hj=>by
  have h:=holds_own1 hown j hj;have hj':j<l.length:=by simpa using hj
  refine⟨?_,h.2⟩;rw[h.1,getElem!_pos _ j hj];simp only[List.getElem_toArray];rw[henc _ (List.getElem_mem hj')]
 have hcmp:CmpLays1 Tryz.prog 76 #[.pointer (some ⟨pb,0,none⟩)] (encC sn) (fun x y=>st.getD (clampI sn x).toNat 0-st.getD (clampI sn y).toNat 0) g 0 l.toArray.size w:=fun m os dk hs x y=>by
  obtain⟨p,hp,hpl2⟩:=clampI_in h0 x;obtain⟨q,hq,hql2⟩:=clampI_in h0 y
  have hgr:w.grownBy (sortWorld (encC sn) w g 0 m dk os) (some g):=by
   refine⟨rfl,rfl,rfl,by simp[sortWorld,putRow,mapBlock,Sort.ahead,grow],fun i hi hne=> ?_⟩;unfold sortWorld;rw[heap_grow_old _ _ (by simpa [putRow,mapBlock,Sort.ahead] using hi)];have:g≠i:=fun e=>hne (by rw[e])
   simp[putRow,mapBlock,Sort.ahead,Array.getElem?_modify,this]
  have hbl:Below B w (sortWorld (encC sn) w g 0 m dk os):=⟨hgr.os,hgr.tape,hgr.output,hgr.size,fun i hi=>hgr.block i (by omega) (by simp;omega)⟩
  have hc:=fail2_any p q pb sn sc B SA st (sortWorld (encC sn) w g 0 m dk os) (hS.below hbl) hsn hsl hsc hpl2 hql2 hT ((World.cell?_of_block (a:=⟨pb,0,none⟩) (hgr.block pb hpl (by simpa using hpg))).trans hpb)
  show Calls Tryz.prog 76 #[.int .i64 (clampI sn x),.int .i64 (clampI sn y),.pointer (some ⟨pb,0,none⟩)] (sortWorld (encC sn) w g 0 m dk os) fun e w'=>e= .returned (.int .i64 (st.getD (clampI sn x).toNat 0-st.getD (clampI sn y).toNat 0))/\∃q os',w'=grow ((sortWorld (encC sn) w g 0 m dk os).drewN q) os'
  rw[hp,hq];exact hc
 have hcon:=Any.insertionSortCmpFunc_s Tryz.insInt (encC sn) (fun x y=>st.getD (clampI sn x).toNat 0-st.getD (clampI sn y).toNat 0) 76 #[.pointer (some ⟨pb,0,none⟩)] g 0 cap 0 l.length l.toArray l.toArray w w eg hcmp ⟨fun x=>by simp[encC,Value.oneCell'],hH,hgl⟩ rfl (SW.start hH) (Nat.zero_le _) (by simp) (by rw[List.size_toArray];omega)
 change Calls Tryz.prog 188 _ _ _ at hcon
 rw[List.size_toArray] at hcon;refine hcon.mono fun e w' ⟨he,hsw⟩=>⟨he,?_⟩
 have hE:(insertionSort (ltOf fun x y:Int=>st.getD (clampI sn x).toNat 0-st.getD (clampI sn y).toNat 0) l.toArray 0 l.length)=(sortO st l).toArray:=by
  have h1:insertionSort (ltOf fun x y:Int=>st.getD (clampI sn x).toNat 0-st.getD (clampI sn y).toNat 0) l.toArray 0 l.toArray.size=insertionSort (ltS st) l.toArray 0 l.toArray.size:=ins_congr (fun p q hpq hq=>by
   have hq':q<l.length:=by simpa using hq
   have hp':p<l.length:=by omega
   rw[getElem!_pos _ q hq,getElem!_pos _ p (by simpa using hp')];have e1:=clampI_eq (hin _ (List.getElem_mem hq'));have e2:=clampI_eq (hin _ (List.getElem_mem hp'))
   show decide (st.getD (clampI sn l[q]).toNat 0-st.getD (clampI sn l[p]).toNat 0<0)=decide (st.getD l[q].toNat 0<st.getD l[p].toNat 0)
   rw[decide_eq_decide,e1,e2];omega)
  rw[List.size_toArray] at h1;have h2:=stable_eq st hasc;rw[List.size_toArray] at h2;rw[h1,<-h2]
 rw[hE] at hsw;obtain⟨n,os,hw⟩:=hsw;have hp:=(sortO_ok st hasc).1;unfold sortWorld at hw;rw[putRow_congr (enc':=Value.int .i64) (fun x hx=>henc x (hp.mem_iff.1 (by simpa using hx)))] at hw;rw[hw];exact⟨sorted_own1 hown hp.length_eq,grown_sorted1⟩
theorem insNone_any (v f:Value) (w:World) :
  Calls Tryz.prog 188 #[v,.int .i64 0,.int .i64 0,f] w (fun e w'=>e= .returned (.tuple #[])/\w'=w):=by
 go_enter Tryz.func188,Tryz.ntmps188;go_wp2;refine wp_loop_rounds 1 ?_;rw[rounds_succ];go_wp2;go_end0;exact⟨rfl,rfl⟩
theorem stableOne_any (v f:Value) (n:Nat) (w:World) (R:Ending->World->Prop) (hn:n<=19) (H:Calls Tryz.prog 188 #[v,.int .i64 0,.int .i64 (n:Int),f] w fun e w'=>e= .returned (.tuple #[])/\R e w') :
  Calls Tryz.prog 146 #[v,.int .i64 (n:Int),f] w R:=by
 have H:=hI H;have h1:decide ((20:Int)<=(n:Int))=false:=by simp;omega
 have h2:decide ((20:Int)<(n:Int))=false:=by simp;omega
 go_enter Tryz.func146,Tryz.ntmps146;go_wp2;refine wp_loop_rounds 1 ?_;rw[rounds_succ];go_wp2_with (go_at_call 188;refine H.o.mono ?_;rintro e w1 ⟨rfl,hs⟩;have Hs:=hI hs;clear hs);refine wp_loop_rounds 1 ?_;rw[rounds_succ];go_wp2;go_end0;exact Hs.o
def SortT (st l:List Int) (base:Nat) (v:Value) (w:World) (e:Ending) (w':World):Prop:=
 e= .returned (.tuple #[])/\w'.ownsRow base 3 1 v l.length ((sortO st l).map (Value.int .i64))/\w.grownBy w' v.ownBlock
theorem stableI_any (st l:List Int) (base pb sn sc B:Nat) (v:Value) (SA:Option Addr) (w:World) (hown:w.ownsRow base 3 1 v l.length (l.map (Value.int .i64))) (hl:l.length<=19)
  (hS:Sl w B 1 encInt1 SA st) (hsn:sn=st.length) (hsl:sn<=sc) (hsc:sc<=9223372036854775807) (hT:∀i,0<=st.getD i 0/\st.getD i 0<=100000) (hpb:w.cell? ⟨pb,0,none⟩=some (.slice SA sn sc)) (hBb:B<=base) (hpg:pb<base) (hpl:pb<w.heap.size)
  (hasc:l.Pairwise (· < ·)) (hin:∀x∈l,0<=x/\x<sn) :
  Calls Tryz.prog 75 #[v,.func (.func 76) #[] #[.pointer (some ⟨pb,0,none⟩)]] w (SortT st l base v w):=by
 obtain⟨A,c,hv,hc1,hc2⟩:=own_cap' hown
 have H:Calls Tryz.prog 146 #[v,.int .i64 (l.length:Int),.func (.func 76) #[] #[.pointer (some ⟨pb,0,none⟩)]] w (SortT st l base v w):=by
  refine stableOne_any _ _ _ _ _ hl ?_;rcases hown.2 with⟨e0,h0⟩ | ⟨g,cap,cur,e0,hb,hg,_⟩
  ·have hl0:l=[]:=List.eq_nil_of_length_eq_zero h0;subst hl0;refine(insNone_any v _ w).mono ?_;rintro e w' ⟨rfl,rfl⟩;exact⟨rfl,rfl,hown,World.grownBy.refl _ _⟩
  ·subst e0
   by_cases h0:l=[]
   ·subst h0;refine(insNone_any _ _ w).mono ?_;rintro e w' ⟨rfl,rfl⟩;exact⟨rfl,rfl,hown,World.grownBy.refl _ _⟩
   ·have h0s:0<sn:=by
     obtain⟨x,hx⟩:=List.exists_mem_of_ne_nil l h0;have:=hin x hx;omega
    refine(insInt_any st l base g cap pb sn sc B SA w hown (by omega) hS hsn hsl hsc hT hpb (by omega) (by omega) hpl hasc hin h0s).mono ?_;rintro e w' ⟨h1,h2,h3⟩;exact⟨h1,h1,h2,h3⟩
 have H:=hI H;subst hv;generalize l.length=n at H hc1;clear hown hS hsn hT hpb hasc hin hl;go_enter Tryz.func75,Tryz.ntmps75;go_wp2_with (go_at_call 146;refine H.o.mono ?_;rintro e w1 ⟨rfl,hs⟩;have Hs:=hI hs;clear hs);go_end0;exact⟨rfl,Hs.o⟩
end Go.Proofs.YtjpgnfekbojcaaaGreat
