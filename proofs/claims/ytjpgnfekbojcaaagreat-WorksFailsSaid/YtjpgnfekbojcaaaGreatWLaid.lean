/- A timetable laid on a line (laid). -/
import Derived.Test.YtjpgnfekbojcaaaGreatWTr5
set_option maxHeartbeats 8000000
set_option maxRecDepth 100000
namespace Go.Proofs.YtjpgnfekbojcaaaGreat
open Go.RowKit W7 W8
attribute [local go_sem] Oper.semAt_some
def isZ16:Value->Bool
 | .int .u16 (.ofNat 0)=>true
 | _=>false
theorem isZ16_eq {v:Value} (h:isZ16 v=true):v= .int .u16 0:=by
 unfold isZ16 at h
 split at h
 ·rfl
 ·cases h
theorem zeroM_all:Tryz.zeroCells195.toList.all isZ16=true:=by kernel_rfl
theorem zeroM {t:Nat} (ht:t<100002):Tryz.zeroCells195[t]? =some (.int .u16 0):=by
 have hs:t<Tryz.zeroCells195.size:=by rw[Tryz.zeroCells195_size];exact ht
 rw[Array.getElem?_eq_getElem hs]
 congr 1
 exact isZ16_eq (List.all_eq_true.1 zeroM_all _ (by simp[Array.mem_toList_iff]))
theorem MinIn.new (w:World):MinIn (w.alloc (.cells Tryz.zeroCells195 195)) w.heap.size (fun _=>0):=⟨_,zW _ _,Tryz.zeroCells195_size,fun _ ht=>zeroM ht⟩
theorem elemM:Elem Tryz.prog 188 191 (.pointer none) 1 8:=Elem.mk' Tryz.underlying188 (by kernel_rfl) rfl (by decide) (by decide)
def ptrV (b:Nat):Value:= .pointer (some ⟨b,0,none⟩)
structure TrkIn (X:World) (base g:Nat) (l:Line) (SA KA:Option Addr) (sc kc:Nat) (sbs kbs:List Nat) (F G:Nat->Nat->Nat):Prop where
 blk:X.heap[g]? =some (.cells #[.slice l.RA l.run.length l.rc,.slice l.MA l.room.length l.mc,.slice SA sbs.length sc,.slice KA kbs.length kc] 190 (0,0))
 sr:X.ownsRow base 191 1 (.slice SA sbs.length sc) sbs.length (sbs.map ptrV)
 kr:X.ownsRow base 191 1 (.slice KA kbs.length kc) kbs.length (kbs.map ptrV)
 st:∀i,i<sbs.length->MinIn X (sbs.getD i 0) (F i)
 se:∀i,i<kbs.length->MinIn X (kbs.getD i 0) (G i)
 nd:(sbs++kbs).Nodup
 ge:∀b∈sbs++kbs,base<=b
 ne:(Value.slice SA sbs.length sc).ownBlock=none\/(Value.slice SA sbs.length sc).ownBlock≠(Value.slice KA kbs.length kc).ownBlock
theorem TrkIn.below {X Y:World} {base g:Nat} {l:Line} {SA KA:Option Addr} {sc kc:Nat} {sbs kbs:List Nat} {F G:Nat->Nat->Nat} (h:TrkIn X base g l SA KA sc kc sbs kbs F G) (hb:Bl X Y):TrkIn Y base g l SA KA sc kc sbs kbs F G:=
 ⟨(hb.block g (blk_lt h.blk)).trans h.blk,own_below h.sr hb,own_below h.kr hb,fun i hi=>(h.st i hi).kept (hb.block _ (h.st i hi).lt),fun i hi=>(h.se i hi).kept (hb.block _ (h.se i hi).lt),h.nd,h.ge,h.ne⟩
theorem MinIn.row_ne {X:World} {b base n k:Nat} {f:Nat->Nat} {v:Value} {xs:List Value} (h:MinIn X b f) (hr:X.ownsRow base 191 k v n xs):some b≠v.ownBlock:=by
 obtain⟨cs,h1,_⟩:=h;exact Go.Proofs.YtjpgnfekbojcaaaGreat.row_ne hr h1 (fun cs e=>by cases e)
theorem MinIn.push {X Y:World} {b base n k g j:Nat} {f:Nat->Nat} {u v:Value} {xs:List Value} (h:MinIn X b f) (hr:X.ownsRow base 191 k v n xs) (hg:(X.alloc (.cells Tryz.zeroCells195 195)).grownBy Y v.ownBlock) (hb:g≠b):MinIn (Y.setCell ⟨g,j,none⟩ u) b f:=by
 have hlt:=h.lt;refine h.kept ?_;rw[blk_set_ne hb,hg.block b (by simp;omega) (h.row_ne hr)];exact zP _ _ _ hlt
theorem MinIn.push_new {X Y:World} {base n k g j:Nat} {u v:Value} {xs:List Value} (hr:X.ownsRow base 191 k v n xs) (hg:(X.alloc (.cells Tryz.zeroCells195 195)).grownBy Y v.ownBlock) (hb:g<X.heap.size):MinIn (Y.setCell ⟨g,j,none⟩ u) X.heap.size (fun _=>0):=by
 refine(MinIn.new X).kept ?_;rw[blk_set_ne (by omega)];exact hg.block _ (by simp) (fun e=>by have:=(hr.lt _ e.symm).2;omega)
theorem getD_snoc {l:List Nat} {x i:Nat} (h:i<l.length+1):(i<l.length/\(l++[x]).getD i 0=l.getD i 0)\/(i=l.length/\(l++[x]).getD i 0=x):=by
 rcases Nat.lt_or_ge i l.length with h1 | h1
 ·exact .inl ⟨h1,by simp[zA,List.getElem?_append_left h1]⟩
 ·obtain rfl:i=l.length:=by omega
  exact .inr ⟨rfl,by simp[zA]⟩
theorem nodup_inj {l:List Nat} (h:l.Nodup) {i j:Nat} (hi:i<l.length) (hj:j<l.length) (e:l[i]=l[j]):i=j:=by
 rcases Nat.lt_trichotomy i j with h1 | h1 | h1
 ·exact absurd e (List.pairwise_iff_getElem.1 h i j hi hj h1)
 ·exact h1
 ·exact absurd e.symm (List.pairwise_iff_getElem.1 h j i hj hi h1)
theorem getD_memN {l:List Nat} {i:Nat} (h:i<l.length):l.getD i 0∈l:=by
 rw[zA,zB h,Option.getD_some];exact zC h
theorem mem_getD {l:List Nat} {b:Nat} (h:b∈l):∃i,i<l.length/\l.getD i 0=b:=by
 obtain⟨i,hi,rfl⟩:=List.getElem_of_mem h;exact⟨i,hi,by rw[zA,zB hi,Option.getD_some]⟩
theorem own_caps1 {X:World} {base e k n c:Nat} {A:Option Addr} {xs:List Value} (h:X.ownsRow base e k (.slice A n c) n xs):n<=c/\c<=9223372036854775807:=by
 obtain⟨A',c',e1,h1,h2⟩:=own_cap' h
 injection e1 with _ _ e3
 subst e3;exact⟨h1,h2⟩
theorem TrkIn.mono {X:World} {base base' g:Nat} {l:Line} {SA KA:Option Addr} {sc kc:Nat} {sbs kbs:List Nat} {F G:Nat->Nat->Nat} (h:TrkIn X base g l SA KA sc kc sbs kbs F G) (hb:base'<=base):TrkIn X base' g l SA KA sc kc sbs kbs F G:=
 ⟨h.blk,own_mono h.sr hb,own_mono h.kr hb,h.st,h.se,h.nd,fun b h1=>Nat.le_trans hb (h.ge b h1),h.ne⟩
section
variable {X Y:World} {base g:Nat} {l:Line} {SA KA:Option Addr} {sc kc:Nat} {sbs kbs:List Nat} {F G:Nat->Nat->Nat}
theorem TrkIn.all_lt (h:TrkIn X base g l SA KA sc kc sbs kbs F G):∀b∈sbs++kbs,b<X.heap.size:=fun b hb=>by
 rcases List.mem_append.1 hb with hb | hb
 ·obtain⟨i,hi,rfl⟩:=mem_getD hb;exact(h.st i hi).lt
 ·obtain⟨i,hi,rfl⟩:=mem_getD hb;exact(h.se i hi).lt
theorem TrkIn.pushS {A':Option Addr} {c':Nat} (h:TrkIn X base g l SA none sc 0 sbs [] (fun _ _=>0) (fun _ _=>0)) (hbase:base<=X.heap.size) (hg:g<base)
  (hown:Y.ownsRow base 191 1 (.slice A' (sbs.length+1) c') (sbs.length+1) (sbs.map ptrV++[ptrV X.heap.size]))
  (hgr:(X.alloc (.cells Tryz.zeroCells195 195)).grownBy Y (Value.slice SA sbs.length sc).ownBlock) :
  TrkIn (Y.setCell ⟨g,2,none⟩ (.slice A' (sbs.length+1) c')) base g l A' none c' 0 (sbs++[X.heap.size]) [] (fun _ _=>0) (fun _ _=>0):=by
 have hb:Y.heap[g]? =_:=(hgr.block g (by have:=blk_lt h.blk;simp;omega) (fun e=>by have:=(h.sr.lt g e.symm).1;omega)).trans ((zP _ _ _ (blk_lt h.blk)).trans h.blk);have hlt:=h.all_lt;refine⟨by rw[blk_set hb];simp,?_,zU _ _ _ _,fun i hi=> ?_,fun i hi=>absurd hi (by simp),?_,fun b hb=> ?_,?_⟩
 ·rw[zF,List.map_append];exact own_setK hown hb (by decide) _
 ·rcases getD_snoc (by simpa using hi) with⟨h1,h2⟩ | ⟨h1,h2⟩
  ·rw[h2];refine(h.st i h1).push h.sr hgr (fun e=> ?_);have:=h.ge (sbs.getD i 0) (by simp only[List.append_nil];exact getD_memN h1);omega
  ·rw[h2];exact MinIn.push_new h.sr hgr (by omega)
 ·have:=h.nd;simp only[List.append_nil] at this ⊢;refine List.nodup_append.2 ⟨this,by simp,fun a ha b hb=> ?_⟩;rw[zN.1 hb];have:=hlt a (by simpa using ha);omega
 ·simp only[List.append_nil] at hb;rcases List.mem_append.1 hb with hb | hb
  ·exact h.ge b (by simpa using hb)
  ·rw[zN.1 hb];exact hbase
 ·cases hv:(Value.slice A' (sbs++[X.heap.size]).length c').ownBlock with
  | none=>exact .inl rfl
  | some k=>exact .inr (by simp[Value.ownBlock])
theorem TrkIn.pushK {A':Option Addr} {c':Nat} (h:TrkIn X base g l SA KA sc kc sbs kbs (fun _ _=>0) (fun _ _=>0)) (hbase:base<=X.heap.size) (hg:g<base)
  (hown:Y.ownsRow base 191 1 (.slice A' (kbs.length+1) c') (kbs.length+1) (kbs.map ptrV++[ptrV X.heap.size]))
  (hgr:(X.alloc (.cells Tryz.zeroCells195 195)).grownBy Y (Value.slice KA kbs.length kc).ownBlock)
  (hbk:(Value.slice A' (kbs.length+1) c').ownBlock=(Value.slice KA kbs.length kc).ownBlock\/∃k,(Value.slice A' (kbs.length+1) c').ownBlock=some k/\(X.alloc (.cells Tryz.zeroCells195 195)).heap.size<=k) :
  TrkIn (Y.setCell ⟨g,3,none⟩ (.slice A' (kbs.length+1) c')) base g l SA A' sc c' sbs (kbs++[X.heap.size]) (fun _ _=>0) (fun _ _=>0):=by
 have hb:Y.heap[g]? =_:=(hgr.block g (by have:=blk_lt h.blk;simp;omega) (fun e=>by have:=(h.kr.lt g e.symm).1;omega)).trans ((zP _ _ _ (blk_lt h.blk)).trans h.blk);have hlt:=h.all_lt;have hsr:Y.ownsRow base 191 1 (.slice SA sbs.length sc) sbs.length (sbs.map ptrV):=(h.sr.alloc _).kept hgr h.ne;refine⟨by rw[blk_set hb];simp,own_setK hsr hb (by decide) _,?_,fun i hi=> ?_,fun i hi=> ?_,?_,fun b hb=> ?_,?_⟩
 ·rw[zF,List.map_append];exact own_setK hown hb (by decide) _
 ·refine(h.st i hi).push h.kr hgr (fun e=> ?_);have:=h.ge (sbs.getD i 0) (List.mem_append_left _ (getD_memN hi));omega
 ·rcases getD_snoc (by simpa using hi) with⟨h1,h2⟩ | ⟨h1,h2⟩
  ·rw[h2];refine(h.se i h1).push h.kr hgr (fun e=> ?_);have:=h.ge (kbs.getD i 0) (List.mem_append_right _ (getD_memN h1));omega
  ·rw[h2];exact MinIn.push_new h.kr hgr (by omega)
 ·rw[<- List.append_assoc];refine List.nodup_append.2 ⟨h.nd,by simp,fun a ha b hb=> ?_⟩;rw[zN.1 hb];have:=hlt a ha;omega
 ·rw[<- List.append_assoc] at hb;rcases List.mem_append.1 hb with hb | hb
  ·exact h.ge b hb
  ·rw[zN.1 hb];exact hbase
 ·rw[zF];cases hv:(Value.slice SA sbs.length sc).ownBlock with
  | none=>exact .inl rfl
  | some k=>
   refine .inr ?_
   show some k≠(Value.slice A' (kbs.length+1) c').ownBlock
   rcases hbk with h1 | ⟨k2,h1,h2⟩
   ·rw[h1,<-hv];rcases h.ne with h3 | h3
    ·rw[hv] at h3;cases h3
    ·exact h3
   ·rw[h1];intro e;have h3:=(h.sr.lt k hv).2;have h4:=zJ e;simp at h2;omega
theorem TrkIn.addS {i:Nat} {f:Nat->Nat} (h:TrkIn X base g l SA KA sc kc sbs kbs F G) (hi:i<sbs.length) (hgr:X.grownBy Y (some (sbs.getD i 0))) (hm:MinIn Y (sbs.getD i 0) f) (F':Nat->Nat->Nat) (hF:∀j t,t<100002->j<sbs.length->F' j t=if j=i then f t else F j t) :
  TrkIn Y base g l SA KA sc kc sbs kbs F' G:=by
 have hgb:g≠sbs.getD i 0:=fun e=>by
  obtain⟨cs,h1,_⟩:=h.st i hi;rw[<- e,h.blk] at h1;cases h1
 have hrow:∀ {v:Value} {n:Nat} {xs:List Value},X.ownsRow base 191 1 v n xs->Y.ownsRow base 191 1 v n xs:=fun hr=>hr.kept hgr (.inr (fun e=>(h.st i hi).row_ne hr e.symm))
 have hnd:=List.nodup_append.1 h.nd;refine⟨(hgr.block g (blk_lt h.blk) (fun e=>hgb (zJ e))).trans h.blk,hrow h.sr,hrow h.kr,fun j hj=> ?_,fun j hj=> ?_,h.nd,h.ge,h.ne⟩
 ·by_cases hji:j=i
  ·subst hji;exact hm.eq (fun t ht=>by rw[hF j t ht hj,if_pos rfl])
  ·have hne:sbs.getD j 0≠sbs.getD i 0:=fun e=>hji (by
    rw[zA,zB hj,zA,zB hi] at e;exact nodup_inj hnd.1 hj hi e)
   refine((h.st j hj).kept (hgr.block _ (h.st j hj).lt (fun e=>hne (zJ e)))).eq (fun t ht=>by rw[hF j t ht hj,if_neg hji])
 ·have hne:kbs.getD j 0≠sbs.getD i 0:=fun e=>hnd.2.2 _ (getD_memN hi) _ (getD_memN hj) e.symm
  exact(h.se j hj).kept (hgr.block _ (h.se j hj).lt (fun e=>hne (zJ e)))
theorem TrkIn.addK {i:Nat} {f:Nat->Nat} (h:TrkIn X base g l SA KA sc kc sbs kbs F G) (hi:i<kbs.length) (hgr:X.grownBy Y (some (kbs.getD i 0))) (hm:MinIn Y (kbs.getD i 0) f) (G':Nat->Nat->Nat) (hG:∀j t,t<100002->j<kbs.length->G' j t=if j=i then f t else G j t) :
  TrkIn Y base g l SA KA sc kc sbs kbs F G':=by
 have hgb:g≠kbs.getD i 0:=fun e=>by
  obtain⟨cs,h1,_⟩:=h.se i hi;rw[<- e,h.blk] at h1;cases h1
 have hrow:∀ {v:Value} {n:Nat} {xs:List Value},X.ownsRow base 191 1 v n xs->Y.ownsRow base 191 1 v n xs:=fun hr=>hr.kept hgr (.inr (fun e=>(h.se i hi).row_ne hr e.symm))
 have hnd:=List.nodup_append.1 h.nd;refine⟨(hgr.block g (blk_lt h.blk) (fun e=>hgb (zJ e))).trans h.blk,hrow h.sr,hrow h.kr,fun j hj=> ?_,fun j hj=> ?_,h.nd,h.ge,h.ne⟩
 ·have hne:sbs.getD j 0≠kbs.getD i 0:=fun e=>hnd.2.2 _ (getD_memN hj) _ (getD_memN hi) e
  exact(h.st j hj).kept (hgr.block _ (h.st j hj).lt (fun e=>hne (zJ e)))
 ·by_cases hji:j=i
  ·subst hji;exact hm.eq (fun t ht=>by rw[hG j t ht hj,if_pos rfl])
  ·have hne:kbs.getD j 0≠kbs.getD i 0:=fun e=>hji (by
    rw[zA,zB hj,zA,zB hi] at e;exact nodup_inj hnd.2.1 hj hi e)
   refine((h.se j hj).kept (hgr.block _ (h.se j hj).lt (fun e=>hne (zJ e)))).eq (fun t ht=>by rw[hG j t ht hj,if_neg hji])
end
theorem laid_any (l:Line) (ways:List TWay) (TA:Option Addr) (tn tc B:Nat) (w:World) (hl:LnIn w B l) (ht:TabIn w B TA tn tc ways) (hB:B<=w.heap.size) (hok:TabOk l (tabP ways)) :
  Calls Tryz.prog 85 #[lineV l,.slice TA tn tc] w fun e w'=>∃(g:Nat) (SA KA:Option Addr) (sc kc:Nat) (sbs kbs:List Nat),e= .returned (ptrV g)/\w.heap.size<=g/\sbs.length=l.room.length/\kbs.length=l.run.length/\TrkIn w' w.heap.size g l SA KA sc kc sbs kbs (fun i t=>stAll i t (tabP ways)) (fun i t=>seAll i t (tabP ways))/\Bl w w':=by
 obtain⟨RA,hRA⟩:=eX l.RA;obtain⟨MA,hMA⟩:=eX l.MA;obtain⟨r,hr⟩:=eX l.run.length;obtain⟨m,hm⟩:=eX l.room.length;have hlo:=line_ok hok.line;have hrm:=hlo.2.2.1;have hm16:=hlo.1;have h1:=hl.rlc;have h2:=hl.rc2;have h3:=hl.mlc;have h4:=hl.mc2;have htl:=ht.le;have htc:=ht.cap;have Hn:=hI ht.len;have htn:tn<=32:=by have h:=hok.many;unfold tabP at h;rw[List.length_map] at h;rw[Hn.o];exact h
 rw[hr,hm] at hrm;rw[hm] at hm16;rw[hr] at h1;rw[hm] at h3;have hlv:lineV l= .agg #[.slice RA r l.rc,.slice MA m l.mc]:=by unfold lineV;rw[hRA,hMA,hr,hm]
 obtain⟨W0,hW0⟩:=eY (w.alloc (.cells #[.slice RA r l.rc,.slice MA m l.mc] 52));have hs0:W0.heap.size=w.heap.size+1:=by rw[hW0];simp
 have HB0:=hI (show Bl w W0 by rw[hW0];exact(zX _ _).alloc (zm _) _);have Q0:=hI (show W0.heap[w.heap.size]? =some (.cells #[.slice RA r l.rc,.slice MA m l.mc] 52 (0,0)) by rw[hW0];exact zW _ _);obtain⟨W1,hW1⟩:=eY (W0.alloc (.cells #[.slice RA r l.rc,.slice MA m l.mc,.slice none 0 0,.slice none 0 0] 190));have hs1:W1.heap.size=w.heap.size+2:=by rw[hW1];simp;omega
 have HB1:=hI (show Bl W0 W1 by rw[hW1];exact(zX _ _).alloc (zm _) _);have HG1:=hI (show W1.heap[w.heap.size+1]? =some (.cells #[.slice RA r l.rc,.slice MA m l.mc,.slice none 0 0,.slice none 0 0] 190 (0,0)) by rw[hW1,<-hs0];exact zW _ _);have HL:=hI (show ∀X,Bl W0 X->TabIn X B TA tn tc ways from fun X hX=>ht.below ((HB0.o.trans (hX.mono (by omega))).mono hB));rw[hlv];have HT1:=hI (show TrkIn W1 W1.heap.size (w.heap.size+1) l none none 0 0 [] [] (fun _ _=>0) (fun _ _=>0) from⟨by rw[hRA,hr,hMA,hm];exact HG1.o,zU _ _ _ _,zU _ _ _ _,fun i hi=>absurd hi (by simp),fun i hi=>absurd hi (by simp),by simp,fun b hb=>absurd hb (by simp),.inl rfl⟩);have Hlr:=hI (show l.RA=RA/\l.run.length=r/\l.MA=MA/\l.room.length=m from⟨hRA,hr,hMA,hm⟩);have HW0:=hI hW0;have HW1:=hI hW1;have Hok:=hI hok;have q0:=kC 0 Q0.out rfl;have q1:=kC 1 Q0.out rfl;clear hW0 hW1 hl ht hlo hm hr hRA hMA hlv hok
 go_enter Tryz.func85,Tryz.ntmps85;go_upto_region 1 with fail;rw[<- HW0.o];go_upto_region 2 with fail;rw[<- HW1.o];have q1':=(HB1.o.cell (p:=⟨w.heap.size,1,none⟩) (by simp;omega)).trans q1;clear q0 q1;go_wp2;clear q1';go_loopw [16] (fun v16 wr=>∃(i:Nat) (SA:Option Addr) (sc:Nat) (sbs:List Nat),i<=m/\v16= .int .i64 i/\Hid (sbs.length=i)/\Hid (TrkIn wr W1.heap.size (w.heap.size+1) l SA none sc 0 sbs [] (fun _ _=>0) (fun _ _=>0))/\Hid (Below (w.heap.size+1) W0 wr)/\Hid (W1.heap.size<=wr.heap.size)) (fun v16 _=>m-(intOf v16).toNat);case atStart=>exact⟨0,none,0,[],by omega,rfl,hI rfl,HT1,hI (HB1.o.mono (by omega)),hI (zm _)⟩
 case round=>
  obtain⟨i,SA,sc,sbs,hi,rfl,Hlen,HT,Hb,Hs⟩:=hrel;have hsr:=Hs.o
  by_cases hlt:i<m
  ·have hblk:=HT.o.blk;rw[Hlen.o] at hblk;have p2:=kC 2 hblk rfl;have HO:=hI (show(wr.alloc (.cells Tryz.zeroCells195 195)).ownsRow W1.heap.size 191 1 (.slice SA i sc) i (sbs.map ptrV) by have h:=HT.o.sr.alloc (.cells Tryz.zeroCells195 195);rw[Hlen.o] at h;exact h);have Hblk:=hI hblk;clear hblk
   go_upto_region 5 with(at_builtin;go_loud (refine wpList_append1 rfl _ _ 188 rfl W1.heap.size 191 _ 1 8 elemM _ _ _ rfl HO.o #[.pointer (some ⟨wr.heap.size,0,none⟩)] 1 _ rfl (by simp) rfl (by simp[Value.oneCell']) (by omega) (by simp;omega) ?_);intro v7 w7 hown7 hb7 hsz7 hg7 hblk7;obtain⟨A7,c7,e7,q7,q8⟩:=own_cap' hown7;subst e7;have hgb:=(hg7.block (w.heap.size+1) (by have:=blk_lt Hblk.o;simp;omega) (fun e=>by have:=(HT.o.sr.lt _ (by rw[Hlen.o];exact e.symm)).1;omega)).trans ((zP _ _ _ (blk_lt Hblk.o)).trans Hblk.o);have f2:=kF 2 hgb;have z2:=kC 2 hgb rfl;have Ho7:=hI hown7;have Hb7:=hI hb7;have hs7:=hsz7;have Hg7:=hI hg7;clear hown7 hb7 hsz7 hg7 hblk7 hgb)
   obtain⟨X1,hX1⟩:=eY (w7.setCell ⟨w.heap.size+1,2,none⟩ (.slice A7 (i+1) c7));rw[<- hX1]
   have HN:=hI (show TrkIn X1 W1.heap.size (w.heap.size+1) l A7 none c7 0 (sbs++[wr.heap.size]) [] (fun _ _=>0) (fun _ _=>0) by
    rw[hX1,<-Hlen.o];exact HT.o.pushS hsr (by omega) (by rw[Hlen.o];exact Ho7.o) (by rw[Hlen.o];exact Hg7.o))
   have HNb:=hI (show Below (w.heap.size+1) W0 X1 by
    rw[hX1];exact((Hb.o.alloc (by omega) _).trans (Hb7.o.mono (by omega))).setCell (p:=⟨w.heap.size+1,2,none⟩) (by simp) _)
   have HNs:=hI (show W1.heap.size<=X1.heap.size by rw[hX1];simp[World.setCell] at hs7 ⊢;omega);clear hX1 p2 f2 z2;go_wp2;go_roundw;case rel=>exact⟨i+1,A7,c7,sbs++[wr.heap.size],by omega,by go_num,hI (by rw[zF,Hlen.o];rfl),HN,HNb,HNs⟩
   case measure=>simp[intOf];omega
  ·have him:i=m:=by omega
   have HSl:=hI (show sbs.length=m by rw[Hlen.o,him]);have q0:=(Hb.o.cell (p:=⟨w.heap.size,0,none⟩) (by simp)).trans (kC 0 Q0.out rfl);obtain⟨wa,rfl⟩:∃wa:World,wa=wr:=⟨_,rfl⟩
   clear him Hlen;go_wp2;clear q0;go_loopw [33] (fun v33 wr=>∃(k:Nat) (KA:Option Addr) (kc:Nat) (kbs:List Nat),k<=r/\v33= .int .i64 k/\Hid (kbs.length=k)/\Hid (TrkIn wr W1.heap.size (w.heap.size+1) l SA KA sc kc sbs kbs (fun _ _=>0) (fun _ _=>0))/\Hid (Below (w.heap.size+1) W0 wr)/\Hid (W1.heap.size<=wr.heap.size)) (fun v33 _=>r-(intOf v33).toNat);case atStart=>exact⟨0,none,0,[],by omega,rfl,hI rfl,HT,Hb,Hs⟩
   case round=>
    obtain⟨k,KA,kc,kbs,hk,rfl,Hlen,HT2,Hb2,Hs2⟩:=hrel;have hsr2:=Hs2.o
    by_cases hlt2:k<r
    ·have hblk:=HT2.o.blk;rw[Hlen.o] at hblk;have p3:=kC 3 hblk rfl;have HO:=hI (show(wr.alloc (.cells Tryz.zeroCells195 195)).ownsRow W1.heap.size 191 1 (.slice KA k kc) k (kbs.map ptrV) by have h:=HT2.o.kr.alloc (.cells Tryz.zeroCells195 195);rw[Hlen.o] at h;exact h);have Hblk:=hI hblk;clear hblk
     go_upto_region 9 with(at_builtin;go_loud (refine wpList_append1 rfl _ _ 188 rfl W1.heap.size 191 _ 1 8 elemM _ _ _ rfl HO.o #[.pointer (some ⟨wr.heap.size,0,none⟩)] 1 _ rfl (by simp) rfl (by simp[Value.oneCell']) (by omega) (by simp;omega) ?_);intro v7 w7 hown7 hb7 hsz7 hg7 hblk7;obtain⟨A7,c7,e7,q7,q8⟩:=own_cap' hown7;subst e7;have hgb:=(hg7.block (w.heap.size+1) (by have:=blk_lt Hblk.o;simp;omega) (fun e=>by have:=(HT2.o.kr.lt _ (by rw[Hlen.o];exact e.symm)).1;omega)).trans ((zP _ _ _ (blk_lt Hblk.o)).trans Hblk.o);have f3:=kF 3 hgb;have z3:=kC 3 hgb rfl;have Ho7:=hI hown7;have Hb7:=hI hb7;have hs7:=hsz7;have Hg7:=hI hg7;have Hk7:=hI hblk7;clear hown7 hb7 hsz7 hg7 hblk7 hgb)
     obtain⟨X1,hX1⟩:=eY (w7.setCell ⟨w.heap.size+1,3,none⟩ (.slice A7 (k+1) c7));rw[<- hX1]
     have HN:=hI (show TrkIn X1 W1.heap.size (w.heap.size+1) l SA A7 sc c7 sbs (kbs++[wr.heap.size]) (fun _ _=>0) (fun _ _=>0) by
      rw[hX1,<-Hlen.o];exact HT2.o.pushK hsr2 (by omega) (by rw[Hlen.o];exact Ho7.o) (by rw[Hlen.o];exact Hg7.o) (by rw[Hlen.o];exact Hk7.o))
     have HNb:=hI (show Below (w.heap.size+1) W0 X1 by
      rw[hX1];exact((Hb2.o.alloc (by omega) _).trans (Hb7.o.mono (by omega))).setCell (p:=⟨w.heap.size+1,3,none⟩) (by simp) _)
     have HNs:=hI (show W1.heap.size<=X1.heap.size by rw[hX1];simp[World.setCell] at hs7 ⊢;omega);clear hX1 p3 f3 z3;go_wp2;go_roundw;case rel=>exact⟨k+1,A7,c7,kbs++[wr.heap.size],by omega,by go_num,hI (by rw[zF,Hlen.o];rfl),HN,HNb,HNs⟩
     case measure=>simp[intOf];omega
    ·have hkr:k=r:=by omega
     have HKl:=hI (show kbs.length=r by rw[Hlen.o,hkr]);obtain⟨wb,rfl⟩:∃wb:World,wb=wr:=⟨_,rfl⟩
     clear hkr Hlen;go_wp2;go_loopw [49] (fun v49 wr=>∃i:Nat,i<=tn/\v49= .int .i64 i/\Hid (TrkIn wr W1.heap.size (w.heap.size+1) l SA KA sc kc sbs kbs (fun s t=>stAll s t ((tabP ways).take i)) (fun s t=>seAll s t ((tabP ways).take i)))/\Hid (Below (w.heap.size+1) W0 wr)/\Hid (W1.heap.size<=wr.heap.size)) (fun v49 _=>tn-(intOf v49).toNat);case atStart=>exact⟨0,by omega,rfl,hI (by simp only[List.take_zero];exact HT2.o),Hb2,Hs2⟩
     case round=>
      obtain⟨i,hi3,rfl,HT3,Hb3,Hs3⟩:=hrel;have hsr3:=Hs3.o
      by_cases hlt3:i<tn
      ·have hil:i<ways.length:=by have:=Hn.o;omega
       have hinW:=HL.o wr (by show Below (W0.heap.size) W0 wr;rw[hs0];exact Hb3.o);obtain⟨tb,toff,hTA,htb,t0⟩:=hinW.cell hil;subst hTA;have hwm:=hinW.way _ (way_mem hil);have HWo:=hI (Hok.o.way _ (List.mem_map.2 ⟨_,way_mem hil,rfl⟩))
       have HTk:=hI (show(tabP ways).take (i+1)=(tabP ways).take i++[(ways.getD i default).calls] by
        have hl2:i<(tabP ways).length:=by unfold tabP;rw[List.length_map];exact hil
        rw[zK hl2]
        congr 2
        have:=tabP_getD hil;rw[zA,zB hl2,Option.getD_some] at this;exact this)
       obtain⟨Ti,hTi⟩:=eX ((tabP ways).take i)
       have HTl:=hI (show Ti.length<=32/\∀x∈Ti,x.length<=16 from⟨by rw[<- hTi,List.length_take];have:=Hok.o.many;omega,fun x hx=>by
        rw[<- hTi] at hx;have h5:=(Hok.o.way x (List.mem_of_mem_take hx)).len;have:=Hlr.o.2.2.2;omega⟩)
       rw[hTi] at HT3 HTk;have HSl2:=hI (show ∀X,Bl W0 X->Sl X B 3 encCall (ways.getD i default).A (ways.getD i default).calls from fun X hX=>((HL.o X hX).way _ (way_mem hil)).1);obtain⟨CA,hCA⟩:=eX ((ways.getD i default).A);obtain⟨cc,hcc⟩:=eX ((ways.getD i default).c);obtain⟨ws,hws⟩:=eX ((ways.getD i default).calls);obtain⟨n,hn⟩:=eX ws.length;rw[hCA,hws] at HSl2;rw[hws] at HWo HTk;rw[hws,hn,hCA,hcc] at t0;rw[hws,hn,hCA,hcc] at hwm;have hnc:=hwm.2.1;have hncc:=hwm.2.2;have hn16:n<=16:=by have h5:=HWo.o.len;have:=Hlr.o.2.2.2;omega
       have Hnn:=hI hn;clear hinW hwm hTi hCA hcc hws hn;obtain⟨wc,rfl⟩:∃wc:World,wc=wr:=⟨_,rfl⟩
       go_wp2;clear t0;go_loopw [55] (fun v55 wr=>∃k:Nat,k<=n/\v55= .int .i64 k/\Hid (TrkIn wr W1.heap.size (w.heap.size+1) l SA KA sc kc sbs kbs (fun s t=>stAll s t Ti+stWay s t (ws.take k)) (fun s t=>seAll s t Ti+seWay s t (ws.take k)))/\Hid (Below (w.heap.size+1) W0 wr)/\Hid (W1.heap.size<=wr.heap.size)) (fun v55 _=>n-(intOf v55).toNat);case atStart=>exact⟨0,by omega,rfl,hI (by simp only[List.take_zero,stWay,seWay,Nat.add_zero];exact HT3.o),Hb3,Hs3⟩
       case round=>
        obtain⟨k,hk4,rfl,HT4,Hb4,Hs4⟩:=hrel;have hsr4:=Hs4.o
        by_cases hlt4:k<n
        ·have hkl:k<ws.length:=by have:=Hnn.o;omega
         obtain⟨cb,off,hCA,hcb,hcs⟩:=(HSl2.o wr (by show Below (W0.heap.size) W0 wr;rw[hs0];exact Hb4.o)) (by omega)
         subst hCA;obtain⟨c0,c1,c2⟩:=call_cells hcs hkl;clear hcs;have hst:=HWo.o.st k hkl;have htm:=HWo.o.tm k hkl;have HTake:=hI (show ws.take (k+1)=ws.take k++[ws.getD k default] by rw[zK hkl,zA,zB hkl];rfl);have HSec:=hI (fun h0=>HWo.o.sec hkl h0);obtain⟨y,hy⟩:=eX (ws.getD k default);rw[hy] at c0 c1 c2 hst htm HTake HSec;have hrl:=Hlr.o.2.2.2;obtain⟨ys,hys⟩:∃x:Nat,y.st=(x:Int):=⟨y.st.toNat,by omega⟩
         obtain⟨ya,hya⟩:∃x:Nat,y.arr=(x:Int):=⟨y.arr.toNat,by omega⟩
         have hysm:ys<m:=by omega
         have hya1:ya<=100000:=by omega
         have hyl:(ya:Int)<=y.lv/\y.lv<=100000:=by omega
         obtain⟨yl,hyl0⟩:=eX y.lv;rw[hys] at c0;rw[hya] at c1;rw[hyl0] at c2 hyl;have Hyl0:=hI hyl0;have Hys:=hI hys;have Hya:=hI hya;obtain⟨hyl1,hyl2⟩:=hyl;obtain⟨W4,hW4⟩:=eY (wr.alloc (.cells #[.int .i64 (ys:Int),.int .i64 (ya:Int),.int .i64 yl] 66));have hs4:wr.heap.size<W4.heap.size:=by rw[hW4];simp
         have hb4:Bl wr W4:=by rw[hW4];exact(zX _ _).alloc (zm _) _
         have HC4:=hI (show W4.heap[wr.heap.size]? =some (.cells #[.int .i64 (ys:Int),.int .i64 (ya:Int),.int .i64 yl] 66 (0,0)) by rw[hW4];exact zW _ _);have HTW:=hI (show TrkIn W4 W1.heap.size (w.heap.size+1) l SA KA sc kc sbs kbs (fun s t=>stAll s t Ti+stWay s t (ws.take k)) (fun s t=>seAll s t Ti+seWay s t (ws.take k)) from HT4.o.below hb4);have HBW:=hI (show Below (w.heap.size+1) W0 W4 from Hb4.o.trans (hb4.mono (by omega)));have hysl:ys<sbs.length:=by rw[HSl.o];exact hysm
         obtain⟨sab,scap,hSe,_,hsab,_,_,hscs⟩:=owns_cells HTW.o.sr (by omega);have hscap:scap=sc/\SA=some ⟨sab,0,none⟩:=by injection hSe with h1 _ h3;exact⟨h3.symm,h1⟩
         obtain⟨rfl,rfl⟩:=hscap;have hcap1:=(own_caps1 HTW.o.sr)
         have d0:=hscs ys (ptrV (sbs.getD ys 0)) (by rw[List.getElem?_map,zB hysl,zA,zB hysl];rfl);rw[Nat.zero_add] at d0;unfold ptrV at d0;obtain⟨pS,hpS⟩:=eX (sbs.getD ys 0);rw[hpS] at d0;have HpS:=hI hpS;have hblk:=HTW.o.blk;rw[HSl.o] at hblk hcap1;have y2:=zV (kC 2 hblk rfl) (blk_lt hblk);have yd0:=zV d0 hsab;have yb0:=zV (kC 0 HC4.o rfl) hs4;have yb1:=zV (kC 1 HC4.o rfl) hs4;have yb2:=zV (kC 2 HC4.o rfl) hs4
         have HBd:=hI (show ∀t:Nat,stAll (ys:Int) t Ti+stWay (ys:Int) t (ws.take k)<=60000/\∀z:Int,seAll z t Ti+seWay z t (ws.take k)<=60000 from fun t=>by
          have h5:=stAll_le (ys:Int) t 16 Ti HTl.o.2;have h6:=stWay_le (ys:Int) t (ws.take k);have h7:(ws.take k).length<=16:=by rw[List.length_take];omega
          have h8:=HTl.o.1;refine⟨by omega,fun z=> ?_⟩;have h9:=seAll_le z t 16 Ti HTl.o.2;have h10:=seWay_le z t (ws.take k);omega)
         have HAd:=hI (fun(e:Later W4)=>add_any pS ya yl _ e.w (by have h:=(HTW.o.below e.b).st ys hysl;rw[hpS] at h;exact h) (fun t _=>(HBd.o t).1) (by omega) (by omega) hya1);clear hpS hy hys hya hyl0 hst htm hscs hSe d0 hblk hb4;go_upto_region 16 with fail;rw[<- hW4];clear hW4 c0 c1 c2;refine wp_region_later_tail 12 (by kernel_rfl) (by kernel_rfl) ?_;simp only[List.take_succ_cons,List.take_zero,List.drop_succ_cons,List.drop_zero]
         repeat (any_goals (first | go_big_quiet_step ((fail)) | quiet_step ((fail))))
         refine wpQuiet_nil ?_;rintro w' ⟨e,rfl⟩;have HTe:=hI (HTW.o.below e.b);have hse:=e.b.size;have HBe:=hI (show Below (w.heap.size+1) W0 e.w from HBW.o.trans (e.b.mono (by omega)));have HCe:=hI ((e.b.block _ hs4).trans HC4.o);go_upto_region 17 with(go_at_call 148;go_loud (refine(HAd.o e).mono ?_);rintro e5 w5 ⟨rfl,hg5,hm5⟩;have hs5:=hg5.size;have Hg5:=hI hg5;have Hm5:=hI hm5;clear hg5 hm5)
         have HT5:=hI (show TrkIn w5 W1.heap.size (w.heap.size+1) l (some ⟨sab,0,none⟩) KA scap kc sbs kbs (fun s t=>stAll s t Ti+stWay s t (ws.take (k+1))) (fun s t=>seAll s t Ti+seWay s t (ws.take k)) from HTe.o.addS hysl (by rw[HpS.o];exact Hg5.o) (by rw[HpS.o];exact Hm5.o) _ (fun j t _ _=>by
          rw[HTake.o,stWay_snoc]
          by_cases hj:j=ys
          ·subst hj;rw[if_pos rfl,<-Nat.add_assoc]
           congr 1
           unfold stIn;rw[Hys.o,Hya.o,Hyl0.o]
           by_cases h9:ya<=t/\(t:Int)<=yl
           ·rw[if_pos h9,if_pos ⟨rfl,by omega,h9.2⟩]
           ·rw[if_neg h9,if_neg (fun h=>h9 ⟨by omega,h.2.2⟩)]
          ·rw[if_neg hj];unfold stIn;rw[Hys.o,if_neg (fun h=>hj (by omega)),Nat.add_zero]))
         have hge:=HTe.o.ge (sbs.getD ys 0) (List.mem_append_left _ (getD_memN hysl));rw[HpS.o] at hge;have HB5:=hI (show Below (w.heap.size+1) W0 w5 from HBe.o.grown Hg5.o (by omega) (fun kk hkk=>by cases hkk;omega))
         have HC5:=hI (show w5.heap[wr.heap.size]? =some (.cells #[.int .i64 (ys:Int),.int .i64 (ya:Int),.int .i64 yl] 66 (0,0)) from(Hg5.o.block _ (by omega) (fun e9=>by
          have e8:=zJ e9;obtain⟨cs,h9,_⟩:=HTe.o.st ys hysl;rw[HpS.o,<-e8,HCe.o] at h9;cases h9)).trans HCe.o)
         clear y2 yd0 yb0 yb1 yb2 HAd
         by_cases hk0:k=0
         ·have HN:=hI (show TrkIn w5 W1.heap.size (w.heap.size+1) l (some ⟨sab,0,none⟩) KA scap kc sbs kbs (fun s t=>stAll s t Ti+stWay s t (ws.take (k+1))) (fun s t=>seAll s t Ti+seWay s t (ws.take (k+1))) by
           have e9:(fun(s t:Nat)=>seAll s t Ti+seWay s t (ws.take (k+1)))=fun(s t:Nat)=>seAll s t Ti+seWay s t (ws.take k):=by
            funext s t
            rw[HTake.o,seWay_snoc,List.length_take,if_pos (by omega),Nat.add_zero]
           rw[e9];exact HT5.o)
          have hk1: ¬ 0<k:=by omega
          have hsz:W1.heap.size<=w5.heap.size:=by omega
          have HSz:=hI hsz;clear hk0;go_wp2;go_roundw;case rel=>exact⟨k+1,by omega,by go_num,HN,HB5,HSz⟩
          case measure=>simp[intOf];omega
         ·have hk1:0<k:=by omega
          have hsec:=HSec.o hk0;have hkl1:k-1<ws.length:=by omega
          have hst1:=HWo.o.st (k-1) hkl1;have htm1:=HWo.o.tm (k-1) hkl1;obtain⟨cb',off',hCA',_,hcs'⟩:=(HSl2.o w5 (by show Below (W0.heap.size) W0 w5;rw[hs0];exact HB5.o)) (by omega)
          cases hCA';obtain⟨c0,_,c2⟩:=call_cells hcs' hkl1;clear hcs'
          have HTk0:=hI (show(ws.take k).length≠0/\(ws.take k).getD ((ws.take k).length-1) default=ws.getD (k-1) default by
           have hl9:(ws.take k).length=k:=by rw[List.length_take];omega
           rw[hl9];exact⟨by omega,by rw[zA,List.getElem?_take,if_pos (by omega),zA]⟩)
          obtain⟨x,hx⟩:=eX (ws.getD (k-1) default);rw[hx] at c0 c2 hst1 htm1 hsec HTk0;rw[Hys.o] at hsec;have hrl:=Hlr.o.2.2.2;obtain⟨kk,hkk⟩:∃z:Nat,min x.st (ys:Int)=(z:Int):=⟨(min x.st (ys:Int)).toNat,by omega⟩
          have hkkr:kk<r:=by omega
          obtain⟨xl,hxl⟩:∃z:Nat,x.lv=(z:Int):=⟨x.lv.toNat,by omega⟩
          have hxl1:xl<=100000:=by omega
          rw[hxl] at c2;obtain⟨xst,hxst⟩:=eX x.st;rw[hxst] at c0 hkk;have Hxst:=hI hxst;have Hxl:=hI hxl;have Hkk:=hI hkk;have HSe:=hI (fun X=>by have h:=section_any xst (ys:Int) X;rw[hkk] at h;exact h);have hkkl:kk<kbs.length:=by rw[HKl.o];exact hkkr
          obtain⟨kab,kcap,hKe,_,hkab,_,_,hkcs⟩:=owns_cells HT5.o.kr (by omega);have hkcap:kcap=kc/\KA=some ⟨kab,0,none⟩:=by injection hKe with h1 _ h3;exact⟨h3.symm,h1⟩
          obtain⟨rfl,rfl⟩:=hkcap;have hcap2:=(own_caps1 HT5.o.kr)
          have d0:=hkcs kk (ptrV (kbs.getD kk 0)) (by rw[List.getElem?_map,zB hkkl,zA,zB hkkl];rfl);rw[Nat.zero_add] at d0;unfold ptrV at d0;obtain⟨pK,hpK⟩:=eX (kbs.getD kk 0);rw[hpK] at d0;have HpK:=hI hpK;have hblk:=HT5.o.blk;rw[HKl.o] at hblk hcap2;have y3:=zV (kC 3 hblk rfl) (blk_lt hblk);have yd0:=zV d0 hkab;have hcb5:cb<w5.heap.size:=by omega
          have yc0:=zV c0 hcb5;have yc2:=zV c2 hcb5;have yb0:=zV (kC 0 HC5.o rfl) (by omega);have yb1:=zV (kC 1 HC5.o rfl) (by omega);have HAd:=hI (fun(e:Later w5)=>add_any pK xl ((ya:Int)-1) _ e.w (by have h:=(HT5.o.below e.b).se kk hkkl;rw[hpK] at h;exact h) (fun t _=>(HBd.o t).2 kk) (by omega) (by omega) hxl1);clear hpK hx hxst hxl hkk hst1 htm1 hsec hkcs hKe d0 hblk c0 c2 hk0 hrl;go_upto_region 18 with fail;refine wp_region_later_tail 24 (by kernel_rfl) (by kernel_rfl) ?_;simp only[List.take_succ_cons,List.take_zero,List.drop_succ_cons,List.drop_zero]
          repeat (any_goals (first | go_big_quiet_step ((go_at_call 147;exact later_call_same _ (HSe.o _))) | quiet_step ((go_at_call 147;exact later_call_same _ (HSe.o _)))))
          refine wpQuiet_nil ?_;rintro w' ⟨e2,rfl⟩;have HTe2:=hI (HT5.o.below e2.b);have hse2:=e2.b.size;have HBe2:=hI (show Below (w.heap.size+1) W0 e2.w from HB5.o.trans (e2.b.mono (by omega)));go_upto_region 19 with(go_at_call 148;go_loud (refine(HAd.o e2).mono ?_);rintro e6 w6 ⟨rfl,hg6,hm6⟩;have hs6:=hg6.size;have Hg6:=hI hg6;have Hm6:=hI hm6;clear hg6 hm6)
          have HN:=hI (show TrkIn w6 W1.heap.size (w.heap.size+1) l (some ⟨sab,0,none⟩) (some ⟨kab,0,none⟩) scap kcap sbs kbs (fun s t=>stAll s t Ti+stWay s t (ws.take (k+1))) (fun s t=>seAll s t Ti+seWay s t (ws.take (k+1))) from HTe2.o.addK hkkl (by rw[HpK.o];exact Hg6.o) (by rw[HpK.o];exact Hm6.o) _ (fun j t _ _=>by
           rw[HTake.o,seWay_snoc,if_neg HTk0.o.1,HTk0.o.2]
           by_cases hj:j=kk
           ·subst hj;rw[if_pos rfl,<-Nat.add_assoc]
            congr 1
            unfold seIn;rw[Hys.o,Hya.o,Hxl.o,Hxst.o,Hkk.o]
            by_cases h9:xl<=t/\(t:Int)<=(ya:Int)-1
            ·rw[if_pos h9,if_pos ⟨rfl,by omega,h9.2⟩]
            ·rw[if_neg h9,if_neg (fun h=>h9 ⟨by omega,h.2.2⟩)]
           ·rw[if_neg hj];unfold seIn;rw[Hys.o,Hxst.o,Hkk.o,if_neg (fun h=>hj (by omega)),Nat.add_zero]))
          have hge2:=HTe2.o.ge (kbs.getD kk 0) (List.mem_append_right _ (getD_memN hkkl));rw[HpK.o] at hge2;have HB6:=hI (show Below (w.heap.size+1) W0 w6 from HBe2.o.grown Hg6.o (by omega) (fun kk hkk=>by cases hkk;omega));have HSz:=hI (show W1.heap.size<=w6.heap.size by omega);clear y3 yd0 yc0 yc2 yb0 yb1 HAd;go_wp2;go_roundw;case rel=>exact⟨k+1,by omega,by go_num,HN,HB6,HSz⟩
          case measure=>simp[intOf];omega
        ·have HN:=hI (show TrkIn wr W1.heap.size (w.heap.size+1) l SA KA sc kc sbs kbs (fun s t=>stAll s t ((tabP ways).take (i+1))) (fun s t=>seAll s t ((tabP ways).take (i+1))) by
          have h9:ws.take k=ws:=zG (by have:=Hnn.o;omega);have h:=HT4.o;rw[h9] at h;simp only[HTk.o,stAll_snoc,seAll_snoc];exact h)
         go_wp2;go_roundw;case rel=>exact⟨i+1,by omega,by go_num,HN,Hb4,Hs4⟩
         case measure=>simp[intOf];omega
      ·have h9:(tabP ways).take i=tabP ways:=zG (by unfold tabP;rw[List.length_map];have:=Hn.o;omega)
       have HR:=hI (show ∃(g:Nat) (SA KA:Option Addr) (sc kc:Nat) (sbs kbs:List Nat),Ending.returned (.pointer (some ⟨w.heap.size+1,0,none⟩))= .returned (ptrV g)/\w.heap.size<=g/\sbs.length=l.room.length/\kbs.length=l.run.length/\TrkIn wr w.heap.size g l SA KA sc kc sbs kbs (fun i t=>stAll i t (tabP ways)) (fun i t=>seAll i t (tabP ways))/\Bl w wr from by
        refine⟨w.heap.size+1,SA,KA,sc,kc,sbs,kbs,rfl,by omega,by rw[HSl.o];exact Hlr.o.2.2.2.symm,by rw[HKl.o];exact Hlr.o.2.1.symm,?_,HB0.o.trans (Hb3.o.mono (by omega))⟩;have h:=HT3.o;rw[h9] at h;exact h.mono (by omega))
       clear h9;go_wp2;go_ret;exact HR.o
end Go.Proofs.YtjpgnfekbojcaaaGreat
