/- Fail. -/
import Derived.Test.YtjpgnfekbojcaaaGreatWFOwn
import Derived.Test.YtjpgnfekbojcaaaGreatWSer
set_option maxHeartbeats 16000000
set_option maxRecDepth 100000
namespace Go.Proofs.YtjpgnfekbojcaaaGreat
open Go.RowKit W7 W8
attribute [local go_sem] Oper.semAt_some
def failJ (j:JobP) (st:List Int) (now r until':Int):JobP:=if failErr j st now r until'=0 then failJob j r.toNat now until' else⟨[],[]⟩
def failSt (j:JobP) (st:List Int) (now r until':Int):List Int:=if failErr j st now r until'=0 then(failRun j st now r until').2.st else[]
structure FailR (j:Job) (st:List Int) (now r until':Int) (w:World) (e:Ending) (w':World):Prop where
 ex:∃(j':Job) (v:Value),e= .returned (.tuple #[jobV j',v,.int .i64 (failErr j.p st now r until')])/\JOwn w' w.heap.size j'/\j'.p=failJ j.p st now r until'/\w'.ownsRow w.heap.size 3 1 v (failSt j.p st now r until').length ((failSt j.p st now r until').map (Value.int .i64))
 bel:Bl w w'
def noJob:Job:=⟨none,0,[],none,0,[]⟩
theorem noJob_own (X:World) (base:Nat):JOwn X base noJob:=⟨⟨World.ownsRow_nil _ _ _ _,fun t ht=>absurd ht (by simp[noJob])⟩,⟨World.ownsRow_nil _ _ _ _,fun t ht=>absurd ht (by simp[noJob])⟩⟩
theorem FailR.bad {j:Job} {st:List Int} {now r until' err:Int} {w w':World} (h:failErr j.p st now r until'=err) (h0:err≠0) (hb:Bl w w'):FailR j st now r until' w (.returned (.tuple #[.agg #[.slice none 0 0,.slice none 0 0],.slice none 0 0,.int .i64 err])) w':=by
 have h1:failErr j.p st now r until'≠0:=by rw[h];exact h0
 exact⟨⟨noJob,.slice none 0 0,by rw[h];rfl,noJob_own _ _,by unfold failJ;rw[if_neg h1];rfl,by unfold failSt;rw[if_neg h1];exact World.ownsRow_nil _ _ _ _⟩,hb⟩
theorem failErr_len {j:JobP} {st:List Int} {now r until':Int} (h:lnErr j st≠0):failErr j st now r until'=lnErr j st:=by unfold failErr;rw[if_pos h]
theorem failErr_no {j:JobP} {st:List Int} {now r until':Int} (h:lnErr j st=0) (h2:withinB r 0 ((j.res.length:Int)-1)=false):failErr j st now r until'=7:=by unfold failErr;rw[if_neg (by simpa using h),if_neg (by rw[h2];decide)]
theorem failErr_arg {j:JobP} {st:List Int} {now r until':Int} (h:lnErr j st=0) (h2:withinB r 0 ((j.res.length:Int)-1)=true) (h3:(isTm now&&isTm until'&&decide (now<=until'))=false):failErr j st now r until'=1:=by unfold failErr;rw[if_neg (by simpa using h),if_pos h2,if_neg (by rw[h3];decide)]
theorem failErr_big {j:JobP} {st:List Int} {now r until':Int} (h:lnErr j st=0) (h2:withinB r 0 ((j.res.length:Int)-1)=true) (h3:(isTm now&&isTm until'&&decide (now<=until'))=true) (h4:16<(failOff j r.toNat now until').length):failErr j st now r until'=3:=by unfold failErr;rw[if_neg (by simpa using h),if_pos h2,if_pos h3,if_pos h4]
theorem BdIn.ne {X:World} {g sb pb:Nat} {j:Job} {b:Bd} {fr:Int} (h:BdIn X g sb pb j b fr):g≠sb/\g≠pb/\sb≠pb:=
 ⟨fun e=>by have h1:=h.hg;rw[e,h.hs] at h1;simp at h1,fun e=>by have h1:=h.hg;rw[e,h.hp] at h1;simp at h1,fun e=>by have h1:=h.hs;rw[e,h.hp] at h1;simp at h1⟩
theorem BdIn.putF {X:World} {g sb pb:Nat} {j:Job} {b:Bd} {fr:Int} (h:BdIn X g sb pb j b fr) (now:Int):BdIn (X.setCell ⟨g,4,none⟩ (.int .i64 now)) g sb pb j b now:=by
 obtain⟨h1,h2,_⟩:=h.ne;refine⟨?_,?_,?_,h.ns,h.np⟩
 ·rw[blk_set h.hg];rfl
 ·rw[blk_set_ne h1];exact h.hs
 ·rw[blk_set_ne h2];exact h.hp
theorem fail1_any (x:JUse) (r:Int) (bg:Nat) (w:World) (hc:w.cell? ⟨bg,0,none⟩=some (.int .i64 r)) (hb:bg<w.heap.size) :
  Calls Tryz.prog 74 #[.agg #[.int .i64 x.res,.int .i64 x.many],.pointer (some ⟨bg,0,none⟩)] w fun e w'=>e= .returned (.bool (x.res==r))/\Bl w w':=by
 go_enter Tryz.func74,Tryz.ntmps74;go_wp2;go_ret;exact⟨rfl,(by(repeat (refine Below.alloc ?_ (by first | exact Nat.le_refl _ | omega | (simp;done) | (simp;omega)) _));exact Below.refl _ _)⟩
def K2Later (w:World) (a b:Nat):Type:={ W:World // Kept2 w W a b }
def K2Later.w {w:World} {a b:Nat} (e:K2Later w a b):World:=e.1
theorem failErr_run {j:JobP} {st:List Int} {now r until':Int} (h:lnErr j st=0) (h2:withinB r 0 ((j.res.length:Int)-1)=true) (h3:(isTm now&&isTm until'&&decide (now<=until'))=true) (h4: ¬ 16<(failOff j r.toNat now until').length):failErr j st now r until'=if (failRun j st now r until').1 then 0 else 9:=by unfold failErr;rw[if_neg (by simpa using h),if_pos h2,if_pos h3,if_neg h4]
theorem fbd_ok {j:JobP} {st:List Int} {now q:Int} (hT:∀i,0<=st.getD i 0/\st.getD i 0<=100000) (i:Nat):BOk (fbd j st now q i):=fun k=>by
 unfold fbd;simp only[List.getD_eq_getElem?_getD,List.getElem?_map]
 by_cases hk:k<j.tasks.length
 ·rw[List.getElem?_range hk];simp only[Option.map_some,Option.getD_some]
  split
  ·have:=hT k
   rwa [List.getD_eq_getElem?_getD] at this
  ·exact⟨Int.le_refl _,by decide⟩
 ·rw[List.getElem?_eq_none (by simp;omega)];simp
theorem own_low {X Y:World} {base e k n b:Nat} {v:Value} {xs:List Value} (h:X.ownsRow base e k v n xs) (g:X.grownBy Y (some b)) (hb:b<base):Y.ownsRow base e k v n xs:=h.kept g (by
 cases hv:v.ownBlock with
 | none=>exact .inl rfl
 | some k=>
  refine .inr fun hk=> ?_
  have:=(h.lt k hv).1;have:=Option.some.inj hk;omega)
theorem JOwn.low {X Y:World} {base b:Nat} {j:Job} (h:JOwn X base j) (g:X.grownBy Y (some b)) (hb:b<base):JOwn Y base j:=
 ⟨⟨own_low h.tk.row g hb,fun t ht=>⟨own_low (h.tk.tk t ht).ns g hb,own_low (h.tk.tk t ht).us g hb,(h.tk.tk t ht).nm⟩⟩,⟨own_low h.rs.row g hb,fun r hr=>⟨own_low (h.rs.rs r hr).os g hb,(h.rs.rs r hr).nm⟩⟩⟩
theorem JOwn.mono {X:World} {base base':Nat} {j:Job} (h:JOwn X base j) (hb:base'<=base):JOwn X base' j:=
 ⟨⟨own_mono h.tk.row hb,fun t ht=>⟨own_mono (h.tk.tk t ht).ns hb,own_mono (h.tk.tk t ht).us hb,(h.tk.tk t ht).nm⟩⟩,⟨own_mono h.rs.row hb,fun r hr=>⟨own_mono (h.rs.rs r hr).os hb,(h.rs.rs r hr).nm⟩⟩⟩
theorem Kept2.grownR {u v w:World} {a b:Nat} {row:Option Nat} (h:Kept2 u v a b) (g:v.grownBy w row) (hr:∀k,row=some k->u.heap.size<=k):Kept2 u w a b:=
 ⟨g.os.trans h.os,g.tape.trans h.tape,g.output.trans h.output,Nat.le_trans h.size g.size,fun i hi x y=>(g.block i (Nat.lt_of_lt_of_le hi h.size) (fun e=>by have:=hr i e.symm;omega)).trans (h.block i hi x y)⟩
theorem K2Later.k {w:World} {a b:Nat} (e:K2Later w a b):Kept2 w e.w a b:=e.2
theorem BdIn.kept {X Y:World} {g sb pb:Nat} {j:Job} {b:Bd} {fr:Int} (h:BdIn X g sb pb j b fr) (he:Y.heap=X.heap):BdIn Y g sb pb j b fr:=
 ⟨by rw[he];exact h.hg,by rw[he];exact h.hs,by rw[he];exact h.hp,h.ns,h.np⟩
theorem own_kept2 {w w':World} {base e size n a b:Nat} {v:Value} {xs:List Value} (h:w.ownsRow base e size v n xs) (k:Kept2 w w' a b) (hne:∀g,v.ownBlock=some g->g≠a/\g≠b):w'.ownsRow base e size v n xs:=
 ⟨h.1,h.2.imp id fun⟨g,cap,cur,h1,h2,h3,h4⟩=>⟨g,cap,cur,h1,h2,(by
  have hg:=(Array.getElem?_eq_some_iff.1 h3).1;have:=hne g (by rw[h1];rfl);exact(k.block g hg this.1 this.2).trans h3),h4⟩⟩
theorem Kept2.of_new {u w w':World} {a b B:Nat} (h:Below B w w') (_ha:a<B) (_hb:b<B) (hk:Kept2 u w a b) (hB:u.heap.size<=B) (hs:w.heap.size<=w'.heap.size):Kept2 u w' a b:=
 ⟨h.os.trans hk.os,h.tape.trans hk.tape,h.output.trans hk.output,Nat.le_trans hk.size hs,fun i hi x y=>(h.block i (by omega)).trans (hk.block i hi x y)⟩
set_option maxHeartbeats 1000000 in
theorem idxFail1_any (P:JUse->Bool) (a0:Value) (xs:List JUse) (n:Nat) (hn:n=xs.length) (A:Option Addr) (c B:Nat) (w:World) (hA:Sl w B 2 encUse A xs) (hB:B<=w.heap.size) (hl:xs.length<=9223372036854775807)
    (hF:∀(x:JUse),x∈xs->∀(W:World),Bl w W->Calls Tryz.prog 74 #[.agg #[.int .i64 x.res,.int .i64 x.many],a0] W fun e w'=>e= .returned (.bool (P x))/\Bl W w') :
    Calls Tryz.prog 145 #[.slice A n c,.func (.func 74) #[] #[a0]] w fun e w'=>e= .returned (.int .i64 (idxB P xs))/\Bl w w':=by
  subst hn;have HA:=hI hA;have HF:=hI hF;clear hA hF;go_enter Tryz.func145,Tryz.ntmps145;go_wp2;go_loopw [8] (fun i wr=>∃k:Nat,k<=xs.length/\i= .int .i64 k/\Hid ((xs.take k).any P=false)/\Hid (Bl w wr)) (fun i _=>xs.length-(intOf i).toNat);case atStart=>exact⟨0,by omega,rfl,hI (by simp),hI (Below.refl _ _)⟩
  case round=>
    obtain⟨k,hk,rfl,Hno,Hb⟩:=hrel;have hsz:=Hb.o.size
    by_cases hlt:k<xs.length
    · obtain⟨b,off,rfl,hbB,hcells⟩:=(HA.o.below (Hb.o.mono hB)) (by omega)
      have h0:=hcells k hlt;clear hcells;have c0:wr.cell? ⟨b,off+k*2,none⟩=some (.int .i64 xs[k].res):=h0 0 _ rfl;have c1:wr.cell? ⟨b,off+k*2+1,none⟩=some (.int .i64 xs[k].many):=h0 1 _ rfl;have Hs:=hI (any_take_succ (p:=P) hlt Hno.o);have Hh:=hI (idxB_hit (p:=P) hlt Hno.o);have HK:=hI (fun(W:World) (hW:Bl w W)=>HF.o xs[k] (List.getElem_mem hlt) W hW);generalize xs[k]=x at c0 c1 Hs Hh HK;clear h0;cases hp:P x
      · have HK2:=hI (fun(W:World) (hW:Bl w W)=>hp▸HK.o W hW)
        go_wp2_with (go_at_call 74;refine(HK2.o _ (by first | exact Hb.o | exact Hb.o.alloc (by omega) _)).mono ?_;rintro e w1 ⟨rfl,hb1⟩;have Hb1:=hI hb1;clear hb1);go_roundw;case rel=>exact⟨k+1,by omega,by go_num,hI (Hs.o hp),hI (by first | exact Hb.o.trans (Hb1.o.mono hsz) | exact(Hb.o.alloc (by omega) _).trans (Hb1.o.mono (by simp;omega)))⟩
        case measure=>simp[intOf];omega
      · have HK2:=hI (fun(W:World) (hW:Bl w W)=>hp▸HK.o W hW)
        go_wp2_with (go_at_call 74;refine(HK2.o _ (by first | exact Hb.o | exact Hb.o.alloc (by omega) _)).mono ?_;rintro e w1 ⟨rfl,hb1⟩;have Hb1:=hI hb1;clear hb1);go_ret;exact⟨ret_int (Hh.o hp).symm,(by first | exact Hb.o.trans (Hb1.o.mono hsz) | exact(Hb.o.alloc (by omega) _).trans (Hb1.o.mono (by simp;omega)))⟩
    · have HN:=hI (idxB_none (p:=P) (xs:=xs) (by rw[<- Hno.o,List.take_of_length_le (by omega)]))
      go_wp2;go_ret;exact⟨ret_int HN.o.symm,Hb.o⟩
theorem conFail1_any (P:JUse->Bool) (a0:Value) (xs:List JUse) (n:Nat) (hn:n=xs.length) (A:Option Addr) (c B:Nat) (w:World) (hA:Sl w B 2 encUse A xs) (hB:B<=w.heap.size) (hl:xs.length<=9223372036854775807)
    (hF:∀(x:JUse),x∈xs->∀(W:World),Bl w W->Calls Tryz.prog 74 #[.agg #[.int .i64 x.res,.int .i64 x.many],a0] W fun e w'=>e= .returned (.bool (P x))/\Bl W w') :
    Calls Tryz.prog 73 #[.slice A n c,.func (.func 74) #[] #[a0]] w fun e w'=>e= .returned (.bool (xs.any P))/\Bl w w':=by
  have H:=hI (idxFail1_any P a0 xs n hn A c B w hA hB hl hF);have HI:=hI (idxB_any (p:=P) (xs:=xs));clear hA hn hF;go_enter Tryz.func73,Tryz.ntmps73;go_wp2_with (go_at_call 145;refine H.o.mono ?_;rintro e w1 ⟨rfl,hb1⟩;have Hb1:=hI hb1;clear hb1);go_ret;exact⟨ret_bool HI.o,Hb1.o⟩

theorem Fail_any (j:Job) (st:List Int) (now r until':Int) (SA:Option Addr) (sn sc B:Nat) (w:World) (hj:JIn w B j) (hB:B<=w.heap.size) (hS:Slim j) (hN:JNil j) (hst:StIn w B SA sn sc st) (h19:jobErr j.p=0->j.tasks.length<=19) :
  Calls Tryz.prog 22 #[jobV j,.slice SA sn sc,.int .i64 now,.int .i64 r,.int .i64 until'] w (FailR j st now r until' w):=by
 obtain⟨n,hn⟩:∃n,j.tasks.length=n:=⟨_,rfl⟩
 obtain⟨TA,hTA⟩:∃x,j.TA=x:=⟨_,rfl⟩
 obtain⟨RA,hRA⟩:∃x,j.RA=x:=⟨_,rfl⟩
 obtain⟨nr,hnr⟩:∃x,j.res.length=x:=⟨_,rfl⟩
 have hjv:jobV j= .agg #[.slice TA n j.tc,.slice RA nr j.rc]:=by unfold jobV;rw[hn,hTA,hRA,hnr]
 obtain⟨W0,hW0⟩:∃W0,W0=((((w.alloc (.cells #[.slice TA n j.tc,.slice RA nr j.rc] 25)).alloc (.cells #[.slice SA sn sc] 26)).alloc (.cells #[.int .i64 r] 3)).alloc (.cells #[.slice none 0 0,.slice none 0 0] 25)):=⟨_,rfl⟩
 have hs0:W0.heap.size=w.heap.size+4:=by rw[hW0];simp
 have HB0:=hI (show Bl w W0 by rw[hW0];exact((((Below.refl w.heap.size w).alloc (Nat.le_refl _) _).alloc (by simp) _).alloc (by simp;omega) _).alloc (by simp;omega) _);have HX00:=hI (show ∀X:World,Bl W0 X->X.heap[w.heap.size]? =some (.cells #[.slice TA n j.tc,.slice RA nr j.rc] 25 (0,0)) from fun X hX=>(hX.block _ (by omega)).trans (by rw[hW0,Below.heap_alloc _ _ _ (by simp;try omega),Below.heap_alloc _ _ _ (by simp;try omega),Below.heap_alloc _ _ _ (by simp)];exact heap_alloc_new _ _))
 have HX01:=hI (show ∀X:World,Bl W0 X->X.heap[w.heap.size+1]? =some (.cells #[.slice SA sn sc] 26 (0,0)) from fun X hX=>(hX.block _ (by omega)).trans (by rw[hW0,Below.heap_alloc _ _ _ (by simp;try omega),Below.heap_alloc _ _ _ (by simp;try omega)];exact(by have h9:=heap_alloc_new (w.alloc (.cells #[.slice TA n j.tc,.slice RA nr j.rc] 25)) (.cells #[.slice SA sn sc] 26);rwa [show(w.alloc (.cells #[.slice TA n j.tc,.slice RA nr j.rc] 25)).heap.size=w.heap.size+1 by simp] at h9)))
 have HX02:=hI (show ∀X:World,Bl W0 X->X.heap[w.heap.size+2]? =some (.cells #[.int .i64 r] 3 (0,0)) from fun X hX=>(hX.block _ (by omega)).trans (by rw[hW0,Below.heap_alloc _ _ _ (by simp;try omega)];exact(by have h9:=heap_alloc_new ((w.alloc (.cells #[.slice TA n j.tc,.slice RA nr j.rc] 25)).alloc (.cells #[.slice SA sn sc] 26)) (.cells #[.int .i64 r] 3);rwa [show((w.alloc (.cells #[.slice TA n j.tc,.slice RA nr j.rc] 25)).alloc (.cells #[.slice SA sn sc] 26)).heap.size=w.heap.size+2 by simp] at h9)))
 have HX03:=hI (show ∀X:World,Bl W0 X->X.heap[w.heap.size+3]? =some (.cells #[.slice none 0 0,.slice none 0 0] 25 (0,0)) from fun X hX=>(hX.block _ (by omega)).trans (by rw[hW0];exact(by have h9:=heap_alloc_new (((w.alloc (.cells #[.slice TA n j.tc,.slice RA nr j.rc] 25)).alloc (.cells #[.slice SA sn sc] 26)).alloc (.cells #[.int .i64 r] 3)) (.cells #[.slice none 0 0,.slice none 0 0] 25);rwa [show(((w.alloc (.cells #[.slice TA n j.tc,.slice RA nr j.rc] 25)).alloc (.cells #[.slice SA sn sc] 26)).alloc (.cells #[.int .i64 r] 3)).heap.size=w.heap.size+3 by simp] at h9)));have HU0:=hI (fun(X:World) (hX:Bl W0 X)=>show Bl w X from HB0.o.trans (hX.mono (by omega)));have HW0:=hI hW0;clear hW0;have HJ:=hI (show ∀X:World,Bl W0 X->JIn X B j/\StIn X B SA sn sc st from fun X hX=>⟨hj.below ((HU0.o X hX).mono hB),hst.below ((HU0.o X hX).mono hB)⟩)
 have HL:=hI (Length_any j st SA sn sc B W0 (HJ.o W0 (Below.refl _ _)).1 (by omega) hS (HJ.o W0 (Below.refl _ _)).2);have hlr:=hj.rl;have hcr:=hj.rc;have hnr9:=hS.nr;rw[hnr] at hlr hnr9;have Hn:=hI hn;have Hnr:=hI hnr;have Hjv:=hI hjv;have HN:=hI hN;have H19:=hI h19;rw[hjv] at HL ⊢;obtain⟨le,hle⟩:∃x,lnErr j.p st=x:=⟨_,rfl⟩
 obtain⟨lv,hlv⟩:∃x,lnV j.p st=x:=⟨_,rfl⟩
 rw[hle,hlv] at HL;have Hle:=hI hle;have q0:=W7.bc (j:=0) (HX00.o W0 (Below.refl _ _)) rfl;have q1:=W7.bc (j:=1) (HX00.o W0 (Below.refl _ _)) rfl;have s0:=W7.bc (j:=0) (HX01.o W0 (Below.refl _ _)) rfl;clear hj hS hN hst hn hTA hRA hnr hjv hle hlv h19;go_enter Tryz.func22,Tryz.ntmps22;go_upto_region 1 with fail;rw[<- HW0.o];go_upto_region 2 with(go_at_call 39;refine HL.o.mono ?_;rintro e w1 ⟨rfl,hb1⟩;have hs1:=hb1.size;have Hb1:=hI hb1;clear hb1)
 clear q0 q1 s0 HL;have g0:=W7.bc (j:=0) (HX03.o w1 Hb1.o) rfl;have g1:=W7.bc (j:=1) (HX03.o w1 Hb1.o) rfl;have f0:=W7.bf (j:=0) (HX03.o w1 Hb1.o);have f1:=W7.bf (j:=1) (HX03.o w1 Hb1.o);obtain⟨X1,hX1⟩:∃X1,(w1.setCell ⟨w.heap.size+1+1+1,0,none⟩ (.slice none 0 0)).setCell ⟨w.heap.size+1+1+1,1,none⟩ (.slice none 0 0)=X1:=⟨_,rfl⟩
 have hG1:X1.heap[w.heap.size+3]? =some (.cells #[.slice none 0 0,.slice none 0 0] 25 (0,0)):=by rw[<- hX1,blk_set (blk_set (HX03.o w1 Hb1.o) _)];rfl
 have HEnd:=hI (show ∀err:Int,failErr j.p st now r until'=err->err≠0->FailR j st now r until' w (.returned (.tuple #[.agg #[.slice none 0 0,.slice none 0 0],.slice none 0 0,.int .i64 err])) X1 from fun err h h0=>FailR.bad h h0 (by rw[<- hX1];exact((HU0.o _ Hb1.o).setCell (p:=⟨w.heap.size+3,0,none⟩) (by simp) _).setCell (p:=⟨w.heap.size+3,1,none⟩) (by simp) _));have e0:=W7.bc (j:=0) hG1 rfl;have e1:=W7.bc (j:=1) hG1 rfl;have HX1:=hI hX1;clear hX1 hG1;cases h0:(le==0)
 ·have h0':(le != 0)=true:=by simp[bne,h0]
  have hne:le≠0:=fun h=>by rw[h] at h0;cases h0
  have HR:=hI (HEnd.o le (by rw[failErr_len (by rw[Hle.o];exact hne),Hle.o]) hne);clear HEnd hne;go_wp2;rw[HX1.o];refine bodyPost_ret (v:= .tuple #[.agg #[.slice none 0 0,.slice none 0 0],.slice none 0 0,.int .i64 le]) (by simp[results,Tryz.results22,go_sem,e0,e1]) rfl ?_;exact HR.o
 have h0':(le != 0)=false:=by simp[bne,h0]
 obtain rfl:=eq_of_beq h0;have q0:=W7.bc (j:=0) (HX00.o w1 Hb1.o) rfl;have q1:=W7.bc (j:=1) (HX00.o w1 Hb1.o) rfl;have r0:=W7.bc (j:=0) (HX02.o w1 Hb1.o) rfl;cases hW:withinB r 0 ((nr:Int)-1)
 ·have HR:=hI (HEnd.o 7 (failErr_no Hle.o (by rw[j.nr,Hnr.o];exact hW)) (by decide));clear HEnd;go_wp2_with (go_at_call 62;refine(within_any _ _ _ _).mono ?_;rintro e w' ⟨rfl,rfl⟩);rw[HX1.o];refine bodyPost_ret (v:= .tuple #[.agg #[.slice none 0 0,.slice none 0 0],.slice none 0 0,.int .i64 7]) (by simp[results,Tryz.results22,go_sem,e0,e1]) rfl ?_;exact HR.o
 cases hT1:isTm now
 ·have HR:=hI (HEnd.o 1 (failErr_arg Hle.o (by rw[j.nr,Hnr.o];exact hW) (by rw[hT1];rfl)) (by decide));clear HEnd;go_wp2_with (first | (go_at_call 62;refine(within_any _ _ _ _).mono ?_;rintro e w' ⟨rfl,rfl⟩) | (go_at_call 70;refine(isTime_any _ _).mono ?_;rintro e w' ⟨rfl,rfl⟩));rw[HX1.o];refine bodyPost_ret (v:= .tuple #[.agg #[.slice none 0 0,.slice none 0 0],.slice none 0 0,.int .i64 1]) (by simp[results,Tryz.results22,go_sem,e0,e1]) rfl ?_;exact HR.o
 cases hT2:isTm until'
 ·have HR:=hI (HEnd.o 1 (failErr_arg Hle.o (by rw[j.nr,Hnr.o];exact hW) (by rw[hT1,hT2];rfl)) (by decide));clear HEnd;go_wp2_with (first | (go_at_call 62;refine(within_any _ _ _ _).mono ?_;rintro e w' ⟨rfl,rfl⟩) | (go_at_call 70;refine(isTime_any _ _).mono ?_;rintro e w' ⟨rfl,rfl⟩));rw[HX1.o];refine bodyPost_ret (v:= .tuple #[.agg #[.slice none 0 0,.slice none 0 0],.slice none 0 0,.int .i64 1]) (by simp[results,Tryz.results22,go_sem,e0,e1]) rfl ?_;exact HR.o
 by_cases hlt:until'<now
 ·have HR:=hI (HEnd.o 1 (failErr_arg Hle.o (by rw[j.nr,Hnr.o];exact hW) (by rw[hT1,hT2,decide_eq_false (show ¬now<=until' by omega)];rfl)) (by decide));clear HEnd;go_wp2_with (first | (go_at_call 62;refine(within_any _ _ _ _).mono ?_;rintro e w' ⟨rfl,rfl⟩) | (go_at_call 70;refine(isTime_any _ _).mono ?_;rintro e w' ⟨rfl,rfl⟩));rw[HX1.o];refine bodyPost_ret (v:= .tuple #[.agg #[.slice none 0 0,.slice none 0 0],.slice none 0 0,.int .i64 1]) (by simp[results,Tryz.results22,go_sem,e0,e1]) rfl ?_;exact HR.o
 clear HEnd e0 e1 HX1 X1
 have HJe:=hI (show jobErr j.p=0 by
  have h:=Hle.o;unfold lnErr at h
  by_cases hk:kpErr j.p st=0
  ·unfold kpErr at hk
   by_cases h2:jobErr j.p=0
   ·exact h2
   ·rw[if_pos h2] at hk;exact absurd hk h2
  ·rw[if_pos hk] at h;exact absurd h hk)
 have HG:=hI (good_of HJe.o);have H19:=hI (H19.o HJe.o);have HTw:=hI (twin_any j B w1 (HJ.o w1 Hb1.o).1 (by omega) HG.o HN.o);rw[Hjv.o] at HTw;have hrw:=withinB_true.1 hW;obtain⟨q,hq⟩:∃q:Nat,r=(q:Int):=⟨r.toNat,by omega⟩
 subst hq;have hql:q<nr:=by omega
 go_upto_region 9 with(first | (go_at_call 62;refine(within_any _ _ _ _).mono ?_;rintro e w' ⟨rfl,rfl⟩) | (go_at_call 70;refine(isTime_any _ _).mono ?_;rintro e w' ⟨rfl,rfl⟩) | (go_at_call 71;refine HTw.o.mono ?_;rintro e w2 ⟨j2,rfl,hp2,hj2,hb2⟩;have hs2:=hb2.size;have Hp2:=hI hp2;have Hj2:=hI hj2;have Hb2:=hI hb2;have hg2:=(hb2.block _ (by omega)).trans (HX03.o w1 Hb1.o);have f0:=W7.bf (j:=0) hg2;have f1:=W7.bf (j:=1) hg2;have g0:=bc (j:=0) hg2 rfl;have g1:=bc (j:=1) hg2 rfl;have Hg2:=hI hg2;unfold jobV;clear hp2 hj2 hb2 hg2))
 obtain⟨W3,hW3⟩:∃W3,(w2.setCell ⟨w.heap.size+1+1+1,0,none⟩ (.slice j2.TA j2.tasks.length j2.tc)).setCell ⟨w.heap.size+1+1+1,1,none⟩ (.slice j2.RA j2.res.length j2.rc)=W3:=⟨_,rfl⟩
 have hs3:W3.heap.size=w2.heap.size:=by rw[<- hW3];simp[World.setCell]
 have hG3:W3.heap[w.heap.size+3]? =some (.cells #[.slice j2.TA j2.tasks.length j2.tc,.slice j2.RA j2.res.length j2.rc] 25 (0,0)):=by rw[<- hW3,blk_set (blk_set Hg2.o _)];rfl
 have HJ3:=hI (show JOwn W3 w1.heap.size j2 by rw[<- hW3];exact(Hj2.o.setB (by omega) _).setB (by omega) _);have HB3:=hI (show Below (w.heap.size+3) W0 W3 by rw[<- hW3];exact(((Hb1.o.mono (by omega)).trans (Hb2.o.mono (by omega))).setCell (p:=⟨w.heap.size+1+1+1,0,none⟩) (by simp) _).setCell (p:=⟨w.heap.size+1+1+1,1,none⟩) (by simp) _);rw[hW3];have HG3:=hI hG3;have hs3':w2.heap.size<=W3.heap.size:=by omega
 clear hW3 f0 f1 g0 g1 hs3;have g0:=W7.bc (j:=0) hG3 rfl;have g1:=W7.bc (j:=1) hG3 rfl;clear hG3;have hrl2:j2.res.length=nr:=by rw[<- j2.nr,Hp2.o,j.nr,Hnr.o]
 have hq2:q<j2.res.length:=by omega
 obtain⟨gr,hgr⟩:∃gr,j2.RA=some ⟨gr,0,none⟩:=by
  rcases HJ3.o.rs.row.2 with⟨_,h1⟩ | ⟨g,cap,cur,e0,_⟩
  ·omega
  ·injection e0 with e1 _ _;exact⟨g,e1⟩
 have hji:=HJ3.o.jin;obtain⟨d0,d1,d2⟩:=hji.rcells hgr hq2;rw[Nat.zero_add] at d0 d1 d2;have hl2:=hji.rl;have hc2:=hji.rc;have hRq:=HJ3.o.rs.rs _ (j2.R_mem hq2);have hoff:(j2.R q).p.off=(j.p.res.getD q default).off:=by rw[<- j2.pR,Hp2.o]
 rw[hgr] at g1;obtain⟨OA,hOA⟩:∃x,(j2.R q).OA=x:=⟨_,rfl⟩
 obtain⟨no,hno⟩:∃x,(j2.R q).p.off.length=x:=⟨_,rfl⟩
 obtain⟨oc,hoc⟩:∃x,(j2.R q).oc=x:=⟨_,rfl⟩
 have hro:=hRq.os;rw[hOA,hno,hoc] at d2 hro;have hqj:q<j.p.res.length:=by rw[j.nr,Hnr.o];exact hql
 have hrm:j.p.res.getD q default∈j.p.res:=by rw[getD_of hqj];exact List.getElem_mem _
 have hno16:no<=16:=by have h:=HG.o.noff _ hrm;rw[<- hoff,hno] at h;exact h
 have htn:=isTm_true.1 hT1;have htu:=isTm_true.1 hT2
 have HJd:=hI (joined_any (j2.R q).p.off ⟨now,until'⟩ OA no oc W3.heap.size W3 hno.symm (sl_own hro lenP (by omega)) (Nat.le_refl _) (own_nil0 hro) (by omega) (fun x hx=>by
  rcases List.mem_append.1 hx with hx | hx
  ·rw[hoff] at hx;have:=HG.o.off _ hrm x hx;omega
  ·rw[List.mem_singleton.1 hx];simp only;omega))
 have r0:W3.cell? ⟨w.heap.size+2,0,none⟩=some (.int .i64 (q:Int)):=bc (j:=0) ((HB3.o.block _ (by omega)).trans (HX02.o W0 (Below.refl _ _))) rfl;have hfz:W3.frozen? ⟨gr,q*3+2,none⟩=false:=by have h:=HJ3.o.rs.row;rw[hgr] at h;exact h.frozenAt _
 have HFo:=hI (show failOff j.p q now until'=joinedV (j2.R q).p.off ⟨now,until'⟩ by unfold failOff;rw[hoff]);generalize (j2.R q).p.off=off at HJd HFo hoff hro;generalize joinedV off ⟨now,until'⟩=J at HJd HFo;go_upto_region 10 with fail;go_upto_region 11 with(go_at_call 72;go_loud (refine HJd.o.mono ?_);rintro e w4 ⟨v4,rfl,ho4,hb4⟩;obtain⟨A4,c4,rfl,q1,q2⟩:=own_cap' ho4;have hs4:=hb4.size;have Ho4:=hI ho4;have Hb4:=hI hb4;have HJ4:=hI (HJ3.o.below hb4);have m2:=(hb4.cell (p:=⟨gr,q*3+2,none⟩) (by have h:=HJ3.o.rs.row;rw[hgr] at h;exact(h.lt gr rfl).2)).trans d2;have mf:w4.frozen? ⟨gr,q*3+2,none⟩=false:=(by have h:=(HJ3.o.below hb4).rs.row;rw[hgr] at h;exact h.frozenAt _);clear ho4 hb4)
 obtain⟨W5,hW5⟩:∃W5,w4.setCell ⟨gr,q*3+2,none⟩ (.slice A4 J.length c4)=W5:=⟨_,rfl⟩
 have hgrl:w1.heap.size<=gr:=by have h:=HJ3.o.rs.row;rw[hgr] at h;exact(h.lt gr rfl).1
 have HJ5:=hI (show JOwn W5 w1.heap.size (j2.putOff q J A4 c4) by rw[<- hW5];exact HJ4.o.put hq2 hgr (own_mono Ho4.o (by omega)));have HP5:=hI (show(j2.putOff q J A4 c4).p=failJob j.p q now until' by rw[putOff_p,Hp2.o];unfold failJob;rw[HFo.o]);have HB5:=hI (show Below (w.heap.size+3) W0 W5 by rw[<- hW5];exact(HB3.o.trans (Hb4.o.mono (by omega))).setCell (p:=⟨gr,q*3+2,none⟩) (by simp;omega) _);have hs5:w4.heap.size<=W5.heap.size:=by rw[<- hW5];simp[World.setCell]
 have HG5:=hI (show W5.heap[w.heap.size+3]? =some (.cells #[.slice j2.TA j2.tasks.length j2.tc,.slice (some ⟨gr,0,none⟩) j2.res.length j2.rc] 25 (0,0)) by rw[<- hW5,blk_set_ne (by omega)];rw[<- hgr];exact(Hb4.o.block _ (by omega)).trans HG3.o);rw[hW5]
 have n2:W5.cell? ⟨gr,q*3+2,none⟩=some (.slice A4 J.length c4):=by
  have hx:=HJ5.o.jin;have h:=(hx.rcells (n:=q) hgr (by simp[Job.putOff];exact hq2)).2.2;rw[Nat.zero_add] at h;rw[h];unfold Job.putOff Job.R;simp[List.getD_eq_getElem?_getD,hq2,Res.putOff]
 clear hW5 m2 mf d0 d1 d2 g0 g1 r0 hfz
 by_cases hbig:16<J.length
 ·have hE:=failErr_big (j:=j.p) (st:=st) (now:=now) (r:=(q:Int)) (until':=until') Hle.o (by rw[j.nr,Hnr.o];exact hW) (by rw[hT1,hT2,decide_eq_true (show now<=until' by omega)];rfl) (by rw[Int.toNat_natCast,HFo.o];exact hbig);obtain⟨X1,hX1⟩:∃X1,(W5.setCell ⟨w.heap.size+1+1+1,0,none⟩ (.slice none 0 0)).setCell ⟨w.heap.size+1+1+1,1,none⟩ (.slice none 0 0)=X1:=⟨_,rfl⟩
  have hG1:X1.heap[w.heap.size+3]? =some (.cells #[.slice none 0 0,.slice none 0 0] 25 (0,0)):=by rw[<- hX1,blk_set (blk_set HG5.o _)];rfl
  have HR:=hI (show FailR j st now q until' w (.returned (.tuple #[.agg #[.slice none 0 0,.slice none 0 0],.slice none 0 0,.int .i64 3])) X1 from FailR.bad hE (by decide) (by rw[<- hX1];exact((HB0.o.trans (HB5.o.mono (by omega))).setCell (p:=⟨w.heap.size+3,0,none⟩) (by simp) _).setCell (p:=⟨w.heap.size+3,1,none⟩) (by simp) _));have e0:=W7.bc (j:=0) hG1 rfl;have e1:=W7.bc (j:=1) hG1 rfl;have g0:=W7.bc (j:=0) HG5.o rfl;have g1:=W7.bc (j:=1) HG5.o rfl;have f0:=W7.bf (j:=0) HG5.o;have f1:=W7.bf (j:=1) HG5.o;have HX1:=hI hX1;clear hG1 hE hX1;go_wp2;rw[HX1.o];refine bodyPost_ret (v:= .tuple #[.agg #[.slice none 0 0,.slice none 0 0],.slice none 0 0,.int .i64 3]) (by simp[results,Tryz.results22,go_sem,e0,e1]) rfl ?_;exact HR.o
 ·obtain⟨j5,hj5⟩:∃x,j2.putOff q J A4 c4=x:=⟨_,rfl⟩
  have hjv5:jobV j5= .agg #[.slice j2.TA j2.tasks.length j2.tc,.slice (some ⟨gr,0,none⟩) j2.res.length j2.rc]:=by rw[<- hj5];unfold jobV Job.putOff;simp[hgr]
  rw[hrl2] at hjv5;rw[hj5] at HJ5 HP5;have hn5:j5.tasks.length=n:=by have h1:=j5.nt;have h2:=j.nt;rw[HP5.o] at h1;unfold failJob at h1;rw[<- h1,<-Hn.o];exact h2
  have HOp:=hI (opened_any j5 W5 (by have:=Hn.o;have:=H19.o;omega));rw[hjv5] at HOp;have Hj5:=hI hj5;have Hjv5:=hI hjv5;have Hn5:=hI hn5;have g0:=W7.bc (j:=0) HG5.o rfl;have g1:=W7.bc (j:=1) HG5.o rfl;have hbg:decide ((16:Int)<(J.length:Int))=false:=by simp;omega
  clear hj5 hjv5 hn5 hbig;go_upto_region 14 with(go_at_call 64;go_loud (refine HOp.o.mono ?_);rintro e w6 ⟨⟨gb,sb,pb,rfl,hbd,hb1,hb2,hb3⟩,hb6⟩;have hs6:=hb6.size;have Hb6:=hI hb6;have Hbd:=hI hbd;clear hb6 hbd)
  have hc6:=bc (j:=4) Hbd.o.hg rfl;have hf6:=W7.bf (j:=4) Hbd.o.hg;go_upto_region 15 with fail;obtain⟨WB,hWB⟩:∃WB,w6.setCell ⟨gb,4,none⟩ (.int .i64 now)=WB:=⟨_,rfl⟩
  rw[hWB];have HBD:=hI (show BdIn WB gb sb pb j5 (fbd j.p st now q 0) now by rw[fbd_zero,<-hWB];have h:=Hbd.o.putF now;rw[show bd0 j5.p=bd0 j.p by unfold bd0;rw[HP5.o];rfl] at h;exact h);have HBw:=hI (show Bl W5 WB by rw[<- hWB];exact Hb6.o.setCell (p:=⟨gb,4,none⟩) hb1 _);have hsB:W5.heap.size<=WB.heap.size:=HBw.o.size;have HJi:=hI (show ∀X,Kept2 WB X sb pb->JIn X W5.heap.size j5 from fun X hX=>(HJ5.o.jin.below HBw.o).below (hX.below hb2 hb3 hsB));have HBo:=hI (show ∀X,Kept2 WB X sb pb->Below (w.heap.size+3) W0 X from fun X hX=>(HB5.o.trans (HBw.o.mono (by omega))).trans (hX.below (by omega) (by omega) (by omega)));have HGo:=hI (show ∀X,Kept2 WB X sb pb->X.heap[w.heap.size+3]? =some (.cells #[.slice j2.TA j2.tasks.length j2.tc,.slice (some ⟨gr,0,none⟩) j2.res.length j2.rc] 25 (0,0)) from fun X hX=>((hX.below (B:=W5.heap.size) hb2 hb3 hsB).block _ (by omega)).trans ((HBw.o.block _ (by omega)).trans HG5.o))
  clear hWB hc6 hf6 g0 g1 n2
  have HTm:=hI (show st.length=n/\∀i,0<=st.getD i 0/\st.getD i 0<=100000 by
   have h:=Hle.o;unfold lnErr at h
   by_cases hk:kpErr j.p st=0
   ·rw[if_neg (by simpa using hk)] at h
    by_cases h2:keepsV j.p st=true
    ·have hl:st.length=j.p.tasks.length:=by
      unfold kpErr at hk
      split at hk
      ·rename_i h3;exact absurd hk h3
      ·split at hk
       ·rename_i h4;exact h4
       ·exact absurd hk (by decide)
     exact⟨by rw[hl,j.nt,Hn.o],keepsV_time hl h2⟩
    ·rw[if_neg h2] at h;exact absurd h (by decide)
   ·rw[if_pos hk] at h;exact absurd h hk)
  have HST:=hI (show ∀X:World,Below (w.heap.size+3) W0 X->StIn X B SA sn sc st from fun X hX=>(HJ.o W0 (Below.refl _ _)).2.below (hX.mono (by omega)));have hsn:=(HST.o WB (HBo.o WB (Kept2.refl _ _ _))).len;have hsl:=(HST.o WB (HBo.o WB (Kept2.refl _ _ _))).le;have hsc:=(HST.o WB (HBo.o WB (Kept2.refl _ _ _))).cap;have Hsnn:=hI (show sn=n by rw[hsn];exact HTm.o.1);have hn2:j2.tasks.length=n:=by rw[<- j2.nt,Hp2.o,j.nt,Hn.o]
  obtain⟨T5,hT5⟩:∃x,j2.TA=x:=⟨_,rfl⟩
  have HT5:=hI (show j5.TA=T5 by rw[<- Hj5.o,<-hT5];rfl);have HPt:=hI (show ∀i,(j5.T i).p=j.p.tasks.getD i default from fun i=>by rw[<- j5.pT,HP5.o];rfl);have Hjv6:=hI (show jobV j5= .agg #[.slice T5 n j2.tc,.slice (some ⟨gr,0,none⟩) nr j2.rc] by rw[Hjv5.o,hn2,hT5]);rw[hn2,hT5,hrl2] at HGo;have hn19:n<=19:=by have:=Hn.o;have:=H19.o;omega
  have hB0:B<=w.heap.size:=hB;have HG2:=hI (show ∀X,Kept2 WB X sb pb->X.heap[w.heap.size+1]? =some (.cells #[.slice SA sn sc] 26 (0,0))/\X.heap[w.heap.size+2]? =some (.cells #[.int .i64 (q:Int)] 3 (0,0)) from fun X hX=>⟨((HBo.o X hX).block _ (by omega)).trans (HX01.o W0 (Below.refl _ _)),((HBo.o X hX).block _ (by omega)).trans (HX02.o W0 (Below.refl _ _))⟩);clear hsn hn2 hT5;obtain⟨FO,hFO⟩:∃FO:Nat->List Int,FO=ford j.p st now q:=⟨_,rfl⟩
  obtain⟨FB,hFB⟩:∃FB:Nat->Bd,FB=fbd j.p st now q:=⟨_,rfl⟩
  rw[<- hFB] at HBD;have HFL:=hI (show ∀i,(FO i).length<=i from fun i=>by rw[hFO];exact ford_len _ _ _ _ _);have HFN:=hI (show ∀i,keptB j.p st now q i=true->FO (i+1)=FO i/\FB (i+1)=⟨(FB i).st.set i (st.getD i 0),(FB i).pl.set i true⟩ from fun i h=>by rw[hFO,hFB];exact⟨ford_no h,fbd_yes h⟩);have HFY:=hI (show ∀i,keptB j.p st now q i=false->FO (i+1)=FO i++[(i:Int)]/\FB (i+1)=FB i from fun i h=>by rw[hFO,hFB];exact⟨ford_yes h,fbd_no h⟩);have HFO0:=hI (show FO 0=[] by rw[hFO];rfl);have HFO:=hI hFO;have HFB:=hI hFB;clear hFO hFB;have g0:=W7.bc (j:=0) (HGo.o WB (Kept2.refl _ _ _)) rfl;clear hsl hsc;go_wp2;clear g0;go_loopw [17,88] (fun v17 v88 wr=>∃i:Nat,i<=n/\v88= .int .i64 i/\Hid (Kept2 WB wr sb pb)/\Hid (BdIn wr gb sb pb j5 (FB i) now)/\Hid (wr.ownsRow WB.heap.size 3 1 v17 (FO i).length ((FO i).map (Value.int .i64)))) (fun _ v88 _=>n-(intOf v88).toNat)
  case atStart=>exact⟨0,by omega,rfl,hI (Kept2.refl _ _ _),HBD,hI (by rw[HFO0.o];exact World.ownsRow_nil _ _ _ _)⟩
  case round=>
   obtain⟨i,hi,rfl,HK,Hb,Ho⟩:=hrel;have hsk:=HK.o.size;obtain⟨AO,cO,hAO,hO1,hO2⟩:=own_cap' Ho.o;subst hAO
   by_cases hlt:i<n
   ·have hil:i<j5.tasks.length:=by have:=Hn5.o;omega
    have hjn:=HJi.o wr HK.o;obtain⟨tb,off,hTb,htb⟩:=hjn.ta (by omega);have hTe:T5=some ⟨tb,off,none⟩:=by rw[<- HT5.o];exact hTb
    subst hTe;obtain⟨c0,c1,c2,c3⟩:=hjn.tcells hTb hil;have HTk:=hI (hjn.tks _ (j5.T_mem hil));have HTp:=hI (HPt.o i);have htkb:0<=(j.p.tasks.getD i default).takes/\(j.p.tasks.getD i default).takes<=100000:=by rw[j.pT];exact HG.o.takes _ (j.Tp_mem (show i<j.tasks.length by have:=Hn.o;omega))
    generalize j5.T i=t at c0 c1 c2 c3 HTk HTp;obtain⟨s,hs⟩:∃s,st.getD i 0=s:=⟨_,rfl⟩
    have hsb:=HTm.o.2 i;rw[hs] at hsb;have Hs:=hI hs;have HKp:=hI (show keptB j.p st now q i=(decide (s<now)&& !(t.p.uses.any (fun u=>u.res==(q:Int))&&decide (now<s+t.p.takes))) by unfold keptB usesB;rw[<- HTp.o,hs])
    have hnu1:t.p.uses.length<=1000000000:=by
     have h:=uses_len HG.o (j.Tp_mem (show i<j.tasks.length by have:=Hn.o;omega));rw[<- j.pT,<-HTp.o] at h;omega
    obtain⟨NA,hNA⟩:∃x,t.NA=x:=⟨_,rfl⟩
    obtain⟨UA,hUA⟩:∃x,t.UA=x:=⟨_,rfl⟩
    obtain⟨nn,hnn⟩:∃x,t.p.needs.length=x:=⟨_,rfl⟩
    obtain⟨nu,hnu⟩:∃x,t.p.uses.length=x:=⟨_,rfl⟩
    obtain⟨tk,htk⟩:∃x,t.p.takes=x:=⟨_,rfl⟩
    obtain⟨nm,hnm⟩:∃x,t.p.name=x:=⟨_,rfl⟩
    rw[<- HTp.o,htk] at htkb;rw[hnm] at c0;rw[htk] at c1 HKp;rw[hNA,hnn] at c2;rw[hUA,hnu] at c3;obtain⟨W4,hW4⟩:∃W4,W4=wr.alloc (.cells #[.string nm,.int .i64 tk,.slice NA nn t.nc,.slice UA nu t.uc] 46):=⟨_,rfl⟩
    have hs4:W4.heap.size=wr.heap.size+1:=by rw[hW4];simp
    have hs4':wr.heap.size<W4.heap.size:=by omega
    have HB4:=hI (show Bl wr W4 by rw[hW4];exact(Below.refl _ _).alloc (Nat.le_refl _) _);have HT4:=hI (show W4.heap[wr.heap.size]? =some (.cells #[.string nm,.int .i64 tk,.slice NA nn t.nc,.slice UA nu t.uc] 46 (0,0)) by rw[hW4];exact heap_alloc_new _ _);have HK4:=hI (show Kept2 WB W4 sb pb from HK.o.trans (Kept2.of_below HB4.o));have HCn:=hI (conFail1_any (fun u=>u.res==(q:Int)) (.pointer (some ⟨w.heap.size+1+1,0,none⟩)) t.p.uses nu hnu.symm UA t.uc W5.heap.size W4 (by have h:=HTk.o.us.below (HB4.o.mono (by omega));rw[hUA] at h;exact h) (by omega) (by omega) (fun x _ W hW=>fail1_any x q (w.heap.size+2) W (bc (j:=0) ((hW.block _ (by omega)).trans (HG2.o W4 HK4.o).2) rfl) (by have:=hW.size;omega)));obtain⟨us,hus⟩:∃x,t.p.uses.any (fun u=>u.res==(q:Int))=x:=⟨_,rfl⟩
    rw[hus] at HCn HKp;have htl:=HTk.o.nl;have htc:=HTk.o.nc;have hul:=HTk.o.ul;have huc:=HTk.o.uc;rw[hnn] at htl;rw[hnu] at hul;have b1:=W7.bc (j:=1) HT4.o rfl;have b3:=W7.bc (j:=3) HT4.o rfl;clear hs hus hNA hUA hnn hnu htk hnm hTb hnu1 hs4;generalize t.nc=tnc at *;generalize t.uc=tuc at *;go_upto_region 19 with fail;rw[<- hW4];clear hW4 c0 c1 c2 c3;go_upto_region 20 with(go_at_call 73;go_loud (refine HCn.o.mono ?_);rintro e w5 ⟨rfl,hb5⟩;have hs5:=hb5.size;have Hb5:=hI hb5;clear hb5)
    have HK5:=hI (show Kept2 WB w5 sb pb from HK4.o.trans (Kept2.of_below Hb5.o));have HO5:=hI (show w5.ownsRow WB.heap.size 3 1 (.slice AO (FO i).length cO) (FO i).length ((FO i).map (Value.int .i64)) from own_below (own_below Ho.o HB4.o) Hb5.o);obtain⟨⟨S0,P0⟩,hFi⟩:∃x,FB i=x:=⟨_,rfl⟩
    have HFi:=hI hFi;have HB5':=hI (show BdIn w5 gb sb pb j5 ⟨S0,P0⟩ now by rw[<- hFi];exact(Hb.o.below HB4.o).below Hb5.o);clear hFi;obtain⟨ub,uo,hSA,hub,_⟩:=(HST.o w5 (HBo.o w5 HK5.o)).sl (by rw[HTm.o.1];omega);subst hSA
    have HSc:=hI (show ∀X,Kept2 WB X sb pb->X.cell? ⟨ub,uo+i,none⟩=some (.int .i64 s) from fun X hX=>by
     obtain⟨ub',uo',he,_,hcs⟩:=(HST.o X (HBo.o X hX)).sl (by rw[HTm.o.1];omega);cases he;have h:=hcs i (by rw[HTm.o.1];exact hlt) 0 _ rfl;rw[Nat.mul_one,Nat.add_zero] at h;rw[h,<-Hs.o,List.getD_eq_getElem?_getD,List.getElem?_eq_getElem (by rw[HTm.o.1];exact hlt)]
     rfl)
    have a0:=bc (j:=0) (HG2.o w5 HK5.o).1 rfl;have a1:=HSc.o w5 HK5.o;clear b1 b3;have ht5:=(Hb5.o.block _ hs4').trans HT4.o;have b1:=W7.bc (j:=1) ht5 rfl;have b3:=W7.bc (j:=3) ht5 rfl;clear ht5;obtain⟨hg1,hg2,hg3⟩:=Hb.o.ne;have hi5:=hil;obtain⟨hsb0,hsb1⟩:=hsb;obtain⟨htk0,htk1⟩:=htkb;have hnsn:i<sn:=by have:=Hsnn.o;omega
    cases hd1:decide (s<now)
    ·have HKt:=hI (show keptB j.p st now q i=false by rw[HKp.o,hd1,Bool.false_and])
     go_quiet (fail)
     obtain⟨w6',hw6⟩:∃w6',w6'=w5.drewN nq:=⟨_,rfl⟩
     have HB6:=hI (show BdIn w6' gb sb pb j5 (FB i) now by rw[hw6,HFi.o];exact HB5'.o.kept rfl);have HK6:=hI (show Kept2 WB w6' sb pb by rw[hw6];exact HK5.o.trans ⟨rfl,rfl,rfl,Nat.le_refl _,fun _ _ _ _=>rfl⟩);have HO6:=hI (show w6'.ownsRow WB.heap.size 3 1 (.slice AO (FO i).length cO) (FO i).length ((FO i).map (Value.int .i64)) by rw[hw6];exact own_below HO5.o (below_drewN (Below.refl _ _) _));have hlo:=HFL.o i;have hs6:=HK6.o.size;go_upto_region 22 with fail;rw[<- hw6];clear hw6 a0 a1 b1 b3;go_upto_region 23 with(at_builtin;go_loud (refine wpList_append1 rfl _ _ 26 rfl WB.heap.size 3 _ 1 8 elemI _ _ _ rfl HO6.o #[.int .i64 (i:Int)] 1 _ rfl (by simp) rfl (by simp[Value.oneCell']) (by omega) (by omega) ?_);intro v7 w7 hown7 hb7 hsz7 hg7 hblk7;have Ho7:=hI hown7;have Hb7:=hI hb7;have hs7:=hsz7;have Hg7:=hI hg7;clear hown7 hb7 hsz7 hg7 hblk7)
     have HFn:=hI (HFY.o i HKt.o);have HK7:=hI (show Kept2 WB w7 sb pb from Kept2.of_new Hb7.o (blk_lt (HBD.o.hs)) (blk_lt (HBD.o.hp)) HK6.o (Nat.le_refl _) (Nat.le_of_lt hs7));have HB7:=hI (show BdIn w7 gb sb pb j5 (FB i) now from HB6.o.grown_other Hg7.o (fun e=>by have:=HO6.o.lt gb e.symm;have:=blk_lt HBD.o.hg;omega) (fun e=>by have:=HO6.o.lt sb e.symm;have:=blk_lt HBD.o.hs;omega) (fun e=>by have:=HO6.o.lt pb e.symm;have:=blk_lt HBD.o.hp;omega));have HO7:=hI (show w7.ownsRow WB.heap.size 3 1 v7 (FO i++[(i:Int)]).length ((FO i++[(i:Int)]).map (Value.int .i64)) by rw[List.length_append,List.map_append];exact Ho7.o);go_wp2;go_roundw;case rel=>exact⟨i+1,by omega,by go_num,HK7,hI (by rw[HFn.o.2];exact HB7.o),hI (by rw[HFn.o.1];exact HO7.o)⟩
     case measure=>simp[intOf];omega
    cases us
    ·have HKt:=hI (show keptB j.p st now q i=true by rw[HKp.o,hd1];rfl)
     go_quiet (fail)
     obtain⟨w6',hw6⟩:∃w6',w6'=w5.drewN nq:=⟨_,rfl⟩
     have HB6:=hI (show BdIn w6' gb sb pb j5 ⟨S0,P0⟩ now by rw[hw6];exact HB5'.o.kept rfl);have HK6:=hI (show Kept2 WB w6' sb pb by rw[hw6];exact HK5.o.trans ⟨rfl,rfl,rfl,Nat.le_refl _,fun _ _ _ _=>rfl⟩);have HO6:=hI (show w6'.ownsRow WB.heap.size 3 1 (.slice AO (FO i).length cO) (FO i).length ((FO i).map (Value.int .i64)) by rw[hw6];exact own_below HO5.o (below_drewN (Below.refl _ _) _));have HY0:=hI (fun(X:World) (hX:Kept2 w6' X sb pb)=>bc (j:=0) (HG2.o X (HK6.o.trans hX)).1 rfl);have HY1:=hI (fun(X:World) (hX:Kept2 w6' X sb pb)=>HSc.o X (HK6.o.trans hX));go_upto_region 21 with fail;rw[<- hw6];clear hw6 a0 a1 b1 b3
     obtain⟨C,hC⟩:∃C:(Nat->Bool)->(Nat->Value)->World->Prop,C=fun L V w'=>∃(e:K2Later w6' sb pb),w'=e.w/\Hid (∃(bs:List Int) (bp:List Bool),BdIn e.w gb sb pb j5 ⟨bs,bp⟩ now/\(L 15=false->bs=S0)/\(L 15=true->bs=S0.set i s)/\(L 17=false->bp=P0)/\(L 17=true->bp=P0.set i true))/\(L 0=true->V 0= .pointer (some ⟨gb,0,none⟩))/\(L 1=true->V 1= .pointer (some ⟨gb,0,none⟩))/\(L 2=true->V 2= .pointer (some ⟨gb,2,none⟩))/\(L 3=true->V 3= .slice (some ⟨sb,0,none⟩) n n)/\(L 4=true->V 4= .int .i64 (i:Int))/\(L 5=true->V 5= .pointer (some ⟨gb,0,none⟩))/\(L 6=true->V 6= .pointer (some ⟨gb,0,none⟩))/\(L 7=true->V 7= .pointer (some ⟨gb,3,none⟩))/\(L 8=true->V 8= .slice (some ⟨pb,0,none⟩) n n)/\(L 9=true->V 9= .int .i64 (i:Int))/\(L 10=true->V 10= .slice (some ⟨ub,uo,none⟩) sn sc)/\(L 11=true->V 11= .int .i64 (i:Int))/\(L 12=true->V 12= .pointer (some ⟨ub,uo+i,none⟩))/\(L 13=true->V 13= .int .i64 s)/\(L 14=true->V 14= .pointer (some ⟨sb,i,none⟩))/\(L 15=true->L 15=true)/\(L 16=true->V 15= .pointer (some ⟨pb,i,none⟩))/\(L 17=true->L 17=true):=⟨_,rfl⟩
     have HC:=hI hC;clear hC;refine wp_region_opsA [118,119,120,121,122,123,124,125,126,127,128,129,130,131,132,133] C (by kernel_rfl) (by kernel_rfl) (by decide) (by kernel_rfl) (by kernel_rfl) ?_ ?_ ?_
     ·rw[HC.o];exact⟨⟨w6'.drew,⟨rfl,rfl,rfl,Nat.le_refl _,fun _ _ _ _=>rfl⟩⟩,rfl,hI ⟨S0,P0,HB6.o.kept rfl,fun _=>rfl,fun z=>absurd z (by simp),fun _=>rfl,fun z=>absurd z (by simp)⟩,nff,nff,nff,nff,nff,nff,nff,nff,nff,nff,nff,nff,nff,nff,nff,nff,nff,nff⟩
     ·rintro L V w' ii o AA hii ho hLi haf hInv hAA hFF;rw[HC.o] at hInv;obtain⟨e,rfl,p0,h0,h1,h2,h3,h4,h5,h6,h7,h8,h9,h10,h11,h12,h13,h14,h15,h16,h17⟩:=hInv;rcases ii with _ | _ | _ | _ | _ | _ | _ | _ | _ | _ | _ | _ | _ | _ | _ | _ | _ | _ | ii;case succ.succ.succ.succ.succ.succ.succ.succ.succ.succ.succ.succ.succ.succ.succ.succ.succ.succ=>(simp at hii;try omega)
      all_goals (simp only[List.getElem?_cons_zero,List.getElem?_cons_succ,Option.some.injEq] at ho;subst ho)
      all_goals clear hii
      ·have f16:AA.tmps[16]?.getD undef= .pointer (some ⟨gb,0,none⟩):=hFF.out 16 (by decide);go_wp2;rw[HC.o];exact⟨_,rfl,e,rfl,p0,fun _=>rfl,h1,h2,h3,h4,h5,h6,h7,h8,h9,h10,h11,h12,h13,h14,h15,h16,h17⟩
      ·have a0:=(hAA.out 0 118 rfl).trans (h0 (haf ⟨0,.data⟩ (by simp) rfl));go_wp2;rw[HC.o];exact⟨_,rfl,e,rfl,p0,h0,fun _=>rfl,h2,h3,h4,h5,h6,h7,h8,h9,h10,h11,h12,h13,h14,h15,h16,h17⟩
      ·have a1:=(hAA.out 1 119 rfl).trans (h1 (haf ⟨1,.data⟩ (by simp) rfl));go_wp2;rw[HC.o];exact⟨_,rfl,e,rfl,p0,h0,h1,fun _=>rfl,h3,h4,h5,h6,h7,h8,h9,h10,h11,h12,h13,h14,h15,h16,h17⟩
      ·have a2:=(hAA.out 2 120 rfl).trans (h2 (haf ⟨2,.data⟩ (by simp) rfl));obtain⟨bs,bp,hx,_,_,_,_⟩:=p0.out;have z2:=bc (j:=2) hx.hg rfl;have z3:=bc (j:=3) hx.hg rfl;rw[Hn5.o] at z2 z3;clear hx;go_wp2;rw[HC.o];exact⟨_,rfl,e,rfl,p0,h0,h1,h2,fun _=>rfl,h4,h5,h6,h7,h8,h9,h10,h11,h12,h13,h14,h15,h16,h17⟩
      ·have f18:AA.tmps[18]?.getD undef= .int .i64 (i:Int):=hFF.out 18 (by decide);go_wp2;rw[HC.o];exact⟨_,rfl,e,rfl,p0,h0,h1,h2,h3,fun _=>rfl,h5,h6,h7,h8,h9,h10,h11,h12,h13,h14,h15,h16,h17⟩
      ·have f16:AA.tmps[16]?.getD undef= .pointer (some ⟨gb,0,none⟩):=hFF.out 16 (by decide);go_wp2;rw[HC.o];exact⟨_,rfl,e,rfl,p0,h0,h1,h2,h3,h4,fun _=>rfl,h6,h7,h8,h9,h10,h11,h12,h13,h14,h15,h16,h17⟩
      ·have a5:=(hAA.out 5 123 rfl).trans (h5 (haf ⟨5,.data⟩ (by simp) rfl));go_wp2;rw[HC.o];exact⟨_,rfl,e,rfl,p0,h0,h1,h2,h3,h4,h5,fun _=>rfl,h7,h8,h9,h10,h11,h12,h13,h14,h15,h16,h17⟩
      ·have a6:=(hAA.out 6 124 rfl).trans (h6 (haf ⟨6,.data⟩ (by simp) rfl));go_wp2;rw[HC.o];exact⟨_,rfl,e,rfl,p0,h0,h1,h2,h3,h4,h5,h6,fun _=>rfl,h8,h9,h10,h11,h12,h13,h14,h15,h16,h17⟩
      ·have a7:=(hAA.out 7 125 rfl).trans (h7 (haf ⟨7,.data⟩ (by simp) rfl));obtain⟨bs,bp,hx,_,_,_,_⟩:=p0.out;have z2:=bc (j:=2) hx.hg rfl;have z3:=bc (j:=3) hx.hg rfl;rw[Hn5.o] at z2 z3;clear hx;go_wp2;rw[HC.o];exact⟨_,rfl,e,rfl,p0,h0,h1,h2,h3,h4,h5,h6,h7,fun _=>rfl,h9,h10,h11,h12,h13,h14,h15,h16,h17⟩
      ·have f18:AA.tmps[18]?.getD undef= .int .i64 (i:Int):=hFF.out 18 (by decide);go_wp2;rw[HC.o];exact⟨_,rfl,e,rfl,p0,h0,h1,h2,h3,h4,h5,h6,h7,h8,fun _=>rfl,h10,h11,h12,h13,h14,h15,h16,h17⟩
      ·have f6:AA.tmps[6]?.getD undef= .pointer (some ⟨w.heap.size+1,0,none⟩):=hFF.out 6 (by decide);have y0:=HY0.o e.w e.k;go_wp2;rw[HC.o];exact⟨_,rfl,e,rfl,p0,h0,h1,h2,h3,h4,h5,h6,h7,h8,h9,fun _=>rfl,h11,h12,h13,h14,h15,h16,h17⟩
      ·have f18:AA.tmps[18]?.getD undef= .int .i64 (i:Int):=hFF.out 18 (by decide);go_wp2;rw[HC.o];exact⟨_,rfl,e,rfl,p0,h0,h1,h2,h3,h4,h5,h6,h7,h8,h9,h10,fun _=>rfl,h12,h13,h14,h15,h16,h17⟩
      ·have a10:=(hAA.out 10 128 rfl).trans (h10 (haf ⟨10,.data⟩ (by simp) rfl));have a11:=(hAA.out 11 129 rfl).trans (h11 (haf ⟨11,.data⟩ (by simp) rfl));go_wp2;rw[HC.o];exact⟨_,rfl,e,rfl,p0,h0,h1,h2,h3,h4,h5,h6,h7,h8,h9,h10,h11,fun _=>rfl,h13,h14,h15,h16,h17⟩
      ·have a12:=(hAA.out 12 130 rfl).trans (h12 (haf ⟨12,.data⟩ (by simp) rfl));have y1:=HY1.o e.w e.k;go_wp2;rw[HC.o];exact⟨_,rfl,e,rfl,p0,h0,h1,h2,h3,h4,h5,h6,h7,h8,h9,h10,h11,h12,fun _=>rfl,h14,h15,h16,h17⟩
      ·have a3:=(hAA.out 3 121 rfl).trans (h3 (haf ⟨3,.data⟩ (by simp) rfl));have a4:=(hAA.out 4 122 rfl).trans (h4 (haf ⟨4,.data⟩ (by simp) rfl));go_wp2;rw[HC.o];exact⟨_,rfl,e,rfl,p0,h0,h1,h2,h3,h4,h5,h6,h7,h8,h9,h10,h11,h12,h13,fun _=>rfl,h15,h16,h17⟩
      ·have a14:=(hAA.out 14 132 rfl).trans (h14 (haf ⟨14,.data⟩ (by simp) rfl));have a13:=(hAA.out 13 131 rfl).trans (h13 (haf ⟨13,.data⟩ (by simp) rfl));obtain⟨bs,bp,hx,j1,j2,j3,j4⟩:=p0.out;have z0:=W7.bf (j:=i) hx.hs;have z1:=hx.st hi5;have Hx:=hI hx;have J1:=hI j1;have J3:=hI j3;have J4:=hI j4;have hLi':=hLi;clear hx j1 j2 j3 j4;go_wp2;rw[HC.o];exact⟨rfl,undef,⟨_,e.k.trans (Kept2.setL _ _ _ _ _)⟩,rfl,hI ⟨bs.set i s,bp,Hx.o.putS hg1 hg3,fun z=>absurd z (by simp),fun _=>by rw[J1.out hLi'],J3.out,J4.out⟩,h0,h1,h2,h3,h4,h5,h6,h7,h8,h9,h10,h11,h12,h13,h14,fun _=>rfl,h16,h17⟩
      ·have a8:=(hAA.out 8 126 rfl).trans (h8 (haf ⟨8,.data⟩ (by simp) rfl));have a9:=(hAA.out 9 127 rfl).trans (h9 (haf ⟨9,.data⟩ (by simp) rfl));go_wp2;rw[HC.o];exact⟨_,rfl,e,rfl,p0,h0,h1,h2,h3,h4,h5,h6,h7,h8,h9,h10,h11,h12,h13,h14,h15,fun _=>rfl,h17⟩
      ·have a16:=(hAA.out 15 133 rfl).trans (h16 (haf ⟨16,.data⟩ (by simp) rfl));obtain⟨bs,bp,hx,j1,j2,j3,j4⟩:=p0.out;have z0:=W7.bf (j:=i) hx.hp;have z1:=hx.pl hi5;have Hx:=hI hx;have J1:=hI j1;have J2:=hI j2;have J3:=hI j3;have hLi':=hLi;clear hx j1 j2 j3 j4;go_wp2;rw[HC.o];exact⟨rfl,undef,⟨_,e.k.trans (Kept2.setR _ _ _ _ _)⟩,rfl,hI ⟨bs,bp.set i true,Hx.o.putP hg2 hg3,J1.out,J2.out,fun z=>absurd z (by simp),fun _=>by rw[J3.out hLi']⟩,h0,h1,h2,h3,h4,h5,h6,h7,h8,h9,h10,h11,h12,h13,h14,h15,h16,fun _=>rfl⟩
     rintro L V w' hL hInv;rw[HC.o] at hInv;obtain⟨e,rfl,p0,h0,h1,h2,h3,h4,h5,h6,h7,h8,h9,h10,h11,h12,h13,h14,h15,h16,h17⟩:=hInv;have k0:=h0 (hL 0 (by simp));have k1:=h1 (hL 1 (by simp));have k2:=h2 (hL 2 (by simp));have k3:=h3 (hL 3 (by simp));have k4:=h4 (hL 4 (by simp));have k5:=h5 (hL 5 (by simp));have k6:=h6 (hL 6 (by simp));have k7:=h7 (hL 7 (by simp));have k8:=h8 (hL 8 (by simp));have k9:=h9 (hL 9 (by simp));have k10:=h10 (hL 10 (by simp));have k11:=h11 (hL 11 (by simp));have k12:=h12 (hL 12 (by simp));have k13:=h13 (hL 13 (by simp));have k14:=h14 (hL 14 (by simp));have k15:=h15 (hL 15 (by simp));have k16:=h16 (hL 16 (by simp));have k17:=h17 (hL 17 (by simp));clear h0 h1 h2 h3 h4 h5 h6 h7 h8 h9 h10 h11 h12 h13 h14 h15 h16 h17 hL HC;obtain⟨bs,bp,hx,_,j1,_,j2⟩:=p0.out;obtain rfl:=j1 k15;obtain rfl:=j2 k17;have HK7:=hI (HK6.o.trans e.k);have HB7:=hI hx
     have HO7:=hI (own_kept2 HO6.o e.k (fun k hk=>by have:=(HO6.o.lt k hk).1;have:=blk_lt HBD.o.hs;have:=blk_lt HBD.o.hp;omega));generalize e.w=w7 at HK7 HB7 HO7;clear k0 k1 k2 k3 k4 k5 k6 k7 k8 k9 k10 k11 k12 k13 k14 k15 k16 k17 p0 hx j1 j2;simp only[putAll];go_frame;have HFn:=hI (HFN.o i HKt.o);go_wp2;go_roundw;case rel=>exact⟨i+1,by omega,by go_num,HK7,hI (by rw[HFn.o.2,HFi.o,Hs.o];exact HB7.o),hI (by rw[HFn.o.1];exact HO7.o)⟩
     case measure=>simp[intOf];omega
    cases hd2:decide (now<s+tk)
    ·have HKt:=hI (show keptB j.p st now q i=true by rw[HKp.o,hd1,hd2];rfl)
     go_quiet (fail)
     obtain⟨w6',hw6⟩:∃w6',w6'=w5.drewN nq:=⟨_,rfl⟩
     have HB6:=hI (show BdIn w6' gb sb pb j5 ⟨S0,P0⟩ now by rw[hw6];exact HB5'.o.kept rfl);have HK6:=hI (show Kept2 WB w6' sb pb by rw[hw6];exact HK5.o.trans ⟨rfl,rfl,rfl,Nat.le_refl _,fun _ _ _ _=>rfl⟩);have HO6:=hI (show w6'.ownsRow WB.heap.size 3 1 (.slice AO (FO i).length cO) (FO i).length ((FO i).map (Value.int .i64)) by rw[hw6];exact own_below HO5.o (below_drewN (Below.refl _ _) _));have HY0:=hI (fun(X:World) (hX:Kept2 w6' X sb pb)=>bc (j:=0) (HG2.o X (HK6.o.trans hX)).1 rfl);have HY1:=hI (fun(X:World) (hX:Kept2 w6' X sb pb)=>HSc.o X (HK6.o.trans hX));go_upto_region 21 with fail;rw[<- hw6];clear hw6 a0 a1 b1 b3
     obtain⟨C,hC⟩:∃C:(Nat->Bool)->(Nat->Value)->World->Prop,C=fun L V w'=>∃(e:K2Later w6' sb pb),w'=e.w/\Hid (∃(bs:List Int) (bp:List Bool),BdIn e.w gb sb pb j5 ⟨bs,bp⟩ now/\(L 15=false->bs=S0)/\(L 15=true->bs=S0.set i s)/\(L 17=false->bp=P0)/\(L 17=true->bp=P0.set i true))/\(L 0=true->V 0= .pointer (some ⟨gb,0,none⟩))/\(L 1=true->V 1= .pointer (some ⟨gb,0,none⟩))/\(L 2=true->V 2= .pointer (some ⟨gb,2,none⟩))/\(L 3=true->V 3= .slice (some ⟨sb,0,none⟩) n n)/\(L 4=true->V 4= .int .i64 (i:Int))/\(L 5=true->V 5= .pointer (some ⟨gb,0,none⟩))/\(L 6=true->V 6= .pointer (some ⟨gb,0,none⟩))/\(L 7=true->V 7= .pointer (some ⟨gb,3,none⟩))/\(L 8=true->V 8= .slice (some ⟨pb,0,none⟩) n n)/\(L 9=true->V 9= .int .i64 (i:Int))/\(L 10=true->V 10= .slice (some ⟨ub,uo,none⟩) sn sc)/\(L 11=true->V 11= .int .i64 (i:Int))/\(L 12=true->V 12= .pointer (some ⟨ub,uo+i,none⟩))/\(L 13=true->V 13= .int .i64 s)/\(L 14=true->V 14= .pointer (some ⟨sb,i,none⟩))/\(L 15=true->L 15=true)/\(L 16=true->V 15= .pointer (some ⟨pb,i,none⟩))/\(L 17=true->L 17=true):=⟨_,rfl⟩
     have HC:=hI hC;clear hC;refine wp_region_opsA [118,119,120,121,122,123,124,125,126,127,128,129,130,131,132,133] C (by kernel_rfl) (by kernel_rfl) (by decide) (by kernel_rfl) (by kernel_rfl) ?_ ?_ ?_
     ·rw[HC.o];exact⟨⟨w6'.drew,⟨rfl,rfl,rfl,Nat.le_refl _,fun _ _ _ _=>rfl⟩⟩,rfl,hI ⟨S0,P0,HB6.o.kept rfl,fun _=>rfl,fun z=>absurd z (by simp),fun _=>rfl,fun z=>absurd z (by simp)⟩,nff,nff,nff,nff,nff,nff,nff,nff,nff,nff,nff,nff,nff,nff,nff,nff,nff,nff⟩
     ·rintro L V w' ii o AA hii ho hLi haf hInv hAA hFF;rw[HC.o] at hInv;obtain⟨e,rfl,p0,h0,h1,h2,h3,h4,h5,h6,h7,h8,h9,h10,h11,h12,h13,h14,h15,h16,h17⟩:=hInv;rcases ii with _ | _ | _ | _ | _ | _ | _ | _ | _ | _ | _ | _ | _ | _ | _ | _ | _ | _ | ii;case succ.succ.succ.succ.succ.succ.succ.succ.succ.succ.succ.succ.succ.succ.succ.succ.succ.succ=>(simp at hii;try omega)
      all_goals (simp only[List.getElem?_cons_zero,List.getElem?_cons_succ,Option.some.injEq] at ho;subst ho)
      all_goals clear hii
      ·have f16:AA.tmps[16]?.getD undef= .pointer (some ⟨gb,0,none⟩):=hFF.out 16 (by decide);go_wp2;rw[HC.o];exact⟨_,rfl,e,rfl,p0,fun _=>rfl,h1,h2,h3,h4,h5,h6,h7,h8,h9,h10,h11,h12,h13,h14,h15,h16,h17⟩
      ·have a0:=(hAA.out 0 118 rfl).trans (h0 (haf ⟨0,.data⟩ (by simp) rfl));go_wp2;rw[HC.o];exact⟨_,rfl,e,rfl,p0,h0,fun _=>rfl,h2,h3,h4,h5,h6,h7,h8,h9,h10,h11,h12,h13,h14,h15,h16,h17⟩
      ·have a1:=(hAA.out 1 119 rfl).trans (h1 (haf ⟨1,.data⟩ (by simp) rfl));go_wp2;rw[HC.o];exact⟨_,rfl,e,rfl,p0,h0,h1,fun _=>rfl,h3,h4,h5,h6,h7,h8,h9,h10,h11,h12,h13,h14,h15,h16,h17⟩
      ·have a2:=(hAA.out 2 120 rfl).trans (h2 (haf ⟨2,.data⟩ (by simp) rfl));obtain⟨bs,bp,hx,_,_,_,_⟩:=p0.out;have z2:=bc (j:=2) hx.hg rfl;have z3:=bc (j:=3) hx.hg rfl;rw[Hn5.o] at z2 z3;clear hx;go_wp2;rw[HC.o];exact⟨_,rfl,e,rfl,p0,h0,h1,h2,fun _=>rfl,h4,h5,h6,h7,h8,h9,h10,h11,h12,h13,h14,h15,h16,h17⟩
      ·have f18:AA.tmps[18]?.getD undef= .int .i64 (i:Int):=hFF.out 18 (by decide);go_wp2;rw[HC.o];exact⟨_,rfl,e,rfl,p0,h0,h1,h2,h3,fun _=>rfl,h5,h6,h7,h8,h9,h10,h11,h12,h13,h14,h15,h16,h17⟩
      ·have f16:AA.tmps[16]?.getD undef= .pointer (some ⟨gb,0,none⟩):=hFF.out 16 (by decide);go_wp2;rw[HC.o];exact⟨_,rfl,e,rfl,p0,h0,h1,h2,h3,h4,fun _=>rfl,h6,h7,h8,h9,h10,h11,h12,h13,h14,h15,h16,h17⟩
      ·have a5:=(hAA.out 5 123 rfl).trans (h5 (haf ⟨5,.data⟩ (by simp) rfl));go_wp2;rw[HC.o];exact⟨_,rfl,e,rfl,p0,h0,h1,h2,h3,h4,h5,fun _=>rfl,h7,h8,h9,h10,h11,h12,h13,h14,h15,h16,h17⟩
      ·have a6:=(hAA.out 6 124 rfl).trans (h6 (haf ⟨6,.data⟩ (by simp) rfl));go_wp2;rw[HC.o];exact⟨_,rfl,e,rfl,p0,h0,h1,h2,h3,h4,h5,h6,fun _=>rfl,h8,h9,h10,h11,h12,h13,h14,h15,h16,h17⟩
      ·have a7:=(hAA.out 7 125 rfl).trans (h7 (haf ⟨7,.data⟩ (by simp) rfl));obtain⟨bs,bp,hx,_,_,_,_⟩:=p0.out;have z2:=bc (j:=2) hx.hg rfl;have z3:=bc (j:=3) hx.hg rfl;rw[Hn5.o] at z2 z3;clear hx;go_wp2;rw[HC.o];exact⟨_,rfl,e,rfl,p0,h0,h1,h2,h3,h4,h5,h6,h7,fun _=>rfl,h9,h10,h11,h12,h13,h14,h15,h16,h17⟩
      ·have f18:AA.tmps[18]?.getD undef= .int .i64 (i:Int):=hFF.out 18 (by decide);go_wp2;rw[HC.o];exact⟨_,rfl,e,rfl,p0,h0,h1,h2,h3,h4,h5,h6,h7,h8,fun _=>rfl,h10,h11,h12,h13,h14,h15,h16,h17⟩
      ·have f6:AA.tmps[6]?.getD undef= .pointer (some ⟨w.heap.size+1,0,none⟩):=hFF.out 6 (by decide);have y0:=HY0.o e.w e.k;go_wp2;rw[HC.o];exact⟨_,rfl,e,rfl,p0,h0,h1,h2,h3,h4,h5,h6,h7,h8,h9,fun _=>rfl,h11,h12,h13,h14,h15,h16,h17⟩
      ·have f18:AA.tmps[18]?.getD undef= .int .i64 (i:Int):=hFF.out 18 (by decide);go_wp2;rw[HC.o];exact⟨_,rfl,e,rfl,p0,h0,h1,h2,h3,h4,h5,h6,h7,h8,h9,h10,fun _=>rfl,h12,h13,h14,h15,h16,h17⟩
      ·have a10:=(hAA.out 10 128 rfl).trans (h10 (haf ⟨10,.data⟩ (by simp) rfl));have a11:=(hAA.out 11 129 rfl).trans (h11 (haf ⟨11,.data⟩ (by simp) rfl));go_wp2;rw[HC.o];exact⟨_,rfl,e,rfl,p0,h0,h1,h2,h3,h4,h5,h6,h7,h8,h9,h10,h11,fun _=>rfl,h13,h14,h15,h16,h17⟩
      ·have a12:=(hAA.out 12 130 rfl).trans (h12 (haf ⟨12,.data⟩ (by simp) rfl));have y1:=HY1.o e.w e.k;go_wp2;rw[HC.o];exact⟨_,rfl,e,rfl,p0,h0,h1,h2,h3,h4,h5,h6,h7,h8,h9,h10,h11,h12,fun _=>rfl,h14,h15,h16,h17⟩
      ·have a3:=(hAA.out 3 121 rfl).trans (h3 (haf ⟨3,.data⟩ (by simp) rfl));have a4:=(hAA.out 4 122 rfl).trans (h4 (haf ⟨4,.data⟩ (by simp) rfl));go_wp2;rw[HC.o];exact⟨_,rfl,e,rfl,p0,h0,h1,h2,h3,h4,h5,h6,h7,h8,h9,h10,h11,h12,h13,fun _=>rfl,h15,h16,h17⟩
      ·have a14:=(hAA.out 14 132 rfl).trans (h14 (haf ⟨14,.data⟩ (by simp) rfl));have a13:=(hAA.out 13 131 rfl).trans (h13 (haf ⟨13,.data⟩ (by simp) rfl));obtain⟨bs,bp,hx,j1,j2,j3,j4⟩:=p0.out;have z0:=W7.bf (j:=i) hx.hs;have z1:=hx.st hi5;have Hx:=hI hx;have J1:=hI j1;have J3:=hI j3;have J4:=hI j4;have hLi':=hLi;clear hx j1 j2 j3 j4;go_wp2;rw[HC.o];exact⟨rfl,undef,⟨_,e.k.trans (Kept2.setL _ _ _ _ _)⟩,rfl,hI ⟨bs.set i s,bp,Hx.o.putS hg1 hg3,fun z=>absurd z (by simp),fun _=>by rw[J1.out hLi'],J3.out,J4.out⟩,h0,h1,h2,h3,h4,h5,h6,h7,h8,h9,h10,h11,h12,h13,h14,fun _=>rfl,h16,h17⟩
      ·have a8:=(hAA.out 8 126 rfl).trans (h8 (haf ⟨8,.data⟩ (by simp) rfl));have a9:=(hAA.out 9 127 rfl).trans (h9 (haf ⟨9,.data⟩ (by simp) rfl));go_wp2;rw[HC.o];exact⟨_,rfl,e,rfl,p0,h0,h1,h2,h3,h4,h5,h6,h7,h8,h9,h10,h11,h12,h13,h14,h15,fun _=>rfl,h17⟩
      ·have a16:=(hAA.out 15 133 rfl).trans (h16 (haf ⟨16,.data⟩ (by simp) rfl));obtain⟨bs,bp,hx,j1,j2,j3,j4⟩:=p0.out;have z0:=W7.bf (j:=i) hx.hp;have z1:=hx.pl hi5;have Hx:=hI hx;have J1:=hI j1;have J2:=hI j2;have J3:=hI j3;have hLi':=hLi;clear hx j1 j2 j3 j4;go_wp2;rw[HC.o];exact⟨rfl,undef,⟨_,e.k.trans (Kept2.setR _ _ _ _ _)⟩,rfl,hI ⟨bs,bp.set i true,Hx.o.putP hg2 hg3,J1.out,J2.out,fun z=>absurd z (by simp),fun _=>by rw[J3.out hLi']⟩,h0,h1,h2,h3,h4,h5,h6,h7,h8,h9,h10,h11,h12,h13,h14,h15,h16,fun _=>rfl⟩
     rintro L V w' hL hInv;rw[HC.o] at hInv;obtain⟨e,rfl,p0,h0,h1,h2,h3,h4,h5,h6,h7,h8,h9,h10,h11,h12,h13,h14,h15,h16,h17⟩:=hInv;have k0:=h0 (hL 0 (by simp));have k1:=h1 (hL 1 (by simp));have k2:=h2 (hL 2 (by simp));have k3:=h3 (hL 3 (by simp));have k4:=h4 (hL 4 (by simp));have k5:=h5 (hL 5 (by simp));have k6:=h6 (hL 6 (by simp));have k7:=h7 (hL 7 (by simp));have k8:=h8 (hL 8 (by simp));have k9:=h9 (hL 9 (by simp));have k10:=h10 (hL 10 (by simp));have k11:=h11 (hL 11 (by simp));have k12:=h12 (hL 12 (by simp));have k13:=h13 (hL 13 (by simp));have k14:=h14 (hL 14 (by simp));have k15:=h15 (hL 15 (by simp));have k16:=h16 (hL 16 (by simp));have k17:=h17 (hL 17 (by simp));clear h0 h1 h2 h3 h4 h5 h6 h7 h8 h9 h10 h11 h12 h13 h14 h15 h16 h17 hL HC;obtain⟨bs,bp,hx,_,j1,_,j2⟩:=p0.out;obtain rfl:=j1 k15;obtain rfl:=j2 k17;have HK7:=hI (HK6.o.trans e.k);have HB7:=hI hx
     have HO7:=hI (own_kept2 HO6.o e.k (fun k hk=>by have:=(HO6.o.lt k hk).1;have:=blk_lt HBD.o.hs;have:=blk_lt HBD.o.hp;omega));generalize e.w=w7 at HK7 HB7 HO7;clear k0 k1 k2 k3 k4 k5 k6 k7 k8 k9 k10 k11 k12 k13 k14 k15 k16 k17 p0 hx j1 j2;simp only[putAll];go_frame;have HFn:=hI (HFN.o i HKt.o);go_wp2;go_roundw;case rel=>exact⟨i+1,by omega,by go_num,HK7,hI (by rw[HFn.o.2,HFi.o,Hs.o];exact HB7.o),hI (by rw[HFn.o.1];exact HO7.o)⟩
     case measure=>simp[intOf];omega
    ·have HKt:=hI (show keptB j.p st now q i=false by rw[HKp.o,hd1,hd2];rfl)
     go_quiet (fail)
     obtain⟨w6',hw6⟩:∃w6',w6'=w5.drewN nq:=⟨_,rfl⟩
     have HB6:=hI (show BdIn w6' gb sb pb j5 (FB i) now by rw[hw6,HFi.o];exact HB5'.o.kept rfl);have HK6:=hI (show Kept2 WB w6' sb pb by rw[hw6];exact HK5.o.trans ⟨rfl,rfl,rfl,Nat.le_refl _,fun _ _ _ _=>rfl⟩);have HO6:=hI (show w6'.ownsRow WB.heap.size 3 1 (.slice AO (FO i).length cO) (FO i).length ((FO i).map (Value.int .i64)) by rw[hw6];exact own_below HO5.o (below_drewN (Below.refl _ _) _));have hlo:=HFL.o i;have hs6:=HK6.o.size;go_upto_region 22 with fail;rw[<- hw6];clear hw6 a0 a1 b1 b3;go_upto_region 23 with(at_builtin;go_loud (refine wpList_append1 rfl _ _ 26 rfl WB.heap.size 3 _ 1 8 elemI _ _ _ rfl HO6.o #[.int .i64 (i:Int)] 1 _ rfl (by simp) rfl (by simp[Value.oneCell']) (by omega) (by omega) ?_);intro v7 w7 hown7 hb7 hsz7 hg7 hblk7;have Ho7:=hI hown7;have Hb7:=hI hb7;have hs7:=hsz7;have Hg7:=hI hg7;clear hown7 hb7 hsz7 hg7 hblk7)
     have HFn:=hI (HFY.o i HKt.o);have HK7:=hI (show Kept2 WB w7 sb pb from Kept2.of_new Hb7.o (blk_lt (HBD.o.hs)) (blk_lt (HBD.o.hp)) HK6.o (Nat.le_refl _) (Nat.le_of_lt hs7));have HB7:=hI (show BdIn w7 gb sb pb j5 (FB i) now from HB6.o.grown_other Hg7.o (fun e=>by have:=HO6.o.lt gb e.symm;have:=blk_lt HBD.o.hg;omega) (fun e=>by have:=HO6.o.lt sb e.symm;have:=blk_lt HBD.o.hs;omega) (fun e=>by have:=HO6.o.lt pb e.symm;have:=blk_lt HBD.o.hp;omega));have HO7:=hI (show w7.ownsRow WB.heap.size 3 1 v7 (FO i++[(i:Int)]).length ((FO i++[(i:Int)]).map (Value.int .i64)) by rw[List.length_append,List.map_append];exact Ho7.o);go_wp2;go_roundw;case rel=>exact⟨i+1,by omega,by go_num,HK7,hI (by rw[HFn.o.2];exact HB7.o),hI (by rw[HFn.o.1];exact HO7.o)⟩
     case measure=>simp[intOf];omega
   ·have Hin:=hI (show i=n by omega);obtain⟨OL,hOL⟩:∃x,FO i=x:=⟨_,rfl⟩
    have HOL:=hI (show OL=ford j.p st now q n by rw[<- hOL,HFO.o,Hin.o]);obtain⟨m,hm⟩:∃x,OL.length=x:=⟨_,rfl⟩
    have Hm:=hI hm;have hmn:m<=n:=by rw[<- hm,HOL.o];exact ford_len _ _ _ _ _
    have Hasc:=hI (show OL.Pairwise (· < ·) by rw[HOL.o];exact ford_asc _ _ _ _ _);have HinO:=hI (show ∀x∈OL,0<=x/\x<(n:Int) from fun x hx=>by rw[HOL.o] at hx;exact ford_in x hx);rw[hOL,hm] at Ho hO1;rw[hOL,hm];have hsl:=(HST.o wr (HBo.o wr HK.o)).le;have hsc:=(HST.o wr (HBo.o wr HK.o)).cap;have hWB:=HBo.o WB (Kept2.refl _ _ _);have hWs:=hWB.size;have HSo:=hI (stableI_any st OL WB.heap.size (w.heap.size+1) sn sc B (.slice AO m cO) SA wr (by rw[hm];exact Ho.o) (by omega) (HST.o wr (HBo.o wr HK.o)).sl (by have:=Hsnn.o;have:=HTm.o.1;omega) hsl hsc HTm.o.2 (bc (j:=0) (HG2.o wr HK.o).1 rfl) (by omega) (by omega) (by omega) Hasc.o (fun x hx=>by have:=HinO.o x hx;have:=Hsnn.o;omega));clear hOL hm hsl hsc hWB;go_upto_region 25 with(go_at_call 75;go_loud (refine HSo.o.mono ?_);rintro e w8 ⟨rfl,ho8,hg8⟩;have hs8:=hg8.size;have Ho8:=hI ho8;have Hg8:=hI hg8;clear ho8 hg8)
    obtain⟨OR,hOR⟩:∃x,sortO st OL=x:=⟨_,rfl⟩
    have hperm:=(sortO_ok st Hasc.o).1;rw[hOR,Hm.o] at Ho8;rw[hOR] at hperm;have HOR:=hI (show OR=failOrd j.p st now q by rw[<- hOR,HOL.o,show n=j.p.tasks.length by rw[j.nt,Hn.o]];rfl);have HORl:=hI (show OR.length=m by rw[hperm.length_eq,Hm.o]);have Hord:=hI (show ∀x∈OR,0<=x/\x<(j5.tasks.length:Int) from fun x hx=>by rw[Hn5.o];exact HinO.o x (hperm.mem_iff.1 hx));have hrow:∀k,(Value.slice AO m cO).ownBlock=some k->WB.heap.size<=k:=fun k hk=>(Ho.o.lt k hk).1
    have HK8:=hI (show Kept2 WB w8 sb pb from HK.o.grownR Hg8.o hrow);have hbl1:=blk_lt HBD.o.hg;have hbl2:=blk_lt HBD.o.hs;have hbl3:=blk_lt HBD.o.hp;have HB8:=hI (show BdIn w8 gb sb pb j5 (FB i) now from Hb.o.grown_other Hg8.o (fun e=>by have:=hrow gb e.symm;omega) (fun e=>by have:=hrow sb e.symm;omega) (fun e=>by have:=hrow pb e.symm;omega));have hJ16:=of_decide_eq_false hbg;have HGd:=hI (show JGood j5.p by rw[HP5.o];exact failJob_good HG.o hqj (by omega) (by rw[HFo.o];omega));have HFBo:=hI (show BOk (FB i) by rw[HFB.o];exact fbd_ok HTm.o.2 i)
    have HSr:=hI (serial_any j5 now OR gb sb pb W5.heap.size m cO AO (FB i) w8 HORl.o.symm (by omega) hO1 hO2 HB8.o (HJi.o w8 HK8.o) hb2 hb3 HB8.o.ne HGd.o HFBo.o (by omega) Hord.o (fun X hX=>by
     have h:=own_kept2 Ho8.o hX (fun k hk=>by have:=hrow k hk;omega);rw[<- flat_int] at h;exact sl_own h lenI (by omega)))
    obtain⟨SG,hSG⟩:∃x,serialGo j5.p now OR m (FB i)=x:=⟨_,rfl⟩
    have HSG:=hI (show failRun j.p st now q until'=SG by
     rw[<- hSG];unfold failRun;rw[Int.toNat_natCast,<-HP5.o,<-HOR.o,HORl.o,HFB.o,Hin.o,show n=j.p.tasks.length by rw[j.nt,Hn.o],fbd_full])
    have HEr:=hI (show failErr j.p st now q until'=if SG.1 then 0 else 9 by
     rw[<- HSG.o];exact failErr_run Hle.o (by rw[j.nr,Hnr.o];exact hW) (by rw[hT1,hT2,decide_eq_true (show now<=until' by omega)];rfl) (by rw[Int.toNat_natCast,HFo.o];omega))
    rw[hSG] at HSr;have HSt2:=hI (show SG.2.st.length=n by rw[<- hSG,(serialGo_st j5.p now OR m (FB i)).1,HB8.o.ns,Hn5.o]);clear hSG hOR hperm hJ16;have hs9:WB.heap.size<=w8.heap.size:=HK8.o.size;cases hsg:SG.1
    ·rw[hsg] at HSr;have hE:=HEr.o;rw[hsg] at hE;have HEr9:=hI (show failErr j.p st now q until'=9 from hE);clear hE;go_upto_region 26 with(go_at_call 65;go_loud (refine HSr.o.mono ?_);rintro e w9 ⟨rfl,hk9,hb9⟩;have Hk9:=hI (HK8.o.trans hk9);clear hk9 hb9)
     have hG9:=HGo.o w9 Hk9.o;obtain⟨X1,hX1⟩:∃X1,(w9.setCell ⟨w.heap.size+1+1+1,0,none⟩ (.slice none 0 0)).setCell ⟨w.heap.size+1+1+1,1,none⟩ (.slice none 0 0)=X1:=⟨_,rfl⟩
     have hG1:X1.heap[w.heap.size+3]? =some (.cells #[.slice none 0 0,.slice none 0 0] 25 (0,0)):=by rw[<- hX1,blk_set (blk_set hG9 _)];rfl
     have HR:=hI (show FailR j st now q until' w (.returned (.tuple #[.agg #[.slice none 0 0,.slice none 0 0],.slice none 0 0,.int .i64 9])) X1 from FailR.bad HEr9.o (by decide) (by rw[<- hX1];exact((HB0.o.trans ((HBo.o w9 Hk9.o).mono (by omega))).setCell (p:=⟨w.heap.size+3,0,none⟩) (by simp) _).setCell (p:=⟨w.heap.size+3,1,none⟩) (by simp) _));have e0:=W7.bc (j:=0) hG1 rfl;have e1:=W7.bc (j:=1) hG1 rfl;have g0:=W7.bc (j:=0) hG9 rfl;have g1:=W7.bc (j:=1) hG9 rfl;have f0:=W7.bf (j:=0) hG9;have f1:=W7.bf (j:=1) hG9;have HX1:=hI hX1;clear hG1 hG9 hX1;go_wp2;rw[HX1.o];refine bodyPost_ret (v:= .tuple #[.agg #[.slice none 0 0,.slice none 0 0],.slice none 0 0,.int .i64 9]) (by simp[results,Tryz.results22,go_sem,e0,e1]) rfl ?_;exact HR.o
    ·rw[hsg] at HSr;have hE:=HEr.o;rw[hsg] at hE;have HEr0:=hI (show failErr j.p st now q until'=0 from hE);clear hE;go_upto_region 27 with(go_at_call 65;go_loud (refine HSr.o.mono ?_);rintro e w9 ⟨rfl,hk9,hb9⟩;have Hk9:=hI (HK8.o.trans hk9);have Hb9:=hI hb9;clear hk9 hb9)
     have HG9:=hI (HGo.o w9 Hk9.o);have hs10:=Hk9.o.size;have p2:=bc (j:=2) Hb9.o.hg rfl;rw[Hn5.o] at p2;have hgne:w.heap.size+3≠gb:=by omega
     have HP2:=hI (glater_cell p2 (blk_lt Hb9.o.hg) (row:=some (w.heap.size+3)) (by intro e;exact hgne (Option.some.inj e).symm));clear p2;obtain⟨C,hC⟩:∃C:(Nat->Bool)->(Nat->Value)->World->Prop,C=fun L V w'=>∃(e:GLater w9 (some (w.heap.size+3))),w'=e.w/\Hid (e.w.heap[w.heap.size+3]? =some (.cells #[.slice T5 n j2.tc,.slice (some ⟨gr,0,none⟩) nr j2.rc] 25 (0,0)))/\(L 0=true->V 0= .agg #[.slice T5 n j2.tc,.slice (some ⟨gr,0,none⟩) nr j2.rc])/\(L 1=true->V 1= .pointer (some ⟨gb,0,none⟩))/\(L 2=true->V 2= .pointer (some ⟨gb,0,none⟩))/\(L 3=true->V 3= .pointer (some ⟨gb,2,none⟩))/\(L 4=true->V 4= .slice (some ⟨sb,0,none⟩) n n)/\(L 5=true->L 5=true)/\(L 6=true->V 5= .slice (some ⟨sb,0,none⟩) n n)/\(L 7=true->V 6= .int .i64 0):=⟨_,rfl⟩
     have HC:=hI hC;clear hC;refine wp_region_opsA [147,148,149,150,151,11,12] C (by kernel_rfl) (by kernel_rfl) (by decide) (by kernel_rfl) (by kernel_rfl) ?_ ?_ ?_
     ·rw[HC.o];exact⟨⟨w9.drew,⟨rfl,rfl,rfl,Nat.le_refl _,fun _ _ _=>rfl⟩⟩,rfl,hI HG9.o,nff,nff,nff,nff,nff,nff,nff,nff⟩
     ·rintro L V w' ii o AA hii ho hLi haf hInv hAA hFF;rw[HC.o] at hInv;obtain⟨e,rfl,p0,h0,h1,h2,h3,h4,h5,h6,h7⟩:=hInv;rcases ii with _ | _ | _ | _ | _ | _ | _ | _ | ii;case succ.succ.succ.succ.succ.succ.succ.succ=>(simp at hii;try omega)
      all_goals (simp only[List.getElem?_cons_zero,List.getElem?_cons_succ,Option.some.injEq] at ho;subst ho)
      all_goals clear hii
      ·have f10:AA.tmps[10]?.getD undef= .pointer (some ⟨w.heap.size+1+1+1,0,none⟩):=hFF.out 10 (by decide);have hx:=p0.out;have z0:=bc (j:=0) hx rfl;have z1:=bc (j:=1) hx rfl;clear hx;go_wp2;rw[HC.o];exact⟨_,rfl,e,rfl,p0,fun _=>rfl,h1,h2,h3,h4,h5,h6,h7⟩
      ·have f16:AA.tmps[16]?.getD undef= .pointer (some ⟨gb,0,none⟩):=hFF.out 16 (by decide);go_wp2;rw[HC.o];exact⟨_,rfl,e,rfl,p0,h0,fun _=>rfl,h2,h3,h4,h5,h6,h7⟩
      ·have a1:=(hAA.out 1 148 rfl).trans (h1 (haf ⟨1,.data⟩ (by simp) rfl));go_wp2;rw[HC.o];exact⟨_,rfl,e,rfl,p0,h0,h1,fun _=>rfl,h3,h4,h5,h6,h7⟩
      ·have a2:=(hAA.out 2 149 rfl).trans (h2 (haf ⟨2,.data⟩ (by simp) rfl));go_wp2;rw[HC.o];exact⟨_,rfl,e,rfl,p0,h0,h1,h2,fun _=>rfl,h4,h5,h6,h7⟩
      ·have a3:=(hAA.out 3 150 rfl).trans (h3 (haf ⟨3,.data⟩ (by simp) rfl));have z2:=HP2.o e;go_wp2;rw[HC.o];exact⟨_,rfl,e,rfl,p0,h0,h1,h2,h3,fun _=>rfl,h5,h6,h7⟩
      ·have a0:=(hAA.out 0 147 rfl).trans (h0 (haf ⟨0,.data⟩ (by simp) rfl));have f10:AA.tmps[10]?.getD undef= .pointer (some ⟨w.heap.size+1+1+1,0,none⟩):=hFF.out 10 (by decide);have hx:=p0.out;have z0:=bc (j:=0) hx rfl;have z1:=bc (j:=1) hx rfl;have n0:=W7.bf (j:=0) hx;have n1:=W7.bf (j:=1) hx;clear hx;go_wp2;rw[HC.o];exact⟨rfl,undef,⟨_,grown_trans (grown_trans e.g (grown_setF _ (w.heap.size+3) 0 _)) (grown_setF _ (w.heap.size+3) 1 _)⟩,rfl,hI (by show((e.w.setCell ⟨w.heap.size+3,0,none⟩ _).setCell ⟨w.heap.size+3,1,none⟩ _).heap[w.heap.size+3]? =_;rw[blk_set (blk_set p0.out _)];rfl),h0,h1,h2,h3,h4,fun _=>rfl,h6,h7⟩
      ·have a4:=(hAA.out 4 151 rfl).trans (h4 (haf ⟨4,.data⟩ (by simp) rfl));go_wp2;rw[HC.o];exact⟨_,rfl,e,rfl,p0,h0,h1,h2,h3,h4,h5,fun _=>rfl,h7⟩
      ·go_wp2;rw[HC.o];exact⟨_,rfl,e,rfl,p0,h0,h1,h2,h3,h4,h5,h6,fun _=>rfl⟩
     rintro L V w' hL hInv;rw[HC.o] at hInv;obtain⟨e,rfl,p0,h0,h1,h2,h3,h4,h5,h6,h7⟩:=hInv;have k0:=h0 (hL 0 (by simp));have k1:=h1 (hL 1 (by simp));have k2:=h2 (hL 2 (by simp));have k3:=h3 (hL 3 (by simp));have k4:=h4 (hL 4 (by simp));have k5:=h5 (hL 5 (by simp));have k6:=h6 (hL 6 (by simp));have k7:=h7 (hL 7 (by simp));clear h0 h1 h2 h3 h4 h5 h6 h7 hL HC;have HGF:=hI e.g;have HP0:=hI p0.out;generalize e.w=w10 at HGF HP0;clear k0 k1 k2 k3 k4 k5 p0 HP2;simp only[putAll];rw[k6,k7];go_frame
     have HR:=hI (show FailR j st now q until' w (.returned (.tuple #[.agg #[.slice T5 n j2.tc,.slice (some ⟨gr,0,none⟩) nr j2.rc],.slice (some ⟨sb,0,none⟩) n n,.int .i64 0])) w10 from by
      have hbl:Below (w.heap.size+3) W0 w10:=(HBo.o w9 Hk9.o).grown HGF.o (by omega) (fun k hk=>by cases hk;exact Nat.le_refl _);have hj5:JOwn w9 w1.heap.size j5:=HJ5.o.below (HBw.o.trans (Hk9.o.below hb2 hb3 hsB));refine⟨⟨j5,.slice (some ⟨sb,0,none⟩) n n,by rw[HEr0.o,Hjv6.o],(hj5.low HGF.o (by omega)).mono (by omega),by rw[HP5.o];unfold failJ;rw[if_pos HEr0.o,Int.toNat_natCast],?_⟩,HB0.o.trans (hbl.mono (by omega))⟩;unfold failSt;rw[if_pos HEr0.o,HSG.o];have hsb9:w10.heap[sb]? =some (.cells (SG.2.st.map (Value.int .i64)).toArray 3 (0,0)):=(HGF.o.block sb (blk_lt Hb9.o.hs) (fun e=>by have:=Option.some.inj e;omega)).trans Hb9.o.hs;have hl:SG.2.st.length=n:=HSt2.o;refine⟨by simp[hl],.inr ⟨sb,n,_,by rw[hl],by omega,hsb9,by rw[hl];exact Nat.le_refl _,by unfold maxLen;omega,by simp[hl],by rw[List.take_of_length_le (by simp[hl])]⟩⟩)
     have e0:=W7.bc (j:=0) HP0.o rfl;have e1:=W7.bc (j:=1) HP0.o rfl;go_wp2;refine bodyPost_ret (v:= .tuple #[.agg #[.slice T5 n j2.tc,.slice (some ⟨gr,0,none⟩) nr j2.rc],.slice (some ⟨sb,0,none⟩) n n,.int .i64 0]) (by simp[results,Tryz.results22,go_sem,e0,e1]) rfl ?_;exact HR.o
end Go.Proofs.YtjpgnfekbojcaaaGreat
