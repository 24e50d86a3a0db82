/- What the specification's Fail gives. -/
import Derived.Test.YtjpgnfekbojcaaaGreatWROff
import Derived.Test.YtjpgnfekbojcaaaGreatWDig2
set_option maxHeartbeats 16000000
set_option maxRecDepth 100000
namespace W8
open W7
theorem offGo_len:∀(l out:List JSpan) (p:Bool) (x:JSpan),(offGo l out p x).length<=out.length+l.length+(if p then 0 else 1)
 | [],out,p,x=>by cases p<;>simp[offGo]
 | s::l,out,p,x=>by
  simp only[offGo]
  split
  ·have:=offGo_len l (out++[s]) p x;simp only[zF,List.length_cons,List.length_nil] at this ⊢;omega
  ·split
   ·cases p
    ·have:=offGo_len l (out++[x]++[s]) true x;simp only[zF,List.length_cons,List.length_nil,if_true] at this ⊢;simp only[Bool.false_eq_true,if_false];omega
    ·have:=offGo_len l (out++[s]) true x;simp only[zF,List.length_cons,List.length_nil,if_true] at this ⊢;omega
   ·have:=offGo_len l out p ⟨min x.lo s.lo,max x.hi s.hi⟩;simp only[List.length_cons] at this ⊢;omega
theorem offV_len (l:List JSpan) (x:JSpan):(offV l x).length<=l.length+1:=by
 have:=offGo_len l [] false x;unfold offV
 simpa using this
theorem offs_bound {l:List JSpan} (hl:∀s∈l,0<=s.lo/\s.lo<=s.hi/\s.hi<=100000) (i:Nat):Gap ((l.take i).foldl offV [])/\(∀s∈(l.take i).foldl offV [],0<=s.lo/\s.lo<=s.hi/\s.hi<=100000)/\((l.take i).foldl offV []).length<=i:=by
 have h1:=foldl_off (l:=l.take i) (a:=[]) (fun s hs=>(hl s (List.mem_of_mem_take hs)).2.1) gap_nil;refine⟨h1.1,fun s hs=> ?_,?_⟩
 ·have h2:=h1.1.each s hs
  have hin:∀t,s.lo<=t->t<=s.hi->0<=t/\t<=100000:=fun t a b=>by
   have h3:=(h1.2 t).1 ⟨s,hs,a,b⟩;rw[inOff_nil,false_or] at h3;obtain⟨y,hy,h4,h5⟩:=h3;have:=hl y (List.mem_of_mem_take hy);omega
  have a:=hin s.lo (Int.le_refl _) h2;have b:=hin s.hi h2 (Int.le_refl _);omega
 ·have:∀(m a:List JSpan),(m.foldl offV a).length<=a.length+m.length:=by
   intro m
   induction m with
   | nil=>intro a;simp
   | cons x m ih=>
    intro a;have h2:=ih (offV a x);have h3:=offV_len a x;rw[List.foldl_cons,List.length_cons];omega
  have h2:=this (l.take i) [];rw[List.length_take] at h2;simp at h2;omega
theorem offs_take {l:List JSpan} {i:Nat} (h:i<l.length):(l.take (i+1)).foldl offV []=offV ((l.take i).foldl offV []) l[i]:=by
 rw[zK h,List.foldl_append];rfl
theorem uses_pos {j:JobP} (hG:JGood j) {i:Nat} (hi:i<j.tasks.length) (q:Int):decide (usesV q (j.tasks.getD i default).uses>0)=usesB q (j.tasks.getD i default):=by
 have hm:=tk_mem hi;rw[<- pieces_uses (hG.nuses _ hm)];have hp:∀u∈(j.tasks.getD i default).uses,1<=u.many:=fun u hu=>(hG.uses _ hm u hu).2.2.1
 unfold usesB;cases h:(j.tasks.getD i default).uses.any (fun u=>u.res==q)
 ·rw[pieces_no h];rfl
 ·rw[List.any_eq_true] at h;obtain⟨u,hu,hq⟩:=h;rw[pieces_of (hG.nuses _ hm) hp hu (eq_of_beq hq)];have:=hp u hu;exact zD (by omega)
end W8
namespace Go.Proofs.YtjpgnfekbojcaaaGreat
open Go.RowKit W7 W8
attribute [local go_sem] Oper.semAt_some
def putJob (j:Job) (q:Nat) (A:Option Addr) (c:Nat) (J:List JSpan) (LA:Option Addr) (lc:Nat):Job:=({ j with RA:=A,rc:=c }:Job).putOff q J LA lc
theorem putJob_p {j:Job} {q c lc:Nat} {A LA:Option Addr} {now until':Int}:(putJob j q A c (failOff j.p q now until') LA lc).p=failJob j.p q now until':=by
 unfold putJob;rw[putOff_p]
 rfl
theorem putJob_in {X:World} {j:Job} {q c g lc B1 base:Nat} {J:List JSpan} {LA:Option Addr} (hq:q<j.res.length) (hX1:B1<=X.heap.size) (hj:JIn X B1 j) (hJ:Sl X X.heap.size 2 encJSpan LA J) (hl1:J.length<=lc) (hl2:lc<=9223372036854775807) (hr:X.ownsRow base 43 3 (.slice (some ⟨g,0,none⟩) j.res.length c) j.res.length ((putJob j q (some ⟨g,0,none⟩) c J LA lc).res.flatMap encRes)):JIn X X.heap.size (putJob j q (some ⟨g,0,none⟩) c J LA lc):=by
 have hlen:(putJob j q (some ⟨g,0,none⟩) c J LA lc).res.length=j.res.length:=by unfold putJob Job.putOff;simp
 have hcaps:=own_caps hr;refine⟨hj.tk.mono hX1,sl_own (c:=c) (by rw[show(putJob j q (some ⟨g,0,none⟩) c J LA lc).RA=some ⟨g,0,none⟩ from rfl];exact hr) lenR (by omega),hj.tl,hj.tc,by rw[hlen];exact hcaps.1,hcaps.2,fun t ht=>(hj.tks t ht).mono hX1,fun r hr'=> ?_⟩;rcases List.mem_or_eq_of_mem_set hr' with h1 | h1
 ·exact(hj.rss r h1).mono hX1
 ·rw[h1];exact⟨(hj.rss _ (j.R_mem hq)).nm,hJ,hl1,hl2⟩
theorem src_sl {α:Type} [Inhabited α] {enc:α->List Value} {k:Nat} (hk:0<k) (hlen:∀x,(enc x).length=k) {w:World} {B n:Nat} {l:List α} {ad:Addr} (h:Sl w B k enc (some ad) l) (hn:n=l.length):Src w k (some ad) n (l.flatMap enc):=by
 have hfl:(l.flatMap enc).length=l.length*k:=by
  clear h hn
  induction l with
  | nil=>simp
  | cons a r ih=>rw[List.flatMap_cons,zF,ih,hlen,List.length_cons,Nat.succ_mul];omega
 refine .inr ⟨ad,rfl,by rw[hfl,hn],fun i u hu=> ?_⟩
 have hi:i<l.length*k:=by
  have:=(List.getElem?_eq_some_iff.1 hu).1
  rwa [hfl] at this
 obtain⟨b,off,e1,_,hc⟩:=h (Nat.pos_of_ne_zero fun h0=>by rw[h0,Nat.zero_mul] at hi;omega);cases e1;have hd:i/k<l.length:=Nat.div_lt_of_lt_mul (by rw[Nat.mul_comm];exact hi);have hm:i%k<k:=Nat.mod_lt _ hk;have he:i/k*k+i%k=i:=by rw[Nat.mul_comm];exact Nat.div_add_mod i k
 have hu2:(enc l[i/k])[i%k]? =some u:=by
  rw[<- flatMap_get (enc:=enc) (k:=k) hlen l (i/k) (i%k) hd hm,he];exact hu
 have h1:=hc (i/k) hd (i%k) u hu2
 have h2:(⟨b,off,none⟩:Addr).add i=⟨b,off+i/k*k+i%k,none⟩:=by
  rw[show off+i/k*k+i%k=off+i by omega];unfold Addr.add
  split<;>simp_all
 rw[h2];exact h1
theorem own_tail {X:World} {base n:Nat} {v:Value} {xs:List Int} (h:X.ownsRow base 3 1 v n (xs.flatMap encInt1)) (hb:∃k,v.ownBlock=some k):∃g cap tl,v= .slice (some ⟨g,0,none⟩) n cap/\base<=g/\X.heap[g]? =some (.cells (xs.map (Value.int .i64)++tl).toArray 3 (0,0)):=by
 rcases h.2 with⟨h1,_⟩ | ⟨g,cap,cur,h1,h2,h3,h4,h5,h6,h7⟩
 ·subst h1;obtain⟨k,hk⟩:=hb;cases hk
 ·refine⟨g,cap,cur.toList.drop n,h1,h2,?_⟩;rw[h3,Nat.mul_one,flat_int] at *;rw[<- h7,List.take_append_drop]
def plI (j:JobP) (st:List Int) (now r:Int) (n i:Nat):List Bool:=(List.range n).map (fun k=>decide (k<i)&&keptB j st now r k)
theorem plI_zero (j:JobP) (st:List Int) (now r:Int) (n:Nat):plI j st now r n 0=List.replicate n false:=by
 apply List.ext_getElem
 ·simp[plI]
 ·intro i h1 h2;simp[plI]
theorem plI_full (j:JobP) (st:List Int) (now r:Int) (n:Nat):plI j st now r n n=(List.range n).map (keptB j st now r):=by
 refine List.map_congr_left fun k hk=> ?_
 rw[zD (List.mem_range.1 hk),Bool.true_and]
theorem plI_set (j:JobP) (st:List Int) (now r:Int) (n i:Nat):(plI j st now r n i).set i (keptB j st now r i)=plI j st now r n (i+1):=by
 apply List.ext_getElem
 ·simp[plI]
 ·intro k h1 h2;simp only[plI,List.getElem_set,List.getElem_map,List.getElem_range]
  by_cases e:i=k
  ·subst e;simp
  ·rw[if_neg e,show decide (k<i+1)=decide (k<i) from decide_eq_decide.2 (by omega)]
theorem plI_len (j:JobP) (st:List Int) (now r:Int) (n i:Nat):(plI j st now r n i).length=n:=by simp[plI]
theorem posB_stop {st L:List Int} {sv:Int} {a:Nat} (h:(decide (0<a)&&decide (sv<st.getD (L.getD (a-1) 0).toNat 0))=false):posB st L sv a=a:=by
 cases a with
 | zero=>rfl
 | succ a=>
  simp only[posB];rw[if_neg];intro h2;rw[show a+1-1=a from rfl,zD h2] at h;simp at h
theorem posB_go {st L:List Int} {sv:Int} {a m:Nat} (h0:m=posB st L sv a) (h:(decide (0<a)&&decide (sv<st.getD (L.getD (a-1) 0).toNat 0))=true):0<a/\m=posB st L sv (a-1):=by
 rw[zY,decide_eq_true_eq,decide_eq_true_eq] at h;refine⟨h.1,?_⟩;rw[h0];cases a with
 | zero=>rfl
 | succ a=>
  simp only[posB];rw[if_pos (show sv<st.getD (L.getD a 0).toNat 0 from h.2)]
  rfl
theorem blk_src1 {w:World} {gb:Nat} {x:Int} {T:Nat} (h:w.heap[gb]? =some (.cells #[.int .i64 x] T (0,0))):Src w 1 (some ⟨gb,0,none⟩) 1 [.int .i64 x]:=by
 refine .inr ⟨_,rfl,rfl,fun j u hu=> ?_⟩;cases j with
 | zero=>cases hu;exact kC 0 h rfl
 | succ j=>cases hu
theorem src_own1 {w:World} {base n c:Nat} {A:Option Addr} {xs:List Value} (h:w.ownsRow base 3 1 (.slice A n c) n xs):Src w 1 A n xs:=by
 have hl:=h.1;rw[Nat.mul_one] at hl;rcases h.2 with⟨h1,h2⟩ | ⟨g,cap,cur,he,hb,hg,h1,h2,h3,h4⟩
 ·simp only[Value.slice.injEq] at h1;exact .inl ⟨h1.1,h2,List.length_eq_zero_iff.1 (by omega)⟩
 ·simp only[Value.slice.injEq,true_and] at he;obtain⟨rfl,rfl⟩:=he;refine .inr ⟨_,rfl,by rw[Nat.mul_one];exact hl,fun k u hu=> ?_⟩;rw[Nat.mul_one] at h4;have hk:k<n:=by have:=(List.getElem?_eq_some_iff.1 hu).1;omega
  have e:(⟨g,0,none⟩:Addr).add k=⟨g,k,none⟩:=by unfold Addr.add;split<;>simp_all
  rw[e];refine bc hg ?_;rw[<- h4,List.getElem?_take_of_lt hk] at hu
  simpa using hu
theorem own_room0 {w:World} {base e size n:Nat} {g gb:Nat} {xs:List Value} {cs:Array Value} {T:Nat} {fz:Nat×Nat} (h:w.ownsRow base e size (.slice (some ⟨g,0,none⟩) n 0) n xs) (hb:w.heap[gb]? =some (.cells cs T fz)) (hcs:0<cs.size):some gb≠(Value.slice (some ⟨g,0,none⟩) n 0).ownBlock:=fun e1=>by
 have e2:gb=g:=zJ e1;subst e2;rcases h.2 with⟨e0,_⟩ | ⟨g',cap,cur,e0,_,hg,_,_,hsz,_⟩
 ·cases e0
 ·cases e0;rw[hb] at hg;cases hg;omega
theorem cutV {A A2:Option Addr} {c a n:Nat} (h:A2=if c=a then A else A.map (·.add (a*1))):(c=a->Value.slice A n 0= .slice A2 n (c-a))/\(¬c=a->Value.slice (A.map (·.add a)) n (c-a)= .slice A2 n (c-a)):=by
 refine⟨fun e=> ?_,fun e=> ?_⟩
 ·rw[h,if_pos e,e,Nat.sub_self]
 ·rw[h,if_neg e,Nat.mul_one]
theorem own_keptT {w X:World} {base e size n a b:Nat} {v:Value} {xs:List Value} (h:w.ownsRow base e size v n xs) (hk:Kept2 w X a b) (ha:a<base) (hb:b<base):X.ownsRow base e size v n xs:=by
 refine⟨h.1,?_⟩;rcases h.2 with h1 | ⟨g,cap,cur,h1,h2,h3,h4⟩
 ·exact .inl h1
 ·exact .inr ⟨g,cap,cur,h1,h2,(hk.block g (blk_lt h3) (by omega) (by omega)).trans h3,h4⟩
theorem notPl_fail (j:JobP) (st:List Int) (now r:Int):notPl ((List.range j.tasks.length).map (keptB j st now r))=(failOrd j st now r).length:=by
 rw[(failOrd_perm j st now r).length_eq,List.length_map];unfold notPl;rw[List.count_eq_countP,List.countP_map,List.countP_eq_length_filter]
 congr 1
 refine List.filter_congr fun x _=> ?_
 simp only[Function.comp];cases keptB j st now r x<;>rfl
theorem src_cut {X:World} {A:Option Addr} {n c l h:Nat} {xs:List Value} (hs:Src X 1 A n xs) (hlh:l<=h) (hn:h<=n) (hc:n<=c):Src X 1 (if c=l then A else A.map (·.add (l*1))) (h-l) ((xs.take h).drop l):=by
 rcases hs with⟨h1,h2,h3⟩ | ⟨ad,h1,h2,h3⟩
 ·subst h1 h2 h3;refine .inl ⟨?_,by omega,by simp⟩
  split<;>rfl
 ·rw[Nat.mul_one] at h2;refine .inr ⟨if c=l then ad else ad.add (l*1),?_,?_,fun j u hu=> ?_⟩
  ·rw[h1];split<;>rfl
  ·rw[List.length_drop,List.length_take,h2,Nat.mul_one,Nat.min_eq_left hn]
  ·have hj:=(List.getElem?_eq_some_iff.1 hu).1;rw[List.length_drop,List.length_take,h2,Nat.min_eq_left hn] at hj;rw[List.getElem?_drop,List.getElem?_take_of_lt (by omega)] at hu;rw[if_neg (by omega),Nat.mul_one,Addr.add_add];exact h3 _ _ hu
structure RFailR (j:Job) (st:List Int) (now r until':Int) (w:World) (e:Ending) (w':World):Prop where
 ex:∃(j':Job) (A:Option Addr) (n c:Nat),e= .returned (.tuple #[jobV j',.slice A n c,.int .i64 (failErr j.p st now r until')])/\JIn w' w'.heap.size j'/\j'.p=failJ j.p st now r until'/\n=(failSt j.p st now r until').length/\Sl w' w'.heap.size 1 encInt1 A (failSt j.p st now r until')
 bel:Bl w w'
theorem RFailR.bad {j:Job} {st:List Int} {now r until' err:Int} {w w':World} (h:failErr j.p st now r until'=err) (h0:err≠0) (hb:Bl w w'):RFailR j st now r until' w (.returned (.tuple #[.agg #[.slice none 0 0,.slice none 0 0],.slice none 0 0,.int .i64 err])) w':=by
 have h1:failErr j.p st now r until'≠0:=by rw[h];exact h0
 have h2:failSt j.p st now r until'=[]:=by unfold failSt;rw[if_neg h1]
 exact⟨⟨noJob,none,0,0,by rw[h];rfl,(noJob_own w' 0).jin,by unfold failJ;rw[if_neg h1];rfl,by rw[h2];rfl,by rw[h2];exact Sl.nil⟩,hb⟩
theorem refFail_any (j:Job) (st:List Int) (now r until':Int) (SA:Option Addr) (sn sc B:Nat) (w:World) (hj:JIn w B j) (hB:B<=w.heap.size) (hst:StIn w B SA sn sc st) (hz:SA=none->sn=0/\sc=0) (hrg:∀i, -9223372036854775808<=st.getD i 0/\st.getD i 0<=9223372036854775807) :
  Calls Tryz.prog 23 #[jobV j,.slice SA sn sc,.int .i64 now,.int .i64 r,.int .i64 until'] w (RFailR j st now r until' w):=by
 obtain⟨n,hn⟩:=eX j.tasks.length;obtain⟨TA,hTA⟩:=eX j.TA;obtain⟨RA,hRA⟩:=eX j.RA;obtain⟨nr,hnr⟩:=eX j.res.length;have hjv:jobV j= .agg #[.slice TA n j.tc,.slice RA nr j.rc]:=by unfold jobV;rw[hn,hTA,hRA,hnr]
 obtain⟨W0,HW0,hs0,HB0,HX00,HX01,HU0⟩:=boxes2 w (.cells #[.slice TA n j.tc,.slice RA nr j.rc] 25) (.cells #[.slice none 0 0,.slice none 0 0] 25);have HJ:=hI (show ∀X:World,Bl W0 X->JIn X B j/\StIn X B SA sn sc st from fun X hX=>⟨hj.below ((HU0.o X hX).mono hB),hst.below ((HU0.o X hX).mono hB)⟩);have HJ0:=hI (show ∀X:World,Bl w X->JIn X B j from fun X hX=>hj.below (hX.mono hB));have HL:=hI (refLength_any j st SA sn sc B W0 (HJ.o W0 (zX _ _)).1 (by omega) (HJ.o W0 (zX _ _)).2 hrg);have hlr:=hj.rl;have hcr:=hj.rc;rw[hnr] at hlr;have Hn:=hI hn;have Hnr:=hI hnr;have Hjv:=hI hjv;have HTA:=hI hTA;have HRA:=hI hRA;have Hz:=hI hz;rw[hjv] at HL ⊢;obtain⟨le,hle⟩:=eX (lnErr j.p st);obtain⟨lv,hlv⟩:=eX (lnV j.p st);rw[hle,hlv] at HL;have Hle:=hI hle;have q0:=kC 0 (HX00.o W0 (zX _ _)) rfl;have q1:=kC 1 (HX00.o W0 (zX _ _)) rfl;clear hj hst hn hTA hRA hnr hjv hle hlv hz hrg;go_enter Tryz.func23,Tryz.ntmps23
 go_upto_region 1 with fail
 go_loud (rw[<- HW0.o])
 go_upto_region 2 with(go_at_call 40;go_loud (refine HL.o.mono ?_);rintro e w1 ⟨rfl,hb1⟩;have hs1:=hb1.size;have Hb1:=hI hb1;clear hb1)
 clear q0 q1 HL;have g0:=kC 0 (HX01.o w1 Hb1.o) rfl;have g1:=kC 1 (HX01.o w1 Hb1.o) rfl;have f0:=kF 0 (HX01.o w1 Hb1.o);have f1:=kF 1 (HX01.o w1 Hb1.o);obtain⟨X1,hX1⟩:=eX ((w1.setCell ⟨w.heap.size+1,0,none⟩ (.slice none 0 0)).setCell ⟨w.heap.size+1,1,none⟩ (.slice none 0 0));have hG1:X1.heap[w.heap.size+1]? =some (.cells #[.slice none 0 0,.slice none 0 0] 25 (0,0)):=by rw[<- hX1,blk_set (blk_set (HX01.o w1 Hb1.o) _)];rfl
 have HEnd:=hI (show ∀err:Int,failErr j.p st now r until'=err->err≠0->RFailR j st now r until' w (.returned (.tuple #[.agg #[.slice none 0 0,.slice none 0 0],.slice none 0 0,.int .i64 err])) X1 from fun err h h0=>RFailR.bad h h0 (by rw[<- hX1];exact((HB0.o.trans (Hb1.o.mono (by omega))).setCell (p:=⟨w.heap.size+1,0,none⟩) (by simp) _).setCell (p:=⟨w.heap.size+1,1,none⟩) (by simp) _));have e0:=kC 0 hG1 rfl;have e1:=kC 1 hG1 rfl;have HX1:=hI hX1;clear hX1 hG1;cases h0:(le==0)
 ·have h0':(le != 0)=true:=by simp[bne,h0]
  have hne:le≠0:=fun h=>by rw[h] at h0;cases h0
  have HR:=hI (HEnd.o le (by rw[failErr_len (by rw[Hle.o];exact hne),Hle.o]) hne);clear HEnd hne;go_wp2
  go_loud (rw[HX1.o])
  refine bodyPost_ret (v:= .tuple #[.agg #[.slice none 0 0,.slice none 0 0],.slice none 0 0,.int .i64 le]) (by simp[results,Tryz.results23,go_sem,e0,e1]) rfl ?_;exact HR.o
 have h0':(le != 0)=false:=by simp[bne,h0]
 obtain rfl:=eq_of_beq h0;have q1:=kC 1 (HX00.o w1 Hb1.o) rfl;cases d1:decide (r<0);rotate_left
 ·have hW:withinB r 0 ((nr:Int)-1)=false:=by rw[Bool.eq_false_iff];intro h;have:=withinB_true.1 h;have:=zI d1;omega
  have HR:=hI (HEnd.o 7 (failErr_no Hle.o (by rw[j.nr,Hnr.o];exact hW)) (by decide));clear HEnd;go_wp2
  go_loud (rw[HX1.o])
  refine bodyPost_ret (v:= .tuple #[.agg #[.slice none 0 0,.slice none 0 0],.slice none 0 0,.int .i64 7]) (by simp[results,Tryz.results23,go_sem,e0,e1]) rfl ?_;exact HR.o
 cases d2:decide (r>=(nr:Int));rotate_left
 ·have hW:withinB r 0 ((nr:Int)-1)=false:=by rw[Bool.eq_false_iff];intro h;have:=withinB_true.1 h;have:=zI d2;omega
  have HR:=hI (HEnd.o 7 (failErr_no Hle.o (by rw[j.nr,Hnr.o];exact hW)) (by decide));clear HEnd;go_wp2
  go_loud (rw[HX1.o])
  refine bodyPost_ret (v:= .tuple #[.agg #[.slice none 0 0,.slice none 0 0],.slice none 0 0,.int .i64 7]) (by simp[results,Tryz.results23,go_sem,e0,e1]) rfl ?_;exact HR.o
 have hW:withinB r 0 ((nr:Int)-1)=true:=withinB_true.2 (by have:=zH d1;have:=zH d2;omega);cases hT1:isTm now
 ·have HR:=hI (HEnd.o 1 (failErr_arg Hle.o (by rw[j.nr,Hnr.o];exact hW) (by rw[hT1];rfl)) (by decide));clear HEnd;go_wp2_with (go_at_call 77;refine(timed_any _ _).mono ?_;rintro e w' ⟨rfl,rfl⟩)
  go_loud (rw[HX1.o])
  refine bodyPost_ret (v:= .tuple #[.agg #[.slice none 0 0,.slice none 0 0],.slice none 0 0,.int .i64 1]) (by simp[results,Tryz.results23,go_sem,e0,e1]) rfl ?_;exact HR.o
 cases hT2:isTm until'
 ·have HR:=hI (HEnd.o 1 (failErr_arg Hle.o (by rw[j.nr,Hnr.o];exact hW) (by rw[hT1,hT2];rfl)) (by decide));clear HEnd;go_wp2_with (go_at_call 77;refine(timed_any _ _).mono ?_;rintro e w' ⟨rfl,rfl⟩)
  go_loud (rw[HX1.o])
  refine bodyPost_ret (v:= .tuple #[.agg #[.slice none 0 0,.slice none 0 0],.slice none 0 0,.int .i64 1]) (by simp[results,Tryz.results23,go_sem,e0,e1]) rfl ?_;exact HR.o
 cases d3:decide (until'<now);rotate_left
 ·have hN3:=zI d3;have HR:=hI (HEnd.o 1 (failErr_arg Hle.o (by rw[j.nr,Hnr.o];exact hW) (by rw[hT1,hT2,zE (by omega)];rfl)) (by decide));clear HEnd;go_wp2_with (go_at_call 77;refine(timed_any _ _).mono ?_;rintro e w' ⟨rfl,rfl⟩)
  go_loud (rw[HX1.o])
  refine bodyPost_ret (v:= .tuple #[.agg #[.slice none 0 0,.slice none 0 0],.slice none 0 0,.int .i64 1]) (by simp[results,Tryz.results23,go_sem,e0,e1]) rfl ?_;exact HR.o
 have hN3:=zH d3;have htn:=isTm_true.1 hT1;have htu:=isTm_true.1 hT2;obtain⟨q,hq⟩:∃q:Nat,r=q:=⟨r.toNat,by have:=zH d1;omega⟩
 subst hq;have hql:q<nr:=by have:=zH d2;omega
 have HJe:=hI (show jobErr j.p=0/\keepsV j.p st=true/\st.length=j.p.tasks.length by
  have h:=Hle.o;unfold lnErr at h
  by_cases hk:kpErr j.p st=0
  ·rw[if_neg (by simpa using hk)] at h;unfold kpErr at hk
   by_cases h2:jobErr j.p=0
   ·rw[if_neg (by simpa using h2)] at hk;refine⟨h2,?_,?_⟩
    ·cases h3:keepsV j.p st
     ·rw[h3] at h;cases h
     ·rfl
    ·by_cases h3:st.length=j.p.tasks.length
     ·exact h3
     ·rw[if_neg h3] at hk;cases hk
   ·rw[if_pos h2] at hk;exact absurd hk h2
  ·rw[if_pos hk] at h;exact absurd h hk)
 have HG:=hI (good_of HJe.o.1);have HT:=hI (show(isTm now&&isTm until'&&decide (now<=until'))=true by rw[hT1,hT2,zD (show now<=until' by omega)];rfl);have HW:=hI (show withinB (q:Int) 0 ((j.p.res.length:Int)-1)=true by rw[j.nr,Hnr.o];exact hW);obtain⟨off,hoff⟩:=eX ((j.p.res.getD q default).off);have hqj:q<j.p.res.length:=by rw[j.nr,Hnr.o];exact hql
 have hrm:j.p.res.getD q default∈j.p.res:=by rw[getD_of hqj];exact zC _
 have HOb:=hI (show ∀s∈off,0<=s.lo/\s.lo<=s.hi/\s.hi<=100000 from fun s hs=>HG.o.off _ hrm s (by rw[hoff];exact hs));have HOn:=hI (show off.length<=16 by rw[<- hoff];exact HG.o.noff _ hrm);have Hoff:=hI hoff
 have HRt:=hI (show ∀X:World,Bl W0 X->∃rb roff OA oc,RA=some ⟨rb,roff,none⟩/\rb<B/\X.cell? ⟨rb,roff+q*3+2,none⟩=some (.slice OA off.length oc)/\Sl X B 2 encJSpan OA off/\OA=(j.R q).OA/\oc=(j.R q).oc/\off.length<=oc/\oc<=9223372036854775807 from fun X hX=>by
  have hjn:=(HJ.o X hX).1;obtain⟨rb,roff,hR,hrb⟩:=hjn.ra (by have:=Hnr.o;omega);have hq2:q<j.res.length:=by have:=Hnr.o;omega
  have hc:=(hjn.rcells hR hq2).2.2;have hs:=hjn.rss _ (j.R_mem hq2);have he:(j.R q).p.off=off:=by rw[<- j.pR];exact hoff
  have hos:=hs.os;have hol:=hs.ol;rw[he] at hc hos hol;exact⟨rb,roff,_,_,HRA.o.symm.trans hR,hrb,hc,hos,rfl,rfl,hol,hs.oc⟩)
 obtain⟨no,hno⟩:=eX off.length;have Hno:=hI hno;obtain⟨rb,roff,OA,oc,hRA,hrb,hc2,_,hOA,hOc,holc,hoc9⟩:=HRt.o w1 Hb1.o;subst hRA;rw[hno] at hc2 holc;have hno16:no<=16:=by have:=HOn.o;omega
 have HRo:=hI (show ∀X:World,Bl W0 X->X.cell? ⟨rb,roff+q*3+2,none⟩=some (.slice OA no oc)/\Sl X B 2 encJSpan OA off from fun X hX=>by
  obtain⟨rb',roff',OA',oc',h1,_,h2,h3,h4,h5,_⟩:=HRt.o X hX;simp only[Option.some.injEq,Addr.mk.injEq,and_true] at h1;rw[hno,h4,h5,<-h1.1,<-h1.2] at h2;rw[h4] at h3;rw[hOA,hOc];exact⟨h2,h3⟩)
 clear hno hoff hrm hqj hT1 hT2 hW d1 d2 d3 HRt hOA hOc HEnd e0 e1 HX1 X1 hc2 f0 f1 g0 g1;have HL0:=hI (show w1.ownsRow w1.heap.size 50 2 (.slice none 0 0) ((off.take 0).foldl offV []).length (((off.take 0).foldl offV []).flatMap encJSpan) from zU _ _ _ _);have Hb1r:=hI (zX w1.heap.size w1);go_wp2;clear q1;go_loopw [15,16] (fun v15 v16 wr=>∃i:Nat,i<=no/\v16= .int .i64 i/\Hid (wr.ownsRow w1.heap.size 50 2 v15 ((off.take i).foldl offV []).length (((off.take i).foldl offV []).flatMap encJSpan))/\Hid (Bl w1 wr)) (fun _ v16 _=>no-(intOf v16).toNat);case atStart=>exact⟨0,by omega,rfl,HL0,Hb1r⟩
 case round=>
  obtain⟨i,hi,rfl,Ho,Hb⟩:=hrel;clear HL0 Hb1r;have hsr:=Hb.o.size;have HUr:=hI (Hb1.o.trans (Hb.o.mono (by omega)));have q1:=kC 1 (HX00.o wr HUr.o) rfl;obtain⟨c2,hso⟩:=HRo.o wr HUr.o;obtain⟨A5,c5,rfl,q5,q6⟩:=own_cap' Ho.o;obtain⟨hgap,hbnd,hlen⟩:=offs_bound HOb.o i
  by_cases hlt:i<no
  ·have hil:i<off.length:=by have:=Hno.o;omega
   obtain⟨ab,aoff,hAe,hab,hac⟩:=hso (by omega);have a0:=hac i hil 0 _ rfl;have a1:=hac i hil 1 _ rfl;rw[Nat.add_zero] at a0;have hsb:=HOb.o _ (zC hil);have HTk:=hI (offs_take hil);subst hAe;clear hac hso;have HSo:=hI (show Sl wr wr.heap.size 2 encJSpan A5 ((off.take i).foldl offV []) from sl_own2 lenP (e:=50) (c:=c5) Ho.o);generalize (off.take i).foldl offV []=L at HTk HSo Ho q5 hbnd hlen;generalize off[i]=s at a0 a1 hsb HTk
   have HOf:=hI (refOff_any L s A5 L.length c5 wr.heap.size wr rfl HSo.o (zm _) (by omega) (fun y hy=>by
    rcases List.mem_cons.1 hy with rfl | hy
    ·omega
    ·have:=hbnd y hy;omega))
   obtain⟨sl,sh⟩:=s;simp only at a0 a1 HOf;clear Ho HSo hbnd hgap;generalize L.length=ln at HOf q5 hlen ⊢;go_upto_region 12 with fail;go_wp2_with (go_at_call 78;go_loud (refine HOf.o.mono ?_);rintro e w5 ⟨v5,rfl,ho5,hb5⟩;have Ho5:=hI ho5;have Hb5:=hI hb5;clear ho5 hb5);go_roundw;case rel=>exact⟨i+1,by omega,by go_num,hI (by rw[HTk.o];exact own_mono Ho5.o (by omega)),hI (Hb.o.trans (Hb5.o.mono (by omega)))⟩
   case measure=>simp[intOf];omega
  ·have hin:i=no:=by omega
   subst hin;have hT0:(off.take i).foldl offV []=offsV off:=by rw[zG (by have:=Hno.o;omega)];rfl
   rw[hT0] at hbnd hlen hgap Ho q5;have HSo:=hI (show Sl wr wr.heap.size 2 encJSpan A5 (offsV off) from sl_own2 lenP (e:=50) (c:=c5) Ho.o)
   have HFo:=hI (show offV (offsV off) ⟨now,until'⟩=failOff j.p q now until' by
    rw[<- Hoff.o];exact offs_fail (fun s hs=>by rw[Hoff.o] at hs;exact(HOb.o s hs).2.1) (by omega))
   have HOf:=hI (refOff_any (offsV off) ⟨now,until'⟩ A5 (offsV off).length c5 wr.heap.size wr rfl HSo.o (zm _) (by omega) (fun y hy=>by
    rcases List.mem_cons.1 hy with rfl | hy
    ·simp only;omega
    ·have:=hbnd y hy;omega))
   rw[HFo.o] at HOf;rw[hT0];clear Ho HSo hbnd hgap hT0 HFo hso;generalize (offsV off).length=ln at HOf q5 hlen ⊢;go_upto_region 13 with fail;clear q1 c2;go_upto_region 14 with(go_at_call 78;go_loud (refine HOf.o.mono ?_);rintro e w5 ⟨v5,rfl,ho5,hb5⟩;obtain⟨LA,lc,rfl,hl1,hl2⟩:=own_cap' ho5;have hs5:=hb5.size;have Ho5:=hI ho5;have Hb5:=hI (HUr.o.trans (hb5.mono (by omega)));clear ho5 hb5)
   have HRu:=hI (failErr_run (j:=j.p) (st:=st) (now:=now) (r:=(q:Int)) (until':=until') Hle.o HW.o HT.o);have HBg:=hI (failErr_big (j:=j.p) (st:=st) (now:=now) (r:=(q:Int)) (until':=until') Hle.o HW.o HT.o);rw[zZ] at HRu HBg;obtain⟨J,hJ⟩:=eX (failOff j.p q now until');have HJv:=hI hJ;rw[hJ] at Ho5 hl1 HRu HBg ⊢;clear hJ;have HEX:=hI (show ∀X:World,Bl W0 X->∀err,failErr j.p st now q until'=err->err≠0->RFailR j st now q until' w (.returned (.tuple #[.agg #[.slice none 0 0,.slice none 0 0],.slice none 0 0,.int .i64 err])) ((X.setCell ⟨w.heap.size+1,0,none⟩ (.slice none 0 0)).setCell ⟨w.heap.size+1,1,none⟩ (.slice none 0 0)) from fun X hX err h h0=>RFailR.bad h h0 (((HB0.o.trans (hX.mono (by omega))).setCell (p:=⟨w.heap.size+1,0,none⟩) (by simp) _).setCell (p:=⟨w.heap.size+1,1,none⟩) (by simp) _))
   have HGX:=hI (show ∀X:World,Bl W0 X->((X.setCell ⟨w.heap.size+1,0,none⟩ (.slice none 0 0)).setCell ⟨w.heap.size+1,1,none⟩ (.slice none 0 0)).heap[w.heap.size+1]? =some (.cells #[.slice none 0 0,.slice none 0 0] 25 (0,0)) from fun X hX=>by rw[blk_set (blk_set (HX01.o X hX) _)];rfl)
   by_cases hbig:16<J.length
   ·have hbd:decide ((J.length:Int)>16)=true:=zD (by omega);have HR:=hI (HEX.o w5 Hb5.o 3 (HBg.o hbig) (by decide));have g0:=kC 0 (HX01.o w5 Hb5.o) rfl;have g1:=kC 1 (HX01.o w5 Hb5.o) rfl;have f0:=kF 0 (HX01.o w5 Hb5.o);have f1:=kF 1 (HX01.o w5 Hb5.o);have hG1:=HGX.o w5 Hb5.o;generalize hX1:(w5.setCell ⟨w.heap.size+1,0,none⟩ (.slice none 0 0)).setCell ⟨w.heap.size+1,1,none⟩ (.slice none 0 0)=X1 at HR hG1;have e0:=kC 0 hG1 rfl;have e1:=kC 1 hG1 rfl;have HX1:=hI hX1;clear hX1 hG1;go_wp2
    go_loud (rw[HX1.o])
    refine bodyPost_ret (v:= .tuple #[.agg #[.slice none 0 0,.slice none 0 0],.slice none 0 0,.int .i64 3]) (by simp[results,Tryz.results23,go_sem,e0,e1]) rfl ?_;exact HR.o
   have hbd:decide ((J.length:Int)>16)=false:=zE (by omega);have HEr:=hI (HRu.o hbig);obtain⟨W6,hW6⟩:=eY (w5.alloc (.cells #[.slice TA n j.tc,.slice (some ⟨rb,roff,none⟩) nr j.rc] 25));have hs6:W6.heap.size=w5.heap.size+1:=by rw[hW6];simp
   have HB6:=hI (show Bl w5 W6 by rw[hW6];exact(zX _ _).alloc (zm _) _);have HK6:=hI (show W6.heap[w5.heap.size]? =some (.cells #[.slice TA n j.tc,.slice (some ⟨rb,roff,none⟩) nr j.rc] 25 (0,0)) by rw[hW6];exact zW _ _);have HU6:=hI (Hb5.o.trans (HB6.o.mono (by have:=Hb5.o.size;omega)));have HW6:=hI hW6;have hsw5:=Hb5.o.size;clear hW6;have q0:=kC 0 (HX00.o w5 Hb5.o) rfl;have q1:=kC 1 (HX00.o w5 Hb5.o) rfl;go_upto_region 17 with fail
   go_loud (rw[<- HW6.o])
   clear q0 q1;have hj6:=(HJ.o W6 HU6.o).1;have hrs:=hj6.rs;rw[HRA.o] at hrs;have hnr16:nr<=16:=by have:=HG.o.nr;rw[j.nr,Hnr.o] at this;exact this
   have HSr:=hI (src_sl (w:=W6.alloc (.cells #[] 43)) (ad:=⟨rb,roff,none⟩) (by decide) lenR (hrs.below ((zX _ _).alloc (by omega) _)) Hnr.o.symm)
   have Hone:Hid (∀u∈j.res.flatMap encRes,u.oneCell'=true):=by
    intro u hu;obtain⟨x,_,hx⟩:=List.mem_flatMap.1 hu;simp only[encRes,List.mem_cons,List.not_mem_nil,or_false] at hx;rcases hx with rfl | rfl | rfl<;>rfl
   have HLi:=hI (World.ownsRow_lit (base:=W6.heap.size) (e:=43) (size:=3) W6 #[] 0 (zm _) (by unfold maxLen;omega) rfl);have hbk6:w5.heap.size<W6.heap.size:=by omega
   have q1:=kC 1 (HX00.o W6 HU6.o) rfl;have z1:(W6.alloc (.cells #[] 43)).cell? ⟨w.heap.size,1,none⟩=some (.slice (some ⟨rb,roff,none⟩) nr j.rc):=kC 1 ((zP _ _ _ (by omega)).trans (HX00.o W6 HU6.o)) rfl;have k1:=kC 1 HK6.o rfl;have f1:=kF 1 HK6.o;clear hj6 hrs
   go_upto_region 18 with(at_builtin;go_loud (refine wpList_appendL rfl _ _ 23 rfl W6.heap.size 43 _ 3 48 elemR (.slice (some ⟨W6.heap.size,0,none⟩) 0 0) 0 [] (by simp[Act.eval]) HLi.o (some ⟨rb,roff,none⟩) nr j.rc _ (by simp[Act.eval]) HSr.o Hone.o (by omega) (by simp) ?_);intro v7 w7 hown7 hb7 hsz7 hg7 hblk7;rw[Nat.zero_add,List.nil_append] at hown7;obtain⟨BA,bcap,rfl,hbc1,hbc2⟩:=own_cap' hown7;have hk7:=(((zX W6.heap.size W6).alloc (zm _) _).trans hb7).block w5.heap.size hbk6;have f7:=kF 1 (hk7.trans HK6.o);have g7:=kC 1 (hk7.trans HK6.o) rfl;have Hk7:=hI hk7;have Hown7:=hI hown7;have Hb7:=hI (((zX W6.heap.size W6).alloc (zm _) _).trans hb7);clear hown7 hb7 hsz7 hg7 hblk7 hk7)
   clear q1 k1 f1 z1 g7 f7 HLi HSr Hone;obtain⟨WA,hWA⟩:=eY (w7.setCell ⟨w5.heap.size,1,none⟩ (.slice BA nr bcap));have hsA:WA.heap.size=w7.heap.size:=by rw[hWA];simp[World.setCell]
   have hs67:=Hb7.o.size
   obtain⟨ga,hga,hga2⟩:∃ga,BA=some ⟨ga,0,none⟩/\W6.heap.size<=ga:=by
    rcases Hown7.o.2 with⟨_,h1⟩ | ⟨g,cap,cur,e0,e1,_⟩
    ·omega
    ·injection e0 with e2 _ _;exact⟨g,e2,e1⟩
   subst hga;have HRa:=hI (show WA.ownsRow W6.heap.size 43 3 (.slice (some ⟨ga,0,none⟩) nr bcap) nr (j.res.flatMap encRes) by rw[hWA];exact ownsRow_setCell_below Hown7.o (by omega) _);have HKa:=hI (show WA.heap[w5.heap.size]? =some (.cells #[.slice TA n j.tc,.slice (some ⟨ga,0,none⟩) nr bcap] 25 (0,0)) by rw[hWA,blk_set (Hk7.o.trans HK6.o)];rfl);have HBa:=hI (show Bl w5 WA by rw[hWA];exact(HB6.o.trans (Hb7.o.mono (by omega))).setCell (p:=⟨w5.heap.size,1,none⟩) (zm _) _);have HWA:=hI hWA;clear hWA
   go_loud (rw[<- HWA.o])
   have fa:=HRa.o.frozenAt (q*3+2);have hfl:(j.res.flatMap encRes).length=nr*3:=HRa.o.1;have hq3:q*3+2<nr*3:=by omega
   have ca:∃x,WA.cell? ⟨ga,q*3+2,none⟩=some x:=⟨(j.res.flatMap encRes)[q*3+2]'(by omega),by
    have h:=HRa.o.cellAt (q*3+2) hq3;rw[zB (by omega)] at h;exact h⟩
   obtain⟨xa,ca⟩:=ca;have hgw:ga<WA.heap.size:=(HRa.o.lt ga rfl).2;have k0:=kC 0 HKa.o rfl;have k1:=kC 1 HKa.o rfl;obtain⟨WJ,hWJ⟩:=eY (WA.setCell ⟨ga,q*3+2,none⟩ (.slice LA J.length lc));have hsJ:WJ.heap.size=WA.heap.size:=by rw[hWJ];simp[World.setCell]
   have hqr:q<j.res.length:=by have:=Hnr.o;omega
   have HRj:=hI (show WJ.ownsRow W6.heap.size 43 3 (.slice (some ⟨ga,0,none⟩) j.res.length bcap) j.res.length ((putJob j q (some ⟨ga,0,none⟩) bcap J LA lc).res.flatMap encRes) by
    have h:=(HRa.o.stored (q*3+2) (.slice LA J.length lc)).1;rw[encRs_set _ _ hqr] at h;rw[hWJ,Hnr.o];exact h)
   have HBj:=hI (show Bl w5 WJ by rw[hWJ];exact HBa.o.setCell (p:=⟨ga,q*3+2,none⟩) (by simp;omega) _);have HKj:=hI (show WJ.heap[w5.heap.size]? =some (.cells #[.slice TA n j.tc,.slice (some ⟨ga,0,none⟩) nr bcap] 25 (0,0)) by rw[hWJ,blk_set_ne (by omega)];exact HKa.o);have HUj:=hI (Hb5.o.trans (HBj.o.mono (by omega)));have HSJ:=hI (show Sl w5 w5.heap.size 2 encJSpan LA J from sl_own2 lenP (e:=50) (c:=lc) Ho5.o);have HOj:=hI (show JIn WJ WJ.heap.size (putJob j q (some ⟨ga,0,none⟩) bcap J LA lc) from putJob_in hqr (by omega) (HJ.o WJ HUj.o).1 ((HSJ.o.below HBj.o).mono (by omega)) hl1 hl2 HRj.o)
   have HOx:=hI (show ∀X:World,Bl WJ X->∀y z,JIn ((X.setCell ⟨w.heap.size+1,0,none⟩ y).setCell ⟨w.heap.size+1,1,none⟩ z) ((X.setCell ⟨w.heap.size+1,0,none⟩ y).setCell ⟨w.heap.size+1,1,none⟩ z).heap.size (putJob j q (some ⟨ga,0,none⟩) bcap J LA lc) from fun X hX y z=>by
    have hz:((X.setCell ⟨w.heap.size+1,0,none⟩ y).setCell ⟨w.heap.size+1,1,none⟩ z).heap.size=X.heap.size:=by simp[World.setCell]
    have hXs:=hX.size;have h1:=own_below Ho5.o (HBj.o.trans (hX.mono (by omega)));have h2:=ownsRow_setCell_below (a:=⟨w.heap.size+1,0,none⟩) h1 (by show w.heap.size+1<_;omega) y;have h3:=ownsRow_setCell_below (a:=⟨w.heap.size+1,1,none⟩) h2 (by show w.heap.size+1<_;omega) z;have k1:=own_below HRj.o hX;have k2:=ownsRow_setCell_below (a:=⟨w.heap.size+1,0,none⟩) k1 (by show w.heap.size+1<_;omega) y;have k3:=ownsRow_setCell_below (a:=⟨w.heap.size+1,1,none⟩) k2 (by show w.heap.size+1<_;omega) z;have hb:=(((HB0.o.trans (Hb5.o.mono (by omega))).trans (HBj.o.mono (by omega))).trans (hX.mono (by omega))).setCell (p:=⟨w.heap.size+1,0,none⟩) (by simp) y;exact putJob_in hqr (by rw[hz];omega) (HJ0.o _ (hb.setCell (p:=⟨w.heap.size+1,1,none⟩) (by simp) z)) (sl_own2 lenP (e:=50) (c:=lc) h3) hl1 hl2 k3)
   have HOp:=hI (show(putJob j q (some ⟨ga,0,none⟩) bcap J LA lc).p=failJob j.p q now until' by rw[<- HJv.o];exact putJob_p);have HOv:=hI (show jobV (putJob j q (some ⟨ga,0,none⟩) bcap J LA lc)= .agg #[.slice TA n j.tc,.slice (some ⟨ga,0,none⟩) nr bcap] by unfold jobV putJob Job.putOff;simp[Hn.o,Hnr.o,HTA.o]);have HWJ:=hI hWJ;clear hWJ hfl hq3;go_upto_region 19 with fail
   go_loud (rw[<- HWJ.o])
   clear k0 k1 fa ca HRa HKa HBa HWA Hk7 Hown7 Hb7 HK6 HU6 HW6 HB6 HRj HSJ
   have hstn:sn=n:=by
    have h1:=(HJ.o WJ HUj.o).2.len;have h2:=HJe.o.2.2;rw[j.nt,Hn.o] at h2;omega
   subst hstn;have Hst:=hI (show st.length=sn from(HJ.o WJ HUj.o).2.len.symm);have hsn1000:=(HJ.o WJ HUj.o).2.small
   have HSs:=hI (show Src (WJ.alloc (.cells #[] 3)) 1 SA sn (st.flatMap encInt1) from by
    have h:=(HJ.o WJ HUj.o).2.sl;cases SA with
    | none=>
     have h1:=(Hz.o rfl).1;have h2:st=[]:=List.length_eq_zero_iff.1 (by rw[Hst.o];exact h1);exact .inl ⟨rfl,h1,by rw[h2];rfl⟩
    | some ad=>exact src_I (h.below ((zX _ _).alloc (by omega) _)) Hst.o.symm)
   have Hone9:Hid (∀u∈st.flatMap encInt1,u.oneCell'=true):=by
    intro u hu;obtain⟨x,_,hx⟩:=List.mem_flatMap.1 hu;simp only[encInt1,List.mem_cons,List.not_mem_nil,or_false] at hx;rcases hx with rfl;rfl
   have HLi9:=hI (World.ownsRow_lit (base:=WJ.heap.size) (e:=3) (size:=1) WJ #[] 0 (zm _) (by unfold maxLen;omega) rfl);go_upto_region 20 with(at_builtin;go_loud (refine wpList_appendL rfl _ _ 26 rfl WJ.heap.size 3 _ 1 8 elemI (.slice (some ⟨WJ.heap.size,0,none⟩) 0 0) 0 [] (by simp[Act.eval]) HLi9.o SA sn sc _ (by simp[Act.eval]) HSs.o Hone9.o (by omega) (by simp) ?_);intro v9 w9 hown9 hb9 hsz9 hg9 hblk9;rw[Nat.zero_add,List.nil_append] at hown9;obtain⟨sb,sc9,tl,rfl,hsb,hcs⟩:=own_tail hown9 (by rcases hblk9 with h | ⟨k,h,_⟩<;>exact⟨_,h⟩);have Hcs:=hI hcs;have Hb9:=hI (((zX WJ.heap.size WJ).alloc (zm _) _).trans hb9);clear hown9 hb9 hsz9 hg9 hblk9 hcs)
   clear HSs Hone9 HLi9;have hs9:=Hb9.o.size;have hsb9:=blk_lt Hcs.o;have HU9:=hI (HUj.o.trans (Hb9.o.mono (by omega)));obtain⟨i2,hi2,hi2a,hi2b,hi2c⟩:=info_parts (show(Tryz.prog.info? 4).map (fun i=>(i.zero,i.size,i.bytes))=some (some (.bool false),1,1) by kernel_rfl);go_upto_region 21 with(at_make;go_loud (refine wpList_make_full _ rfl _ _ 113 rfl w9.heap.size 4 _ (.bool false) 1 Tryz.underlying113 hi2 hi2a hi2b .i64 .i64 _ _ sn rfl rfl (by simp) (by simp) (by rw[hi2c];omega) (by unfold maxLen;omega) (zm _) ?_);intro wB hownB hgB;have HbB:=hI ((zX w9.heap.size w9).grown hgB (zm _) (fun k hk=>by cases hk));have HnB:=hI (made_blk (zm _) hownB);clear hownB hgB)
   have hsB:=HbB.o.size;obtain⟨pb,hpb⟩:=eX w9.heap.size
   have HRB0:=hI (show RB2 wB sb pb sn tl ⟨st,plI j.p st now q sn 0⟩ from⟨(HbB.o.block _ hsb9).trans Hcs.o,by
    have h:=HnB.o.2;rw[hpb] at h;rw[plI_zero,List.map_replicate];exact h,Hst.o,plI_len ..⟩)
   have hne9:sb≠pb:=by omega
   have hpB:pb<wB.heap.size:=blk_lt HRB0.o.pl
   have HX9:=hI (show ∀X:World,Kept2 wB X pb pb->Below pb w9 X from fun X hX=>by
    have h:=hX.below (B:=pb) (zm _) (zm _) (Nat.le_of_lt hpB);have h2:=HbB.o;rw[hpb] at h2;exact h2.trans h)
   have HU9x:=hI (show ∀X:World,Kept2 wB X pb pb->Bl W0 X from fun X hX=>HU9.o.trans ((HX9.o X hX).mono (by have:=HU9.o.size;omega)));have HTm:=hI (show ∀i,0<=st.getD i 0/\st.getD i 0<=100000 from keepsV_time HJe.o.2.2 HJe.o.2.1);have HK0:=hI (Kept2.refl wB pb pb);have hpbU:W0.heap.size<=pb:=by have:=HU9.o.size;omega
   have hpb9:w9.heap.size<=pb:=by omega
   rw[hpb];clear HnB hpb;go_wp2;go_loopw [20,21] (fun v20 v21 wr=>∃i:Nat,i<=sn/\v21= .int .i64 i/\Hid (wr.ownsRow wB.heap.size 3 1 v20 i ((rOrd st i).flatMap encInt1))/\Hid (RB2 wr sb pb sn tl ⟨st,plI j.p st now q sn i⟩)/\Hid (Kept2 wB wr pb pb)) (fun _ v21 _=>sn-(intOf v21).toNat);case atStart=>exact⟨0,by omega,rfl,hI (zU _ _ _ _),HRB0,HK0⟩
   case round=>
    obtain⟨i,hi,rfl,Ho,HR,HK⟩:=hrel;clear HRB0 HK0;have hsr:=HK.o.size;have HUr:=hI (HU9x.o wr HK.o);obtain⟨A20,c20,rfl,q20,q21⟩:=own_cap' Ho.o
    by_cases hlt:i<sn
    ·have hin:i<j.tasks.length:=by have:=Hn.o;omega
     have hjn:=(HJ.o wr HUr.o).1;obtain⟨tb,toff,hTb,htb⟩:=hjn.ta (by omega);obtain rfl:TA=some ⟨tb,toff,none⟩:=HTA.o.symm.trans hTb;obtain⟨c0,c1,c2,c3⟩:=hjn.tcells hTb hin;have HTk:=hI (show ∀X:World,Bl W0 X->TkIn X B (j.T i) from fun X hX=>(HJ.o X hX).1.tks _ (j.T_mem hin));have htkb:=HG.o.takes _ (j.Tp_mem hin);obtain⟨ab,aoff,hAe,hab,hac⟩:=(HJ.o wr HUr.o).2.sl (by rw[Hst.o];omega);subst hAe
     have HSc:=hI (show ∀X:World,Bl W0 X->∀k,k<sn->X.cell? ⟨ab,aoff+k,none⟩=some (.int .i64 (st.getD k 0)) from fun X hX k hk=>by
      obtain⟨ab',aoff',h1,_,h2⟩:=(HJ.o X hX).2.sl (by rw[Hst.o];omega);simp only[Option.some.injEq,Addr.mk.injEq,and_true] at h1;have h3:=h2 k (by rw[Hst.o];exact hk) 0 _ rfl;rw[Nat.mul_one,Nat.add_zero,<-h1.1,<-h1.2] at h3;rw[h3,zA,zB (by rw[Hst.o];exact hk)]
      rfl)
     clear hac
     have HKp:=hI (show keptB j.p st now q i=(decide (st.getD i 0<now)&& !(decide (usesV q (j.T i).p.uses>0)&&decide (st.getD i 0+(j.T i).p.takes>now))) by
      have h:=uses_pos HG.o (i:=i) (by rw[j.nt];exact hin) (q:Int);unfold keptB;rw[<- h,j.pT])
     have HUs:=hI (fun(e:Later wr)=>show Calls Tryz.prog 79 #[.agg #[.string (j.T i).p.name,.int .i64 (j.T i).p.takes,.slice (j.T i).NA (j.T i).p.needs.length (j.T i).nc,.slice (j.T i).UA (j.T i).p.uses.length (j.T i).uc],.int .i64 q] e.w fun r w'=>r= .returned (.int .i64 (usesV q (j.T i).p.uses))/\Below e.w.heap.size e.w w' from refUses_any (j.T i) q B e.w (HTk.o e.w (HUr.o.trans (e.b.mono (by have:=HUr.o.size;omega)))) (by have:=e.b.size;have:=HUr.o.size;omega));have hsb0:=HTm.o i;have s0:=HSc.o wr HUr.o i hlt;have q0:=kC 0 (HX00.o wr HUr.o) rfl;obtain⟨sv,hsv⟩:=eX (st.getD i 0);rw[hsv] at s0 hsb0 HKp;have Hsv:=hI hsv;clear hjn hTb hin hsv;generalize j.T i=t at c0 c1 c2 c3 htkb HKp HUs;obtain⟨uv,huv⟩:=eX (usesV q t.p.uses);obtain⟨tk,htk⟩:=eX t.p.takes;obtain⟨nm,hnm⟩:=eX t.p.name;obtain⟨NA,hNA⟩:=eX t.NA;obtain⟨UA,hUA⟩:=eX t.UA;obtain⟨nn,hnn⟩:=eX t.p.needs.length;obtain⟨nu,hnu⟩:=eX t.p.uses.length
     obtain⟨nc,hnc⟩:=eX t.nc;obtain⟨uc,huc⟩:=eX t.uc;rw[huv,htk,hnm,hNA,hUA,hnn,hnu,hnc,huc] at HUs;rw[huv,htk] at HKp;rw[htk] at c1 htkb;rw[hnm] at c0;rw[hNA,hnn,hnc] at c2;rw[hUA,hnu,huc] at c3;clear huv htk hnm hNA hUA hnn hnu hnc huc HTk;go_upto_region 25 with fail;have hWr:=HUr.o.size;have y0:=zV q0 (by omega);have z0:=zV c0 (by omega);have z1:=zV c1 (by omega);have z2:=zV c2 (by omega);have z3:=zV c3 (by omega);have z4:=zV s0 (by omega);clear q0 c0 c1 c2 c3;have Htkb:=hI htkb
     go_cut [22] (fun v22 wx=>v22= .bool (decide (uv>0)&&decide (sv+tk>now))/\Hid (Bl wr wx))
     case first=>
      cases hu:decide (uv>0)
      ·
       refine wp_region_later (by kernel_rfl) (by kernel_rfl) ?_
       repeat (any_goals (first | go_big_quiet_step ((go_at_call 79;exact later_call _ (HUs.o _))) | quiet_step ((go_at_call 79;exact later_call _ (HUs.o _)))))
       refine wpQuiet_nil ?_;rintro w' ⟨e5,rfl⟩;go_wp2;go_meet;exact⟨by rw[hu];rfl,hI e5.b⟩
      ·
       refine wp_region_later (by kernel_rfl) (by kernel_rfl) ?_
       repeat (any_goals (first | go_big_quiet_step ((go_at_call 79;exact later_call _ (HUs.o _))) | quiet_step ((go_at_call 79;exact later_call _ (HUs.o _)))))
       refine wpQuiet_nil ?_;rintro w' ⟨e5,rfl⟩;go_wp2;go_meet;exact⟨by rw[hu];rfl,hI e5.b⟩
     obtain⟨rfl,Hbc⟩:=hcut;clear y0 z0 z1 z2 z3 z4 HUs;obtain⟨fv,hfv⟩:=eX (decide (uv>0)&&decide (sv+tk>now));rw[hfv] at HKp ⊢;clear hfv;have hsc:=Hbc.o.size;have HKc:=hI (show Kept2 wB wc pb pb from HK.o.trans (Kept2.of_below Hbc.o));have HUc:=hI (HU9x.o wc HKc.o);have s0:=HSc.o wc HUc.o i hlt;rw[Hsv.o] at s0;have hRc:=HR.o.below Hbc.o;have hg1:=hRc.pl;have f1:=W7.bf (j:=i) hg1;have x1:wc.cell? ⟨pb,i,none⟩=some (.bool ((plI j.p st now q sn i).getD i false)):=bc hg1 (map_getD (by rw[plI_len];exact hlt));have HOc:=hI (own_below Ho.o Hbc.o);have HRn:=hI (show RB2 (wc.setCell ⟨pb,i,none⟩ (.bool (keptB j.p st now q i))) sb pb sn tl ⟨st,plI j.p st now q sn (i+1)⟩ from⟨by rw[blk_set_ne (Ne.symm hne9)];exact hRc.st,by rw[blk_set hg1,<-plI_set];simp[List.map_set],hRc.ns,plI_len ..⟩)
     have HKn:=hI (show Kept2 wB (wc.setCell ⟨pb,i,none⟩ (.bool (keptB j.p st now q i))) pb pb from HKc.o.trans (Kept2.setL wc pb pb i _));have HOn:=hI (show(wc.setCell ⟨pb,i,none⟩ (.bool (keptB j.p st now q i))).ownsRow wB.heap.size 3 1 (.slice A20 i c20) i ((rOrd st i).flatMap encInt1) from ownsRow_setCell_below HOc.o hpB _);clear hRc hg1;obtain⟨WN,hWN⟩:=eY (wc.setCell ⟨pb,i,none⟩ (.bool (keptB j.p st now q i)));rw[<- hWN] at HRn HKn HOn;have HWN:=hI hWN;clear hWN;go_upto_region 26 with fail
     go_cut [21] (fun v21 wx=>v21= .int .i64 (i:Int)/\wx=WN)
     case first=>
      cases hd:decide (sv<now)
      ·have hk:keptB j.p st now q i=false:=by rw[HKp.o,hd];rfl
       go_wp2;go_meet;exact⟨rfl,by rw[HWN.o,hk]⟩
      ·have hk:keptB j.p st now q i= !fv:=by rw[HKp.o,hd];rfl
       go_wp2;go_meet;exact⟨rfl,by rw[HWN.o,hk]⟩
     obtain⟨rfl,hwn⟩:=hcut;have hwn':=hwn.symm;subst hwn';clear x1 f1 s0 HKp HWN;have hsn:=HKn.o.size;have HUn:=hI (HU9x.o WN HKn.o);obtain⟨L,hL⟩:=eX (rOrd st i);have HLl:=hI (show L.length=i by rw[<- hL];exact rOrd_len st i);have HLm:=hI (show ∀x∈L,0<=x/\x<i from fun x hx=>rOrd_mem (st:=st) (by rw[hL];exact hx))
     have HLs:=hI (show rOrd st (i+1)=L.take (posB st L sv i)++[(i:Int)]++L.drop (posB st L sv i) by
      rw[rOrd_succ,hL];unfold insR;rw[zZ,Hsv.o,HLl.o])
     rw[hL] at HOn;have HLr:=hI hL;clear hL;have Hbn:=hI (zX WN.heap.size WN);go_wp2;go_loopw [23] (fun v23 wq=>∃a:Nat,a<=i/\v23= .int .i64 a/\Hid (posB st L sv i=posB st L sv a)/\Hid (Bl WN wq)) (fun v23 _=>(intOf v23).toNat);case atStart=>exact⟨i,zm _,rfl,hI rfl,Hbn⟩
     case round=>
      obtain⟨a,ha,rfl,HP,Hbq⟩:=hrel;clear Hbn;have hsq:=Hbq.o.size;have HUq:=hI (HUn.o.trans (Hbq.o.mono (by have:=HUn.o.size;omega)));obtain⟨K,hK⟩:∃K:Bool,K=(decide (0<a)&&decide (sv<st.getD (L.getD (a-1) 0).toNat 0)):=⟨_,rfl⟩
      have HKd:=hI hK;clear hK;go_upto_region 28 with fail
      go_cut [170] (fun v170 wx=>v170= .bool K/\Hid (Bl WN wx))
      case first=>
       by_cases ha0:a=0
       ·subst ha0;have hK0:K=false:=by rw[HKd.o];rfl
        subst hK0;have hz0:decide (((0:Nat):Int)>0)=false:=rfl;refine wp_region_later (by kernel_rfl) (by kernel_rfl) ?_
        repeat (any_goals (first | go_big_quiet_step ((fail)) | quiet_step ((fail))))
        refine wpQuiet_nil ?_;rintro w' ⟨e5,rfl⟩;go_wp2;go_meet;exact⟨rfl,hI (Hbq.o.trans (e5.b.mono hsq))⟩
       ·have hp0:decide ((a:Int)>0)=true:=zD (by omega);have HOq:=hI (own_below HOn.o (Hbq.o));have hWq:=HUq.o.size;have hp1:decide (0<(a:Int))=true:=zD (by omega);have hp2:decide (0<a)=true:=zD (by omega);have hp3:0<a:=by omega
        obtain⟨og,hog,hogW⟩:∃og,A20=some ⟨og,0,none⟩/\og<wr.heap.size:=by
         rcases HOq.o.2 with⟨_,h1⟩ | ⟨g,cap,cur,e0,e1,e3,_⟩
         ·omega
         ·injection e0 with e2 _ _;exact⟨g,e2,blk_lt e3⟩
        subst hog
        have o0:wr.cell? ⟨og,a-1,none⟩=some (.int .i64 (L.getD (a-1) 0)):=by
         have h:=HOq.o.cellAt (a-1) (by omega);rw[h,flat_int,List.getElem?_map,zA,zB (by have:=HLl.o;omega)]
         rfl
        have hxm:=HLm.o (L.getD (a-1) 0) (by rw[zA,zB (by have:=HLl.o;omega)];exact zC _);obtain⟨xk,hxk⟩:∃xk:Nat,L.getD (a-1) 0=xk:=⟨(L.getD (a-1) 0).toNat,by omega⟩
        have HKe:=hI (show K=decide (sv<st.getD xk 0) by rw[HKd.o,zD (by omega),hxk,zZ];rfl);rw[hxk] at o0 hxm;have o1:=HSc.o wr HUq.o xk (by omega);have o2:=HSc.o wr HUq.o i hlt;rw[Hsv.o] at o2;have hob:=HTm.o xk;have w1':IntKind.i64.wrap ((a:Int)-1)=((a-1:Nat):Int):=by rw[IntWalk.i64_in _ (by omega)];omega
        have w2':((a:Int)-1).toNat=a-1:=by omega
        clear hxk HOq;generalize st.getD xk 0=ov at o1 hob HKe;have y0:=zV o0 (by omega);have y1:=zV o1 (by omega);have y2:=zV o2 (by omega);clear o0 o1 o2;refine wp_region_later (by kernel_rfl) (by kernel_rfl) ?_
        repeat (any_goals (first | go_big_quiet_step ((fail)) | quiet_step ((fail))))
        refine wpQuiet_nil ?_;rintro w' ⟨e5,rfl⟩;go_wp2;go_meet;exact⟨by rw[HKe.o],hI (Hbq.o.trans (e5.b.mono hsq))⟩
      obtain⟨rfl,Hbx⟩:=hcut;clear Hbq;cases hKK:K
      ·have HPa:=hI (show posB st L sv i=a from HP.o.trans (posB_stop (by rw[<- HKd.o];exact hKK)));clear HP HKd;have HOx:=hI (own_below HOn.o Hbx.o);obtain⟨A2,hA2⟩:=eY (if c20=a then A20 else A20.map (·.add (a*1)))
       have HS1:=hI (show ∀X:World,Bl wc X->Src X 1 A20 a ((L.take a).flatMap encInt1) from fun X hX=>by
        have h:=src_cut (l:=0) (h:=a) (src_own1 (own_below HOx.o hX)) (Nat.zero_le _) ha q20;rw[show(if c20=0 then A20 else A20.map (·.add (0*1)))=A20 from by split;rfl;cases A20<;>simp[Addr.add],Nat.sub_zero,List.drop_zero,flat_int,<-List.map_take,<-flat_int] at h;exact h)
       have HS2:=hI (show ∀X:World,Bl wc X->Src X 1 A2 (i-a) ((L.drop a).flatMap encInt1) from fun X hX=>by
        have h:=src_cut (l:=a) (h:=i) (src_own1 (own_below HOx.o hX)) ha (zm _) q20;rw[<- hA2,flat_int,<-List.map_take,zG (by have:=HLl.o;omega),<-List.map_drop,<-flat_int] at h;exact h)
       have Hone:=hI (show ∀M:List Int,∀u∈M.flatMap encInt1,u.oneCell'=true from fun M u hu=>by
        obtain⟨x,_,hx⟩:=List.mem_flatMap.1 hu;simp only[encInt1,List.mem_cons,List.not_mem_nil,or_false] at hx;rcases hx with rfl;rfl)
       have HA2:=hI hA2;have hsx:=Hbx.o.size;have z1:(0:Int)<=(a:Int):=by omega
       have z2:(a:Int)<=(c20:Int):=by omega
       have z3:(a:Int)<=(i:Int):=by omega
       have z4:a<=c20:=by omega
       clear hA2;go_upto_region 30 with fail
       obtain⟨C,hC⟩:∃C:(Nat->Bool)->(Nat->Value)->World->Prop,C=fun L9 V w'=>∃e:Later wc,w'=e.w
        /\ (L9 12=true->L9 11=true)/\(L9 11=true->L9 7=true/\L9 10=true)/\(L9 7=true->L9 4=true/\L9 6=true)/\(L9 4=true->L9 3=true/\L9 0=true)/\(L9 3=true->L9 1=true)/\(L9 10=true->L9 8=true)
        /\ (L9 12=false->V 12= .slice A20 i c20)/\(L9 12=true->V 12=V 11)
        /\ (L9 0=true->L9 4=false->Hid (∃g,V 0= .slice (some ⟨g,0,none⟩) 0 0/\e.w.ownsRow wc.heap.size 3 1 (V 0) 0 []))
        /\ (L9 1=true->V 1= .slice A20 i c20)/\(L9 2=true->V 2= .int .i64 (a:Int))/\(L9 3=true->V 3= .slice A20 a c20)
        /\ (L9 4=true->L9 7=false->Hid (e.w.ownsRow wc.heap.size 3 1 (V 4) a ((L.take a).flatMap encInt1)))
        /\ (L9 5=true->V 5= .int .i64 (i:Int))
        /\ (L9 6=true->L9 7=false->Hid (∃gb,V 6= .slice (some ⟨gb,0,none⟩) 1 1/\e.w.heap[gb]? =some (.cells #[.int .i64 (i:Int)] 3 (0,0))))
        /\ (L9 7=true->L9 11=false->Hid (e.w.ownsRow wc.heap.size 3 1 (V 7) (a+1) ((L.take a).flatMap encInt1++[.int .i64 (i:Int)])))
        /\ (L9 8=true->V 8= .slice A20 i c20)/\(L9 9=true->V 9= .int .i64 (a:Int))/\(L9 10=true->V 10= .slice A2 (i-a) (c20-a))
        /\ (L9 11=true->Hid (e.w.ownsRow wc.heap.size 3 1 (V 11) (a+1+(i-a)) ((L.take a).flatMap encInt1++[.int .i64 (i:Int)]++(L.drop a).flatMap encInt1))):=⟨_,rfl⟩
       have HC:=hI hC;clear hC;refine wp_region_opsA [173,174,175,176,177,178,179,180,181,182,183,184,20] C (by kernel_rfl) (by kernel_rfl) (by decide) (by kernel_rfl) (by kernel_rfl) ?_ ?_ ?_
       ·rw[HC.o];exact⟨⟨_,(zX wc.heap.size wc).drew⟩,rfl,nff,nff,nff,nff,nff,nff,fun _=>rfl,nff,nff,nff,nff,nff,nff,nff,nff,nff,nff,nff,nff,nff⟩
       ·rintro L9 V w' ii o AA hii ho hLi haf hInv hAA hFF;rw[HC.o] at hInv;obtain⟨e,rfl,p12,p11,p7,p4,p3,p10,f12,h12,h0,h1,h2,h3,h4,h5,h6,h7,h8,h9,h10,h11⟩:=hInv;have hse:wc.heap.size<=e.w.heap.size:=e.b.size;rcases ii with _ | _ | _ | _ | _ | _ | _ | _ | _ | _ | _ | _ | _ | ii;case succ.succ.succ.succ.succ.succ.succ.succ.succ.succ.succ.succ.succ=>(simp at hii;try omega)
        all_goals (simp only[zR,zS,Option.some.injEq] at ho;subst ho)
        all_goals clear hii
        ·go_wp2;rw[HC.o];exact⟨_,rfl,⟨_,e.b.alloc hse (.cells #[] 3)⟩,rfl,p12,p11,p7,fun z=>⟨(p4 z).1,rfl⟩,p3,p10,f12,h12,fun _ _=>hI ⟨_,rfl,World.ownsRow_lit (base:=wc.heap.size) (e:=3) (size:=1) e.w #[] 0 hse (by unfold maxLen;omega) rfl⟩,h1,h2,h3,fun y y2=>hI ((h4 y y2).out.alloc _),h5,fun y y2=>(by obtain⟨gb,g1,g2⟩:=(h6 y y2).out;exact hI ⟨gb,g1,(zP _ _ _ (blk_lt g2)).trans g2⟩),fun y y2=>hI ((h7 y y2).out.alloc _),h8,h9,h10,fun y=>hI ((h11 y).out.alloc _)⟩
        ·have hL12:L9 12=false:=by
          cases h:L9 12
          ·rfl
          ·rw[p3 (p4 (p7 (p11 (p12 h)).1).1).1] at hLi;cases hLi
         have f20:=(hAA.out 12 20 rfl).trans (f12 hL12);go_wp2;rw[HC.o];exact⟨_,rfl,e,rfl,p12,p11,p7,p4,fun _=>rfl,p10,f12,h12,h0,fun _=>rfl,h2,h3,h4,h5,h6,h7,h8,h9,h10,h11⟩
        ·have f23:AA.tmps[23]?.getD undef= .int .i64 (a:Int):=hFF.out 23 (by decide);go_wp2;rw[HC.o];exact⟨_,rfl,e,rfl,p12,p11,p7,p4,p3,p10,f12,h12,h0,h1,fun _=>rfl,h3,h4,h5,h6,h7,h8,h9,h10,h11⟩
        ·have hL1:=haf ⟨1,.data⟩ (by simp) rfl;have a1:=(hAA.out 1 174 rfl).trans (h1 hL1);have a2:=(hAA.out 2 175 rfl).trans (h2 (haf ⟨2,.data⟩ (by simp) rfl));have HL1:=hI hL1;clear hL1;go_wp2;rw[HC.o];exact⟨_,rfl,e,rfl,p12,p11,p7,fun z=>⟨rfl,(p4 z).2⟩,fun _=>HL1.o,p10,f12,h12,h0,h1,h2,fun _=>rfl,h4,h5,h6,h7,h8,h9,h10,h11⟩
        ·have hL0:=haf ⟨0,.data⟩ (by simp) rfl;have hL3:=haf ⟨3,.data⟩ (by simp) rfl;obtain⟨g,hv0,ho0⟩:=(h0 hL0 hLi).out;have a0:=hAA.out 0 173 rfl;have a3:=(hAA.out 3 176 rfl).trans (h3 hL3);have HS:=hI (HS1.o e.w e.b);have HLL:=hI (And.intro hL3 hL0);have Hp4:=hI (show L9 7=true->False from fun y=>by rw[(p7 y).1] at hLi;cases hLi)
         have HK4:=hI (fun(X:World) (hX:e.w.grownBy X (V 0).ownBlock) (y:L9 6=true) (y2:L9 7=false)=>show Hid (∃gb,V 6= .slice (some ⟨gb,0,none⟩) 1 1/\X.heap[gb]? =some (.cells #[.int .i64 (i:Int)] 3 (0,0))) from by
          obtain⟨gb,g1,g2⟩:=(h6 y y2).out;rw[hv0] at ho0 hX;exact hI ⟨gb,g1,(hX.block gb (blk_lt g2) (own_room0 ho0 g2 (by simp))).trans g2⟩)
         clear hv0 hL0 hL3;refine wpList_appendL rfl _ _ 26 rfl wc.heap.size 3 _ 1 8 elemI _ _ _ (by rw[<- a0];simp[Act.eval]) ho0 _ a _ _ (by rw[<- a3];simp[Act.eval]) HS.o (Hone.o _) (by omega) hse ?_;intro v6 w6 hown6 hb6 hsz6 hg6 hblk6;have HF6:=hI (And.intro (show w6.ownsRow wc.heap.size 3 1 v6 a ((L.take a).flatMap encInt1) by simpa using hown6) (And.intro hb6 hg6));clear hown6 hb6 hsz6 hg6 hblk6 ho0;go_wp2;rw[HC.o];exact⟨_,rfl,⟨_,e.b.trans HF6.o.2.1⟩,rfl,p12,p11,fun z=>⟨rfl,(p7 z).2⟩,fun _=>HLL.o,p3,p10,f12,h12,fun _ y=>absurd y (by simp),h1,h2,h3,fun _ _=>hI HF6.o.1,h5,fun y y2=>HK4.o _ HF6.o.2.2 y y2,fun y=>(Hp4.o y).elim,h8,h9,h10,fun y=>(Hp4.o (p11 y).1).elim⟩
        ·have f21:AA.tmps[21]?.getD undef= .int .i64 (i:Int):=hFF.out 21 (by decide);go_wp2;rw[HC.o];exact⟨_,rfl,e,rfl,p12,p11,p7,p4,p3,p10,f12,h12,h0,h1,h2,h3,h4,fun _=>rfl,h6,h7,h8,h9,h10,h11⟩
        ·have a5:=(hAA.out 5 178 rfl).trans (h5 (haf ⟨5,.data⟩ (by simp) rfl));go_wp2;rw[HC.o];exact⟨_,rfl,⟨_,e.b.alloc hse (.cells (#[.int .i64 (i:Int)]:Array Value) 3)⟩,rfl,p12,p11,fun z=>⟨(p7 z).1,rfl⟩,p4,p3,p10,f12,h12,fun y y2=>(by obtain⟨g,g1,g2⟩:=(h0 y y2).out;exact hI ⟨g,g1,g2.alloc _⟩),h1,h2,h3,fun y y2=>hI ((h4 y y2).out.alloc _),h5,fun _ _=>hI ⟨_,rfl,zW _ _⟩,fun y y2=>hI ((h7 y y2).out.alloc _),h8,h9,h10,fun y=>hI ((h11 y).out.alloc _)⟩
        ·have hL4:=haf ⟨4,.data⟩ (by simp) rfl;have hL6:=haf ⟨6,.data⟩ (by simp) rfl;have ho4:=(h4 hL4 hLi).out;obtain⟨gb,hgb,hnb⟩:=(h6 hL6 hLi).out;have a4:=hAA.out 4 177 rfl;have a6:=(hAA.out 6 179 rfl).trans hgb;have HS:=hI (blk_src1 hnb);have HLL:=hI (And.intro hL4 hL6);have Hx:=hI (show L9 4=false->False from fun y=>by rw[y] at hL4;cases hL4);have Hp7:=hI (show L9 11=true->False from fun y=>by rw[(p11 y).1] at hLi;cases hLi);clear hgb hL4 hL6;refine wpList_appendL rfl _ _ 26 rfl wc.heap.size 3 _ 1 8 elemI _ _ _ (by rw[<- a4];simp[Act.eval]) ho4 _ 1 _ _ (by rw[<- a6];simp[Act.eval]) HS.o (by simp[Value.oneCell']) (by omega) hse ?_;intro v6 w6 hown6 hb6 hsz6 hg6 hblk6;have HF6:=hI (And.intro hown6 hb6);clear hown6 hb6 hsz6 hg6 hblk6 ho4;go_wp2;rw[HC.o]
         exact⟨_,rfl,⟨_,e.b.trans HF6.o.2⟩,rfl,p12,fun z=>⟨rfl,(p11 z).2⟩,fun _=>HLL.o,p4,p3,p10,f12,h12,fun _ y=>(Hx.o y).elim,h1,h2,h3,fun _ y=>absurd y (by simp),h5,fun _ y=>absurd y (by simp),fun _ _=>hI HF6.o.1,h8,h9,h10,fun y=>(Hp7.o y).elim⟩
        ·have hL12:L9 12=false:=by
          cases h:L9 12
          ·rfl
          ·rw[p10 (p11 (p12 h)).2] at hLi;cases hLi
         have f20:=(hAA.out 12 20 rfl).trans (f12 hL12);go_wp2;rw[HC.o];exact⟨_,rfl,e,rfl,p12,p11,p7,p4,p3,fun _=>rfl,f12,h12,h0,h1,h2,h3,h4,h5,h6,h7,fun _=>rfl,h9,h10,h11⟩
        ·have f23:AA.tmps[23]?.getD undef= .int .i64 (a:Int):=hFF.out 23 (by decide);go_wp2;rw[HC.o];exact⟨_,rfl,e,rfl,p12,p11,p7,p4,p3,p10,f12,h12,h0,h1,h2,h3,h4,h5,h6,h7,h8,fun _=>rfl,h10,h11⟩
        ·have hL8:=haf ⟨8,.data⟩ (by simp) rfl;have a8:=(hAA.out 8 181 rfl).trans (h8 hL8);have a9:=(hAA.out 9 182 rfl).trans (h9 (haf ⟨9,.data⟩ (by simp) rfl));have HL8:=hI hL8;clear hL8;go_wp2
         all_goals
          rw[HC.o];exact⟨_,rfl,e,rfl,p12,fun z=>⟨(p11 z).1,rfl⟩,p7,p4,p3,fun _=>HL8.o,f12,h12,h0,h1,h2,h3,h4,h5,h6,h7,h8,h9,fun _=>(by first | exact(cutV HA2.o).1 ‹_› | exact(cutV HA2.o).2 ‹_›),h11⟩
        ·have hL7:=haf ⟨7,.data⟩ (by simp) rfl;have hL10:=haf ⟨10,.data⟩ (by simp) rfl;have ho7:=(h7 hL7 hLi).out;have a7:=hAA.out 7 180 rfl;have a10:=(hAA.out 10 183 rfl).trans (h10 hL10);have HS:=hI (HS2.o e.w e.b);have HLL:=hI (And.intro hL7 hL10);have Hx:=hI (show L9 4=false->False from fun y=>by rw[(p7 hL7).1] at y;cases y);have Hy:=hI (show L9 7=false->False from fun y=>by rw[hL7] at y;cases y);have Hp12:=hI (show L9 12=true->False from fun y=>by rw[p12 y] at hLi;cases hLi);clear hL7 hL10;refine wpList_appendL rfl _ _ 26 rfl wc.heap.size 3 _ 1 8 elemI _ _ _ (by rw[<- a7];simp[Act.eval]) ho7 _ (i-a) _ _ (by rw[<- a10];simp[Act.eval]) HS.o (Hone.o _) (by omega) hse ?_;intro v6 w6 hown6 hb6 hsz6 hg6 hblk6;have HF6:=hI (And.intro hown6 hb6);clear hown6 hb6 hsz6 hg6 hblk6 ho7;go_wp2;rw[HC.o]
         exact⟨_,rfl,⟨_,e.b.trans HF6.o.2⟩,rfl,fun _=>rfl,fun _=>HLL.o,p7,p4,p3,p10,f12,fun y=>(Hp12.o y).elim,fun _ y=>(Hx.o y).elim,h1,h2,h3,fun _ y=>(Hy.o y).elim,h5,fun _ y=>(Hy.o y).elim,fun _ y=>absurd y (by simp),h8,h9,h10,fun _=>hI HF6.o.1⟩
        ·have a11:=hAA.out 11 184 rfl;have HL11:=hI (haf ⟨11,.data⟩ (by simp) rfl);go_wp2;rw[HC.o];exact⟨_,rfl,e,rfl,fun _=>HL11.o,p11,p7,p4,p3,p10,fun y=>absurd y (by simp),fun _=>rfl,h0,h1,h2,h3,h4,h5,h6,h7,h8,h9,h10,h11⟩
       ·rintro L9 V w' hL hInv;rw[HC.o] at hInv;obtain⟨e,rfl,p12,p11,p7,p4,p3,p10,f12,h12,h0,h1,h2,h3,h4,h5,h6,h7,h8,h9,h10,h11⟩:=hInv;have ho4:=(h11 (hL 11 (by simp))).out;have h65:=h12 (hL 12 (by simp));obtain⟨A9,c9,hv4,hc21,hc22⟩:=own_cap' ho4;simp only[putAll];rw[h65,hv4];rw[hv4] at ho4;go_frame;have he8:=e.b;clear p12 p11 p7 p4 p3 p10 f12 h12 h0 h1 h2 h3 h4 h5 h6 h7 h8 h9 h10 h11 h65 hv4 hL;have HE8:=hI (Hbx.o.trans (he8.mono hsx))
        have HO9:=hI (show e.w.ownsRow wB.heap.size 3 1 (.slice A9 (a+1+(i-a)) c9) (i+1) ((rOrd st (i+1)).flatMap encInt1) from by
         have h:=own_mono ho4 (show wB.heap.size<=wc.heap.size by omega);rw[HLs.o,HPa.o,List.flatMap_append,List.flatMap_append,List.flatMap_cons,List.flatMap_nil,List.append_nil];rw[show a+1+(i-a)=i+1 by omega] at h ⊢;exact h)
        rw[show a+1+(i-a)=i+1 by omega] at HO9 ⊢;clear ho4 he8;generalize e.w=we at HE8 HO9 ⊢;have hse9:=HE8.o.size;have HKe:=hI (show Kept2 wB we pb pb from HKn.o.trans (Kept2.of_below HE8.o));have HRe:=hI (HRn.o.below HE8.o);go_wp2;refine⟨⟨i+1,by omega,by go_num,HO9,HRe,HKe⟩,?_⟩;simp[intOf];omega
      ·have HPa:=hI (show 0<a/\posB st L sv i=posB st L sv (a-1) from posB_go HP.o (by rw[<- HKd.o];exact hKK));clear HP HKd;have hap:=HPa.o.1;have w1':IntKind.i64.wrap ((a:Int)-1)=((a-1:Nat):Int):=by rw[IntWalk.i64_in _ (by omega)];omega
       go_wp2;refine⟨⟨a-1,by omega,by go_num,hI HPa.o.2,Hbx⟩,?_⟩;simp[intOf];omega
    ·have hin:i=sn:=by omega
     subst hin;have HFk:=hI (show FailOk j.p st now q until' from⟨HJe.o.1,by rw[j.nr,Hnr.o];exact hql,htn.1,hN3,htu.2,HJe.o.2.2,HJe.o.2.1,by rw[HJv.o];omega⟩);have hnt:j.p.tasks.length=i:=by rw[j.nt];exact Hn.o
     obtain⟨f,hf⟩:=eX ((failOrd j.p st now q).length);obtain⟨SG,hSG⟩:=eX (serialGo (failJob j.p q now until') now (rOrd st i) f ⟨st,plI j.p st now q i i⟩)
     have HSm:=hI (show SG.1=(failRun j.p st now q until').1/\(SG.1=true->SG.2.st=(failRun j.p st now q until').2.st) from by
      have h:=fail_same HFk.o hf.symm;rw[hnt,<-plI_full,hSG] at h;refine⟨h.1,fun h2=>h.2 (by rw[<- h.1];exact h2)⟩)
     have HJw:=hI (show JIn wr WJ.heap.size (putJob j q (some ⟨ga,0,none⟩) bcap J LA lc) from HOj.o.below (Hb9.o.trans ((HX9.o wr HK.o).mono (by omega))))
     have HSr:=hI (show Calls Tryz.prog 67 #[.agg #[.slice TA i j.tc,.slice (some ⟨ga,0,none⟩) nr bcap],.slice A20 i c20,.slice (some ⟨sb,0,none⟩) i sc9,.slice (some ⟨pb,0,none⟩) i i,.int .i64 now] wr fun e w'=>e= .returned (.bool SG.1)/\Kept2 wr w' sb pb/\RB2 w' sb pb i tl SG.2 from by
      have h:=refSer_any tl sc9 (putJob j q (some ⟨ga,0,none⟩) bcap J LA lc) now (rOrd st i) A20 c20 sb pb i i f WJ.heap.size ⟨st,plI j.p st now q i i⟩ wr HJw.o (by omega) (by omega) hne9 HR.o Hn.o (good_of (by rw[HOp.o];exact failJob_err HFk.o)) HTm.o ⟨htn.1,by omega⟩ (fun x hx=>rOrd_mem hx) (rOrd_len st i) (by omega) q20 q21 (fun X hX=>sl_own2 (k:=1) (fun _=>rfl) (e:=3) (c:=c20) (by rw[rOrd_len];exact own_keptT Ho.o hX (by omega) (by omega))) (by
       show notPl (plI j.p st now q i i)<=f
       rw[<- hf,<-notPl_fail,hnt,plI_full];exact zm _)
      rw[HOv.o,HOp.o,hSG] at h;exact h)
     clear hSG hf HJw;have HBw:=hI (show Bl WJ wr from Hb9.o.trans ((HX9.o wr HK.o).mono (by omega)));have HKw:=hI (show wr.heap[w5.heap.size]? =some (.cells #[.slice TA i j.tc,.slice (some ⟨ga,0,none⟩) nr bcap] 25 (0,0)) from(HBw.o.block _ (blk_lt HKj.o)).trans HKj.o);have hwj:=blk_lt HKj.o;have k0:=kC 0 HKw.o rfl;have k1:=kC 1 HKw.o rfl;cases hs1:SG.1
     ·have HE9:=hI (show failErr j.p st now q until'=9 from by rw[HEr.o,<-HSm.o.1,hs1];rfl);rw[hs1] at HSr;go_upto_region 32 with(go_at_call 67;go_loud (refine HSr.o.mono ?_);rintro e w2 ⟨rfl,hk2,_⟩;have Hb2:=hI (HUr.o.trans ((hk2.below (B:=WJ.heap.size) (by omega) (by omega) HBw.o.size).mono (by have:=HUj.o.size;omega)));clear hk2)
      clear k0 k1 HSr;have HR:=hI (HEX.o w2 Hb2.o 9 HE9.o (by decide));have g0:=kC 0 (HX01.o w2 Hb2.o) rfl;have g1:=kC 1 (HX01.o w2 Hb2.o) rfl;have f0:=kF 0 (HX01.o w2 Hb2.o);have f1:=kF 1 (HX01.o w2 Hb2.o);have hG1:=HGX.o w2 Hb2.o;generalize hX1:(w2.setCell ⟨w.heap.size+1,0,none⟩ (.slice none 0 0)).setCell ⟨w.heap.size+1,1,none⟩ (.slice none 0 0)=X1 at HR hG1;have e0:=kC 0 hG1 rfl;have e1:=kC 1 hG1 rfl;have HX1:=hI hX1;clear hX1 hG1;go_wp2
      go_loud (rw[HX1.o])
      refine bodyPost_ret (v:= .tuple #[.agg #[.slice none 0 0,.slice none 0 0],.slice none 0 0,.int .i64 9]) (by simp[results,Tryz.results23,go_sem,e0,e1]) rfl ?_;exact HR.o
     ·have HE9:=hI (show failErr j.p st now q until'=0 from by rw[HEr.o,<-HSm.o.1,hs1];rfl);have HSt:=hI (HSm.o.2 hs1);rw[hs1] at HSr;go_upto_region 33 with(go_at_call 67;go_loud (refine HSr.o.mono ?_);rintro e w2 ⟨rfl,hk2,hr2⟩;have Hr2:=hI hr2;have Hbw:=hI (hk2.below (B:=WJ.heap.size) (by omega) (by omega) HBw.o.size);clear hk2 hr2)
      clear k0 k1 HSr;have hsw:=HBw.o.size;have Hbj:=hI (HBw.o.trans Hbw.o);have Hb2:=hI (HUj.o.trans (Hbj.o.mono (by have:=HUj.o.size;omega)));have k0:=kC 0 ((Hbj.o.block _ (blk_lt HKj.o)).trans HKj.o) rfl;have k1:=kC 1 ((Hbj.o.block _ (blk_lt HKj.o)).trans HKj.o) rfl;have g0:=kC 0 (HX01.o w2 Hb2.o) rfl;have g1:=kC 1 (HX01.o w2 Hb2.o) rfl;have f0:=kF 0 (HX01.o w2 Hb2.o);have f1:=kF 1 (HX01.o w2 Hb2.o);have hG1:((w2.setCell ⟨w.heap.size+1,0,none⟩ (.slice TA i j.tc)).setCell ⟨w.heap.size+1,1,none⟩ (.slice (some ⟨ga,0,none⟩) nr bcap)).heap[w.heap.size+1]? =some (.cells #[.slice TA i j.tc,.slice (some ⟨ga,0,none⟩) nr bcap] 25 (0,0)):=by rw[blk_set (blk_set (HX01.o w2 Hb2.o) _)];rfl
      have hJX:=HOx.o w2 Hbj.o (.slice TA i j.tc) (.slice (some ⟨ga,0,none⟩) nr bcap);have hsl:Sl ((w2.setCell ⟨w.heap.size+1,0,none⟩ (.slice TA i j.tc)).setCell ⟨w.heap.size+1,1,none⟩ (.slice (some ⟨ga,0,none⟩) nr bcap)) ((w2.setCell ⟨w.heap.size+1,0,none⟩ (.slice TA i j.tc)).setCell ⟨w.heap.size+1,1,none⟩ (.slice (some ⟨ga,0,none⟩) nr bcap)).heap.size 1 encInt1 (some ⟨sb,0,none⟩) SG.2.st:=sl_tail (by rw[blk_set_ne (by omega),blk_set_ne (by omega)];exact Hr2.o.st);have hBX:=((HB0.o.trans (Hb2.o.mono (by omega))).setCell (p:=⟨w.heap.size+1,0,none⟩) (by simp) (.slice TA i j.tc)).setCell (p:=⟨w.heap.size+1,1,none⟩) (by simp) (.slice (some ⟨ga,0,none⟩) nr bcap);generalize hX1:(w2.setCell ⟨w.heap.size+1,0,none⟩ (.slice TA i j.tc)).setCell ⟨w.heap.size+1,1,none⟩ (.slice (some ⟨ga,0,none⟩) nr bcap)=X1 at hG1 hJX hsl hBX
      have HR:=hI (show RFailR j st now q until' w (.returned (.tuple #[.agg #[.slice TA i j.tc,.slice (some ⟨ga,0,none⟩) nr bcap],.slice (some ⟨sb,0,none⟩) i sc9,.int .i64 0])) X1 from by
       have h1:failSt j.p st now q until'=SG.2.st:=by unfold failSt;rw[if_pos HE9.o];exact HSt.o.symm
       refine⟨⟨_,_,_,_,by rw[HOv.o,HE9.o],hJX,by rw[HOp.o];unfold failJ;rw[if_pos HE9.o,zZ],by rw[h1];exact Hr2.o.ns.symm,by rw[h1];exact hsl⟩,hBX⟩)
      have e0:=kC 0 hG1 rfl;have e1:=kC 1 hG1 rfl;have HX1:=hI hX1;clear hX1 hG1 hJX hsl hBX;go_wp2
      go_loud (rw[HX1.o])
      refine bodyPost_ret (v:= .tuple #[.agg #[.slice TA i j.tc,.slice (some ⟨ga,0,none⟩) nr bcap],.slice (some ⟨sb,0,none⟩) i sc9,.int .i64 0]) (by simp[results,Tryz.results23,go_sem,e0,e1]) rfl ?_;exact HR.o
end Go.Proofs.YtjpgnfekbojcaaaGreat
