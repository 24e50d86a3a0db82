/- slices.Clone at numbers,uses,spans;cmp.Or of two numbers. -/
import Derived.Test.YtjpgnfekbojcaaaGreatWJob8
import Derived.Maps.OwnSet
import Derived.Maps.OwnOps
set_option maxHeartbeats 8000000
set_option maxRecDepth 100000
namespace Go.Proofs.YtjpgnfekbojcaaaGreat
open Go.RowKit W7 W8
attribute [local go_sem] Oper.semAt_some
theorem lenI:∀x:Int,(encInt1 x).length=1:=fun _=>rfl
theorem flat_lenI (l:List Int):(l.flatMap encInt1).length=l.length*1:=by
 induction l with
 | nil=>rfl
 | cons a r ih=>rw[List.flatMap_cons,List.length_append,ih,lenI,List.length_cons];omega
theorem src_I {w:World} {B n:Nat} {l:List Int} {ad:Addr} (h:Sl w B 1 encInt1 (some ad) l) (hn:n=l.length):Src w 1 (some ad) n (l.flatMap encInt1):=by
 refine .inr ⟨ad,rfl,by rw[flat_lenI,hn],fun j u hu=> ?_⟩
 have hj:j<l.length*1:=by
  have:=(List.getElem?_eq_some_iff.1 hu).1
  rwa [flat_lenI] at this
 obtain⟨b,off,e1,_,hc⟩:=h (by omega);cases e1;have hi:j/1<l.length:=by omega
 have hu2:(encInt1 l[j/1])[j%1]? =some u:=by
  rw[<- flatMap_get (enc:=encInt1) (k:=1) lenI l (j/1) (j%1) hi (by omega),show j/1*1+j%1=j by omega];exact hu
 have h1:=hc (j/1) hi (j%1) u hu2
 have h2:(⟨b,off,none⟩:Addr).add j=⟨b,off+j/1*1+j%1,none⟩:=by
  rw[show off+j/1*1+j%1=off+j by omega];unfold Addr.add
  split<;>simp_all
 rw[h2];exact h1
theorem cloneI_any (l:List Int) (A:Option Addr) (n c:Nat) (w:World) (hn:n=l.length) (hA:Sl w w.heap.size 1 encInt1 A l) (hz:A=none->n=0/\c=0) (hl:n<=10000000) :
  Calls Tryz.prog 140 #[.slice A n c] w fun e w'=>∃v,e= .returned v/\w'.ownsRow w.heap.size 3 1 v n (l.flatMap encInt1)/\Bl w w':=by
 have heq:=fun(w:World) (a:Option Addr) (n c:Nat)=>Lib.run_eql_slice_nil (P:=Tryz.prog) w 26 3 a n c 0 0 Tryz.underlying26
 cases A with
 | none=>
  obtain⟨rfl,rfl⟩:=hz rfl;have hln:l=[]:=List.length_eq_zero_iff.1 hn.symm;subst hln;clear hA hn hl hz;go_enter Tryz.func140,Tryz.ntmps140;go_wp2;go_ret;exact⟨_,rfl,World.ownsRow_nil _ _ _ _,Below.refl _ _⟩
 | some ad=>
  have HS:=hI (src_I (w:=w.alloc (.cells #[] 3)) (ad:=ad) (hA.below ((Below.refl _ _).alloc (Nat.le_refl _) _)) hn)
  have Hone:Hid (∀u∈l.flatMap encInt1,u.oneCell'=true):=by
   intro u hu;obtain⟨x,_,hx⟩:=List.mem_flatMap.1 hu;simp only[encInt1,List.mem_cons,List.not_mem_nil,or_false] at hx;rcases hx with rfl;rfl
  have HO:=hI (World.ownsRow_lit (base:=w.heap.size) (e:=3) (size:=1) w #[] 0 (Nat.le_refl _) (by unfold maxLen;omega) rfl);clear hA hz hn;go_enter Tryz.func140,Tryz.ntmps140;go_wp2_with (at_builtin;refine wpList_appendL rfl _ _ 26 rfl w.heap.size 3 _ 1 8 elemI _ _ _ rfl HO.o _ _ _ _ rfl HS.o Hone.o (by omega) (by simp) ?_;intro v1 w1 hown1 hb1 hsz1 hg1 hblk1;have Hown1:=hI hown1;have Hb1:=hI hb1;have Hsz1:=hI hsz1;clear hown1 hb1 hsz1 hg1 hblk1);go_ret;exact⟨_,rfl,by have:=Hown1.o;simpa using this,((Below.refl _ _).alloc (Nat.le_refl _) _).trans Hb1.o⟩
theorem lenU:∀x:JUse,(encUse x).length=2:=fun _=>rfl
theorem flat_lenU (l:List JUse):(l.flatMap encUse).length=l.length*2:=by
 induction l with
 | nil=>rfl
 | cons a r ih=>rw[List.flatMap_cons,List.length_append,ih,lenU,List.length_cons];omega
theorem src_U {w:World} {B n:Nat} {l:List JUse} {ad:Addr} (h:Sl w B 2 encUse (some ad) l) (hn:n=l.length):Src w 2 (some ad) n (l.flatMap encUse):=by
 refine .inr ⟨ad,rfl,by rw[flat_lenU,hn],fun j u hu=> ?_⟩
 have hj:j<l.length*2:=by
  have:=(List.getElem?_eq_some_iff.1 hu).1
  rwa [flat_lenU] at this
 obtain⟨b,off,e1,_,hc⟩:=h (by omega);cases e1;have hi:j/2<l.length:=by omega
 have hu2:(encUse l[j/2])[j%2]? =some u:=by
  rw[<- flatMap_get (enc:=encUse) (k:=2) lenU l (j/2) (j%2) hi (by omega),show j/2*2+j%2=j by omega];exact hu
 have h1:=hc (j/2) hi (j%2) u hu2
 have h2:(⟨b,off,none⟩:Addr).add j=⟨b,off+j/2*2+j%2,none⟩:=by
  rw[show off+j/2*2+j%2=off+j by omega];unfold Addr.add
  split<;>simp_all
 rw[h2];exact h1
theorem elemU:Elem Tryz.prog 44 48 (.agg #[.int .i64 0,.int .i64 0]) 2 16:=Elem.mk' Tryz.underlying44 (by kernel_rfl) rfl (by decide) (by decide)
theorem cloneU_any (l:List JUse) (A:Option Addr) (n c:Nat) (w:World) (hn:n=l.length) (hA:Sl w w.heap.size 2 encUse A l) (hz:A=none->n=0/\c=0) (hl:n<=10000000) :
  Calls Tryz.prog 141 #[.slice A n c] w fun e w'=>∃v,e= .returned v/\w'.ownsRow w.heap.size 48 2 v n (l.flatMap encUse)/\Bl w w':=by
 have heq:=fun(w:World) (a:Option Addr) (n c:Nat)=>Lib.run_eql_slice_nil (P:=Tryz.prog) w 44 48 a n c 0 0 Tryz.underlying44
 cases A with
 | none=>
  obtain⟨rfl,rfl⟩:=hz rfl;have hln:l=[]:=List.length_eq_zero_iff.1 hn.symm;subst hln;clear hA hn hl hz;go_enter Tryz.func141,Tryz.ntmps141;go_wp2;go_ret;exact⟨_,rfl,World.ownsRow_nil _ _ _ _,Below.refl _ _⟩
 | some ad=>
  have HS:=hI (src_U (w:=w.alloc (.cells #[] 48)) (ad:=ad) (hA.below ((Below.refl _ _).alloc (Nat.le_refl _) _)) hn)
  have Hone:Hid (∀u∈l.flatMap encUse,u.oneCell'=true):=by
   intro u hu;obtain⟨x,_,hx⟩:=List.mem_flatMap.1 hu;simp only[encUse,List.mem_cons,List.not_mem_nil,or_false] at hx;rcases hx with rfl | rfl<;>rfl
  have HO:=hI (World.ownsRow_lit (base:=w.heap.size) (e:=48) (size:=2) w #[] 0 (Nat.le_refl _) (by unfold maxLen;omega) rfl);clear hA hz hn;go_enter Tryz.func141,Tryz.ntmps141;go_wp2_with (at_builtin;refine wpList_appendL rfl _ _ 44 rfl w.heap.size 48 _ 2 16 elemU _ _ _ rfl HO.o _ _ _ _ rfl HS.o Hone.o (by omega) (by simp) ?_;intro v1 w1 hown1 hb1 hsz1 hg1 hblk1;have Hown1:=hI hown1;have Hb1:=hI hb1;have Hsz1:=hI hsz1;clear hown1 hb1 hsz1 hg1 hblk1);go_ret;exact⟨_,rfl,by have:=Hown1.o;simpa using this,((Below.refl _ _).alloc (Nat.le_refl _) _).trans Hb1.o⟩
theorem lenP:∀x:JSpan,(encJSpan x).length=2:=fun _=>rfl
theorem flat_lenP (l:List JSpan):(l.flatMap encJSpan).length=l.length*2:=by
 induction l with
 | nil=>rfl
 | cons a r ih=>rw[List.flatMap_cons,List.length_append,ih,lenP,List.length_cons];omega
theorem src_P {w:World} {B n:Nat} {l:List JSpan} {ad:Addr} (h:Sl w B 2 encJSpan (some ad) l) (hn:n=l.length):Src w 2 (some ad) n (l.flatMap encJSpan):=by
 refine .inr ⟨ad,rfl,by rw[flat_lenP,hn],fun j u hu=> ?_⟩
 have hj:j<l.length*2:=by
  have:=(List.getElem?_eq_some_iff.1 hu).1
  rwa [flat_lenP] at this
 obtain⟨b,off,e1,_,hc⟩:=h (by omega);cases e1;have hi:j/2<l.length:=by omega
 have hu2:(encJSpan l[j/2])[j%2]? =some u:=by
  rw[<- flatMap_get (enc:=encJSpan) (k:=2) lenP l (j/2) (j%2) hi (by omega),show j/2*2+j%2=j by omega];exact hu
 have h1:=hc (j/2) hi (j%2) u hu2
 have h2:(⟨b,off,none⟩:Addr).add j=⟨b,off+j/2*2+j%2,none⟩:=by
  rw[show off+j/2*2+j%2=off+j by omega];unfold Addr.add
  split<;>simp_all
 rw[h2];exact h1
theorem elemP:Elem Tryz.prog 41 50 (.agg #[.int .i64 0,.int .i64 0]) 2 16:=Elem.mk' Tryz.underlying41 (by kernel_rfl) rfl (by decide) (by decide)
theorem cloneP_any (l:List JSpan) (A:Option Addr) (n c:Nat) (w:World) (hn:n=l.length) (hA:Sl w w.heap.size 2 encJSpan A l) (hz:A=none->n=0/\c=0) (hl:n<=10000000) :
  Calls Tryz.prog 142 #[.slice A n c] w fun e w'=>∃v,e= .returned v/\w'.ownsRow w.heap.size 50 2 v n (l.flatMap encJSpan)/\Bl w w':=by
 have heq:=fun(w:World) (a:Option Addr) (n c:Nat)=>Lib.run_eql_slice_nil (P:=Tryz.prog) w 41 50 a n c 0 0 Tryz.underlying41
 cases A with
 | none=>
  obtain⟨rfl,rfl⟩:=hz rfl;have hln:l=[]:=List.length_eq_zero_iff.1 hn.symm;subst hln;clear hA hn hl hz;go_enter Tryz.func142,Tryz.ntmps142;go_wp2;go_ret;exact⟨_,rfl,World.ownsRow_nil _ _ _ _,Below.refl _ _⟩
 | some ad=>
  have HS:=hI (src_P (w:=w.alloc (.cells #[] 50)) (ad:=ad) (hA.below ((Below.refl _ _).alloc (Nat.le_refl _) _)) hn)
  have Hone:Hid (∀u∈l.flatMap encJSpan,u.oneCell'=true):=by
   intro u hu;obtain⟨x,_,hx⟩:=List.mem_flatMap.1 hu;simp only[encJSpan,List.mem_cons,List.not_mem_nil,or_false] at hx;rcases hx with rfl | rfl<;>rfl
  have HO:=hI (World.ownsRow_lit (base:=w.heap.size) (e:=50) (size:=2) w #[] 0 (Nat.le_refl _) (by unfold maxLen;omega) rfl);clear hA hz hn;go_enter Tryz.func142,Tryz.ntmps142;go_wp2_with (at_builtin;refine wpList_appendL rfl _ _ 41 rfl w.heap.size 50 _ 2 16 elemP _ _ _ rfl HO.o _ _ _ _ rfl HS.o Hone.o (by omega) (by simp) ?_;intro v1 w1 hown1 hb1 hsz1 hg1 hblk1;have Hown1:=hI hown1;have Hb1:=hI hb1;have Hsz1:=hI hsz1;clear hown1 hb1 hsz1 hg1 hblk1);go_ret;exact⟨_,rfl,by have:=Hown1.o;simpa using this,((Below.refl _ _).alloc (Nat.le_refl _) _).trans Hb1.o⟩
theorem cmpOr_any (x y:Int) (b c:Nat) (w:World) (h0:w.cell? ⟨b,0,none⟩=some (.int .i64 x)) (h1:w.cell? ⟨b,1,none⟩=some (.int .i64 y)) :
  Calls Tryz.prog 125 #[.slice (some ⟨b,0,none⟩) 2 c] w fun e w'=>e= .returned (.int .i64 (if x=0 then y else x))/\w'=w:=by
 cases hx:(x==0)
 ·have hx':(x != 0)=true:=by simp[bne,hx]
  have he:(if x=0 then y else x)=x:=if_neg (fun h=>by rw[h] at hx;cases hx);rw[he];go_enter Tryz.func125,Tryz.ntmps125;go_wp2;refine wp_loop_rounds 1 ?_;rw[rounds_succ];go_wp2;go_ret;exact⟨rfl,rfl⟩
 ·obtain rfl:=eq_of_beq hx;rw[if_pos rfl];cases hy:(y==0)
  ·have hy':(y != 0)=true:=by simp[bne,hy]
   go_enter Tryz.func125,Tryz.ntmps125;go_wp2;refine wp_loop_rounds 2 ?_;rw[rounds_succ];go_wp2;rw[rounds_succ];go_wp2;go_ret;exact⟨rfl,rfl⟩
  ·obtain rfl:=eq_of_beq hy;go_enter Tryz.func125,Tryz.ntmps125;go_wp2;refine wp_loop_rounds 3 ?_;rw[rounds_succ];go_wp2;rw[rounds_succ];go_wp2;rw[rounds_succ];go_wp2;go_ret;exact⟨rfl,rfl⟩
end Go.Proofs.YtjpgnfekbojcaaaGreat
namespace W8
open W7
theorem firstMay_none {j:JobP} {pl:List Bool} {f:Nat} {out:List Int} (h:firstMay j pl=none):ordGo j (f+1) pl out=out:=by
 simp only[ordGo,h]
theorem firstMay_some {j:JobP} {pl:List Bool} {f k:Nat} {out:List Int} (h:firstMay j pl=some k):ordGo j (f+1) pl out=ordGo j f (pl.set k true) (out++[(k:Int)]):=by
 simp only[ordGo,h]
def lenV:Go.Value->Nat
 | .slice _ n _=>n
 | _=>0
def notPl (pl:List Bool):Nat:=pl.count false
theorem notPl_set {pl:List Bool} {k:Nat} (hk:k<pl.length) (h:pl.getD k false=false):notPl (pl.set k true)+1=notPl pl:=by
 unfold notPl;have h1:pl[k]=false:=by rw[List.getD_eq_getElem?_getD,List.getElem?_eq_getElem hk] at h;exact h
 rw[List.count_set hk,h1];have:0<pl.count false:=List.count_pos_iff.2 (h1▸List.getElem_mem hk);simp;omega
theorem firstMay_lt {j:JobP} {pl:List Bool} {k:Nat} (h:firstMay j pl=some k):k<j.tasks.length/\pl.getD k false=false:=by
 unfold firstMay at h;have h1:=List.mem_range.1 (List.mem_of_find?_eq_some h);have h2:=List.find?_some h;unfold mayB at h2;simp only[Bool.and_eq_true,Bool.not_eq_true'] at h2;exact⟨h1,h2.1⟩
theorem no_may_none {j:JobP} {pl:List Bool} (h:(List.range j.tasks.length).any (mayB j pl)=false):firstMay j pl=none:=by
 unfold firstMay;rw[List.find?_eq_none];intro x hx hm;rw[List.any_eq_false] at h;exact h x hx hm
theorem may_first {j:JobP} {pl:List Bool} {i:Nat} (hi:i<j.tasks.length) (h:(List.range i).any (mayB j pl)=false) (h2:mayB j pl i=true):firstMay j pl=some i:=by
 unfold firstMay;rw[List.find?_eq_some_iff_getElem];refine⟨h2,i,by simpa using hi,by simp,fun k hk=> ?_⟩;rw[List.any_eq_false] at h;have:=h k (List.mem_range.2 hk)
 simpa using this
theorem ordGo_full {j:JobP} {pl:List Bool} {out:List Int} (f:Nat) (h:firstMay j pl=none):ordGo j f pl out=out:=by
 cases f with
 | zero=>rfl
 | succ f=>exact firstMay_none h
theorem range_any_succ {p:Nat->Bool} {i:Nat} (h:(List.range i).any p=false) (h2:p i=false):(List.range (i+1)).any p=false:=by
 rw[List.range_succ,List.any_append,h];simp[h2]
end W8
namespace Go.Proofs.YtjpgnfekbojcaaaGreat
open Go.RowKit W7 W8
attribute [local go_sem] Oper.semAt_some
theorem ord1_any (pl:List Bool) (q bb pb n:Nat) (w:World) (h0:w.cell? ⟨bb,0,none⟩=some (.slice (some ⟨pb,0,none⟩) n n)) (hp:w.heap[pb]? =some (.cells (pl.map Value.bool).toArray 4 (0,0))) (hn:pl.length=n) (hq:q<n) :
  Calls Tryz.prog 163 #[.int .i64 (q:Int),.pointer (some ⟨bb,0,none⟩)] w fun e w'=>e= .returned (.bool (!pl.getD q false))/\Bl w w':=by
 have cp:w.cell? ⟨pb,q,none⟩=some (.bool (pl.getD q false)):=bc hp (map_getD (by omega));generalize pl.getD q false=b at cp;clear hp hn;go_enter Tryz.func163,Tryz.ntmps163;go_wp2;go_ret;exact⟨rfl,Below.refl _ _⟩
set_option maxHeartbeats 1000000 in
theorem idxOrd_any (P:Int->Bool) (a0:Value) (xs:List Int) (n:Nat) (hn:n=xs.length) (A:Option Addr) (c B:Nat) (w:World) (hA:Sl w B 1 encInt1 A xs) (hB:B<=w.heap.size) (hl:xs.length<=9223372036854775807)
    (hF:∀(x:Int),x∈xs->∀(W:World),Bl w W->Calls Tryz.prog 163 #[.int .i64 x,a0] W fun e w'=>e= .returned (.bool (P x))/\Bl W w') :
    Calls Tryz.prog 132 #[.slice A n c,.func (.func 163) #[] #[a0]] w fun e w'=>e= .returned (.int .i64 (idxB P xs))/\Bl w w':=by
  subst hn;have HA:=hI hA;have HF:=hI hF;clear hA hF;go_enter Tryz.func132,Tryz.ntmps132;go_wp2;go_loopw [8] (fun i wr=>∃k:Nat,k<=xs.length/\i= .int .i64 k/\Hid ((xs.take k).any P=false)/\Hid (Bl w wr)) (fun i _=>xs.length-(intOf i).toNat);case atStart=>exact⟨0,by omega,rfl,hI (by simp),hI (Below.refl _ _)⟩
  case round=>
    obtain⟨k,hk,rfl,Hno,Hb⟩:=hrel;have hsz:=Hb.o.size
    by_cases hlt:k<xs.length
    · obtain⟨b,off,rfl,hbB,hcells⟩:=(HA.o.below (Hb.o.mono hB)) (by omega)
      have h0:=hcells k hlt;clear hcells;have c0:wr.cell? ⟨b,off+k,none⟩=some (.int .i64 xs[k]):=(by have h:=h0 0 _ rfl;rwa [Nat.mul_one,Nat.add_zero] at h)
      have Hs:=hI (any_take_succ (p:=P) hlt Hno.o);have Hh:=hI (idxB_hit (p:=P) hlt Hno.o);have HK:=hI (fun(W:World) (hW:Bl w W)=>HF.o xs[k] (List.getElem_mem hlt) W hW);generalize xs[k]=x at c0 Hs Hh HK;clear h0;cases hp:P x
      · have HK2:=hI (fun(W:World) (hW:Bl w W)=>hp▸HK.o W hW)
        go_wp2_with (go_at_call 163;refine(HK2.o _ (by first | exact Hb.o | exact Hb.o.alloc (by omega) _)).mono ?_;rintro e w1 ⟨rfl,hb1⟩;have Hb1:=hI hb1;clear hb1);go_roundw;case rel=>exact⟨k+1,by omega,by go_num,hI (Hs.o hp),hI (by first | exact Hb.o.trans (Hb1.o.mono hsz) | exact(Hb.o.alloc (by omega) _).trans (Hb1.o.mono (by simp;omega)))⟩
        case measure=>simp[intOf];omega
      · have HK2:=hI (fun(W:World) (hW:Bl w W)=>hp▸HK.o W hW)
        go_wp2_with (go_at_call 163;refine(HK2.o _ (by first | exact Hb.o | exact Hb.o.alloc (by omega) _)).mono ?_;rintro e w1 ⟨rfl,hb1⟩;have Hb1:=hI hb1;clear hb1);go_ret;exact⟨ret_int (Hh.o hp).symm,(by first | exact Hb.o.trans (Hb1.o.mono hsz) | exact(Hb.o.alloc (by omega) _).trans (Hb1.o.mono (by simp;omega)))⟩
    · have HN:=hI (idxB_none (p:=P) (xs:=xs) (by rw[<- Hno.o,List.take_of_length_le (by omega)]))
      go_wp2;go_ret;exact⟨ret_int HN.o.symm,Hb.o⟩
theorem conOrd_any (P:Int->Bool) (a0:Value) (xs:List Int) (n:Nat) (hn:n=xs.length) (A:Option Addr) (c B:Nat) (w:World) (hA:Sl w B 1 encInt1 A xs) (hB:B<=w.heap.size) (hl:xs.length<=9223372036854775807)
    (hF:∀(x:Int),x∈xs->∀(W:World),Bl w W->Calls Tryz.prog 163 #[.int .i64 x,a0] W fun e w'=>e= .returned (.bool (P x))/\Bl W w') :
    Calls Tryz.prog 60 #[.slice A n c,.func (.func 163) #[] #[a0]] w fun e w'=>e= .returned (.bool (xs.any P))/\Bl w w':=by
  have H:=hI (idxOrd_any P a0 xs n hn A c B w hA hB hl hF);have HI:=hI (idxB_any (p:=P) (xs:=xs));clear hA hn hF;go_enter Tryz.func60,Tryz.ntmps60;go_wp2_with (go_at_call 132;refine H.o.mono ?_;rintro e w1 ⟨rfl,hb1⟩;have Hb1:=hI hb1;clear hb1);go_ret;exact⟨ret_bool HI.o,Hb1.o⟩

theorem ordered_any (j:Job) (B:Nat) (w:World) (hj:JIn w B j) (hB:B<=w.heap.size) (hnt:j.tasks.length<=64) (hnu:∀t∈j.tasks,t.p.needs.length<=1000) (hnd:∀t∈j.tasks,∀k∈t.p.needs,0<=k/\k<j.tasks.length) :
  Calls Tryz.prog 95 #[jobV j] w fun e w'=>∃v,e= .returned v/\w'.ownsRow w.heap.size 3 1 v (ordV j.p).length ((ordV j.p).map (Value.int .i64))/\Bl w w':=by
 obtain⟨n,hn⟩:∃n,j.tasks.length=n:=⟨_,rfl⟩
 obtain⟨TA,hTA⟩:∃x,j.TA=x:=⟨_,rfl⟩
 have hjv:jobV j= .agg #[.slice TA n j.tc,.slice j.RA j.res.length j.rc]:=by unfold jobV;rw[hn,hTA]
 rw[hjv];obtain⟨W0,HW0,hs0,HB0,HX00,HU0⟩:=boxes1 w (.cells #[.slice TA n j.tc,.slice j.RA j.res.length j.rc] 25);have hlc:=hj.tl;have hc2:=hj.tc;rw[hn] at hlc hnt;have HJ:=hI (show ∀X:World,Bl W0 X->JIn X B j from fun X hX=>hj.below ((HU0.o X hX).mono hB));have Hn:=hI hn;have HTA:=hI hTA;have Hnu:=hI hnu;have Hnd:=hI hnd;obtain⟨i2,hi2,hi2a,hi2b,hi2c⟩:=info_parts (show(Tryz.prog.info? 4).map (fun i=>(i.zero,i.size,i.bytes))=some (some (.bool false),1,1) by kernel_rfl);have q0:=W7.bc (j:=0) (HX00.o W0 (Below.refl _ _)) rfl;clear hj hn hTA hnu hnd hjv;go_enter Tryz.func95,Tryz.ntmps95;go_upto_region 2 with fail;rw[<- HW0.o]
 go_upto_region 3 with(at_make;refine wpList_make_full _ rfl _ _ 113 rfl W0.heap.size 4 _ (.bool false) 1 Tryz.underlying113 hi2 hi2a hi2b .i64 .i64 _ _ n rfl rfl rfl rfl (by rw[hi2c];omega) (by unfold maxLen;omega) (Nat.le_refl _) ?_;intro w1 hown1 hg1;have Hb1:=hI ((Below.refl W0.heap.size W0).grown hg1 (Nat.le_refl _) (fun k hk=>by cases hk));have Hn1:=hI (made_blk (Nat.le_refl _) hown1);clear hown1 hg1)
 have hs1:=Hb1.o.size;obtain⟨W2,hW2⟩:∃W2,W2=w1.alloc (.cells #[.slice (some ⟨w.heap.size+1,0,none⟩) n n] 113):=⟨_,rfl⟩
 have hs2:W2.heap.size=w1.heap.size+1:=by rw[hW2];simp
 have HB12:=hI (show Bl w1 W2 by rw[hW2];exact(Below.refl _ _).alloc (Nat.le_refl _) _);have HB2:=hI (show Bl W0 W2 from Hb1.o.trans (HB12.o.mono hs1))
 have HP2:=hI (show W2.heap[w.heap.size+1]? =some (.cells ((List.replicate n false).map Value.bool).toArray 4 (0,0)) by
  have h:=(Hn1.o.below HB12.o).2;rw[hs0] at h;rw[List.map_replicate];exact h)
 have HX2:=hI (show W2.heap[w1.heap.size]? =some (.cells #[.slice (some ⟨w.heap.size+1,0,none⟩) n n] 113 (0,0)) by rw[hW2];exact heap_alloc_new _ _);have HOV:=hI (show ordGo j.p (notPl (List.replicate n false)) (List.replicate n false) []=ordV j.p by unfold ordV notPl;rw[j.nt,Hn.o,List.count_replicate];simp);have hpw:w.heap.size+1<w1.heap.size:=by have:=blk_lt HP2.o;have h:=(Array.getElem?_eq_some_iff.1 Hn1.o.2).1;omega
 rw[<- hW2];clear hW2 q0;go_loopw [3] (fun v3 wr=>∃(pl:List Bool) (out:List Int),pl.length=n/\Hid (out.length+notPl pl=n)/\lenV v3=out.length/\Hid (wr.heap[w.heap.size+1]? =some (.cells (pl.map Value.bool).toArray 4 (0,0)))/\Hid (wr.heap[w1.heap.size]? =some (.cells #[.slice (some ⟨w.heap.size+1,0,none⟩) n n] 113 (0,0)))/\Hid (wr.ownsRow W2.heap.size 3 1 v3 out.length (out.map (Value.int .i64)))/\Hid (Bl W0 wr)/\Hid (W2.heap.size<=wr.heap.size)/\Hid (ordGo j.p (notPl pl) pl out=ordV j.p)) (fun v3 _=>n+1-lenV v3);case atStart=>exact⟨List.replicate n false,[],by simp,hI (by simp[notPl]),rfl,HP2,HX2,hI (World.ownsRow_nil _ _ _ _),HB2,hI (Nat.le_refl _),HOV⟩
 case round=>
  obtain⟨pl,out,hpl,Hon,hlv,HP,HX,Ho,Hb,Hs,HO⟩:=hrel;have hss:=Hs.o;have q0:=W7.bc (j:=0) (HX00.o wr Hb.o) rfl;have HBw:=hI (show ∀X:World,Bl wr X->X.heap[w.heap.size+1]? =some (.cells (pl.map Value.bool).toArray 4 (0,0))/\X.heap[w1.heap.size]? =some (.cells #[.slice (some ⟨w.heap.size+1,0,none⟩) n n] 113 (0,0)) from fun X hX=>⟨(hX.block _ (by omega)).trans HP.o,(hX.block _ (by omega)).trans HX.o⟩);have HUw:=hI (show ∀X:World,Bl wr X->Bl W0 X from fun X hX=>Hb.o.trans (hX.mono (by omega)));go_upto_region 4 with fail;go_wp2;clear q0;obtain⟨wa,rfl⟩:∃wa:World,wa=wr:=⟨_,rfl⟩
  go_loopw [5,15] (fun v5 v15 wr=>∃i:Nat,i<=n/\v15= .int .i64 i/\v5= .int .i64 (-1)/\Hid (Bl wa wr)/\Hid ((List.range i).any (mayB j.p pl)=false)) (fun _ v15 _=>n-(intOf v15).toNat);case atStart=>exact⟨0,by omega,rfl,rfl,hI (Below.refl _ _),hI rfl⟩
  case round=>
   obtain⟨i,hi,rfl,rfl,Hb2,Hno⟩:=hrel;have hsr2:=Hb2.o.size
   by_cases hlt:i<n
   ·have hil:i<j.tasks.length:=by have:=Hn.o;omega
    have hjn:=HJ.o wr (HUw.o _ Hb2.o);obtain⟨tb,off,hTb,htb⟩:=hjn.ta (by omega);have hTe:TA=some ⟨tb,off,none⟩:=by rw[<- HTA.o];exact hTb
    subst hTe;obtain⟨c0,c1,c2,c3⟩:=hjn.tcells hTb hil;have hTk:=hjn.tks _ (j.T_mem hil);have hnl:=hTk.nl;have hnc:=hTk.nc;have Hns:=hI hTk.ns;have HNd:=hI (Hnd.o _ (j.T_mem hil));have hnn:=Hnu.o _ (j.T_mem hil);have HM:=hI (show mayB j.p pl i=(!pl.getD i false&& !(j.T i).p.needs.any (fun k=> !pl.getD k.toNat false)) by unfold mayB standB;rw[j.pT,any_not_all]);have HSu:=hI (fun h=>range_any_succ (p:=mayB j.p pl) Hno.o h);have HFi:=hI (fun h=>may_first (j:=j.p) (pl:=pl) (by rw[j.nt];exact hil) Hno.o h);generalize j.T i=t at c0 c1 c2 c3 Hns HNd hnn HM hnl hnc;obtain⟨NA,hNA⟩:∃x,t.NA=x:=⟨_,rfl⟩
    obtain⟨nn,hnn'⟩:∃x,t.p.needs.length=x:=⟨_,rfl⟩
    rw[hNA,hnn'] at c2;rw[hNA] at Hns;rw[hnn'] at hnl hnn;obtain⟨W4,hW4⟩:∃W4,W4=wr.alloc (.cells #[.string t.p.name,.int .i64 t.p.takes,.slice NA nn t.nc,.slice t.UA t.p.uses.length t.uc] 46):=⟨_,rfl⟩
    have hs4:wr.heap.size+1<=W4.heap.size:=by rw[hW4];simp
    have hB4:Bl wr W4:=by rw[hW4];exact(Below.refl _ _).alloc (Nat.le_refl _) _
    have HB4:=hI (show Bl wa W4 from Hb2.o.trans (hB4.mono hsr2));have r2:W4.cell? ⟨wr.heap.size,2,none⟩=some (.slice NA nn t.nc):=by rw[hW4];exact alloc_cell rfl
    have HU4:=hI (show ∀X:World,Bl W4 X->Bl wa X from fun X hX=>HB4.o.trans (hX.mono (by omega)))
    have HC:=hI (conOrd_any (fun k=> !pl.getD k.toNat false) (.pointer (some ⟨w1.heap.size,0,none⟩)) t.p.needs nn hnn'.symm NA t.nc B W4 (Hns.o.below (hB4.mono (by omega))) (by omega) (by omega) (fun x hx W hW=>by
     have h1:=HNd.o x hx;obtain⟨q,hq⟩:∃q:Nat,x=q:=⟨x.toNat,by omega⟩
     subst hq;obtain⟨g1,g2⟩:=HBw.o W (HU4.o W hW);exact ord1_any pl q w1.heap.size (w.heap.size+1) n W (bc (j:=0) g2 rfl) g1 hpl (by have:=h1.2;have:=Hn.o;omega)))
    generalize t.p.needs.any (fun k=> !pl.getD k.toNat false)=an at HC HM;obtain⟨g1,g2⟩:=HBw.o W4 HB4.o;have x0:=bc (j:=0) g2 rfl;have x1:W4.cell? ⟨w.heap.size+1,i,none⟩=some (.bool (pl.getD i false)):=bc g1 (map_getD (by omega));generalize pl.getD i false=pi at x1 HM;clear hjn hTb hTk hNA hnn' hB4 g1 g2;go_upto_region 7 with fail;rw[<- hW4];clear hW4 c0 c1 c2 c3;cases pi
    ·cases an
     ·have hfm:=HFi.o (by rw[HM.o];rfl);have hpi:=(firstMay_lt hfm).2;have hns:=notPl_set (pl:=pl) (k:=i) (by omega) hpi;have HOn:=hI (show ordGo j.p (notPl (pl.set i true)) (pl.set i true) (out++[(i:Int)])=ordV j.p by rw[<- HO.o,<-hns];exact(firstMay_some hfm).symm);have Hns2:=hI hns;clear hfm hpi hns HFi HSu;go_upto_region 12 with(go_at_call 60;refine HC.o.mono ?_;rintro e w5 ⟨rfl,hb5⟩;have Hb5:=hI (HU4.o _ hb5);clear hb5)
      clear x0 x1 r2;have hs5:=Hb5.o.size;obtain⟨g1,g2⟩:=HBw.o w5 Hb5.o;have x0:=bc (j:=0) g2 rfl;have f1:=W7.bf (j:=i) g1;have x1:w5.cell? ⟨w.heap.size+1,i,none⟩=some (.bool (pl.getD i false)):=bc g1 (map_getD (by omega));obtain⟨X1,hX1⟩:∃X1,X1=w5.setCell ⟨w.heap.size+1,i,none⟩ (.bool true):=⟨_,rfl⟩
      have hsX:w5.heap.size<=X1.heap.size:=by rw[hX1];simp[World.setCell]
      have HP1:=hI (show X1.heap[w.heap.size+1]? =some (.cells ((pl.set i true).map Value.bool).toArray 4 (0,0)) by rw[hX1,blk_set g1];simp[List.map_set]);have HX1:=hI (show X1.heap[w1.heap.size]? =some (.cells #[.slice (some ⟨w.heap.size+1,0,none⟩) n n] 113 (0,0)) by rw[hX1,blk_set_ne (by omega)];exact g2);have HO1:=hI (show X1.ownsRow W2.heap.size 3 1 u3 out.length (out.map (Value.int .i64)) by rw[hX1];exact own_setK (own_below Ho.o Hb5.o) g1 (by decide) _);have HB1:=hI (show Bl W0 X1 by rw[hX1];exact(HUw.o _ Hb5.o).setCell (p:=⟨w.heap.size+1,i,none⟩) (by simp;omega) _);go_upto_region 13 with fail;rw[<- hX1];clear hX1 g1 g2 x0 x1 f1
      go_wp2_with (at_builtin;refine wpList_append1 rfl _ _ 26 rfl W2.heap.size 3 _ 1 8 elemI _ _ _ rfl HO1.o #[.int .i64 (i:Int)] 1 _ rfl (by simp) rfl (by simp[Value.oneCell']) (by have:=Hon.o;omega) (by omega) ?_;intro v6 w6 hown6 hb6 hsz6 hg6 hblk6;have Ho6:=hI hown6;have Hb6:=hI hb6;have hs6:=hsz6;clear hown6 hb6 hsz6 hg6 hblk6);go_roundw
      case rel=>
       refine⟨pl.set i true,out++[(i:Int)],by simp[hpl],hI (by have:=Hon.o;have:=Hns2.o;simp;omega),?_,hI ((Hb6.o.block _ (by omega)).trans HP1.o),hI ((Hb6.o.block _ (by omega)).trans HX1.o),hI (by rw[List.length_append,List.map_append];exact Ho6.o),hI (HB1.o.trans (Hb6.o.mono (by omega))),hI (by omega),HOn⟩;obtain⟨A9,c9,e9,_,_⟩:=own_cap' Ho6.o;rw[e9];simp[lenV]
      case measure=>
       obtain⟨A9,c9,e9,_,_⟩:=own_cap' Ho6.o;rw[e9,hlv];have:=Hon.o;simp[lenV];omega
     ·have HV:=hI (show mayB j.p pl i=false by rw[HM.o];rfl);go_wp2_with (go_at_call 60;refine HC.o.mono ?_;rintro e w5 ⟨rfl,hb5⟩;have Hb5:=hI hb5;clear hb5);go_roundw;case rel=>exact⟨i+1,by omega,by go_num,rfl,hI (HU4.o _ Hb5.o),hI (HSu.o HV.o)⟩
      case measure=>simp[intOf];omega
    ·have HV:=hI (show mayB j.p pl i=false by rw[HM.o];rfl);go_wp2;go_roundw;case rel=>exact⟨i+1,by omega,by go_num,rfl,HB4,hI (HSu.o HV.o)⟩
     case measure=>simp[intOf];omega
   ·have HE:=hI (show out=ordV j.p by rw[<- HO.o];exact(ordGo_full _ (no_may_none (by rw[j.nt,Hn.o,show n=i by omega];exact Hno.o))).symm);go_wp2;go_ret;refine⟨_,rfl,?_,HU0.o _ (HUw.o _ Hb2.o)⟩;rw[<- HE.o];exact own_mono (own_below Ho.o Hb2.o) (by omega)
end Go.Proofs.YtjpgnfekbojcaaaGreat
namespace W8
open W7
structure OrdInv (j:JobP) (pl:List Bool) (out:List Int):Prop where
 len:pl.length=j.tasks.length
 mem:∀i:Nat,(i:Int)∈out↔pl.getD i false=true
 nd:out.Nodup
 rng:∀x∈out,0<=x/\x<j.tasks.length
 pre:∀p (hp:p<out.length),∀m∈(j.tasks.getD (out[p]).toNat default).needs,m∈out.take p
theorem ordInv_go {j:JobP} (hG:JGood j):∀(f:Nat) (pl:List Bool) (out:List Int),OrdInv j pl out->∃pl',OrdInv j pl' (ordGo j f pl out)
 | 0,pl,out,h=>⟨pl,h⟩
 | f+1,pl,out,h=>by
  cases hm:firstMay j pl with
  | none=>rw[firstMay_none hm];exact⟨pl,h⟩
  | some k=>
   rw[firstMay_some hm];refine ordInv_go hG f _ _ ?_;have hk:=firstMay_lt hm;have hkp:k<pl.length:=by rw[h.len];exact hk.1
   have hst:standB pl (j.tasks.getD k default).needs=true:=by
    unfold firstMay at hm;have h2:=List.find?_some hm;unfold mayB at h2;simp only[Bool.and_eq_true] at h2;exact h2.2
   refine⟨by simp[h.len],fun i=> ?_,?_,?_,?_⟩
   ·rw[List.getD_eq_getElem?_getD,List.getElem?_set]
    by_cases he:k=i
    ·subst he;simp[hkp]
    ·rw[if_neg he,<-List.getD_eq_getElem?_getD,<-h.mem i];simp;omega
   ·rw[List.nodup_append];refine⟨h.nd,by simp,fun a ha b hb=> ?_⟩;rw[List.mem_singleton.1 hb];intro e;rw[e,h.mem k,hk.2] at ha;cases ha
   ·intro x hx;rcases List.mem_append.1 hx with hx | hx
    ·exact h.rng x hx
    ·rw[List.mem_singleton.1 hx];have:=hk.1;omega
   ·intro p hp m hmm
    by_cases hpl:p<out.length
    ·rw[List.getElem_append_left hpl] at hmm;rw[List.take_append_of_le_length (by omega)];exact h.pre p hpl m hmm
    ·have hpe:p=out.length:=by simp at hp;omega
     subst hpe;rw[List.getElem_append_right (Nat.le_refl _)] at hmm;simp only[Nat.sub_self,List.getElem_cons_zero,Int.toNat_natCast] at hmm;rw[List.take_left];unfold standB at hst;rw[List.all_eq_true] at hst;have h3:=hst m hmm;have h4:=hG.needs (j.tasks.getD k default) (by rw[getD_of hk.1];exact List.getElem_mem _) m hmm;have h5:=(h.mem m.toNat).2 h3
     rwa [Int.toNat_of_nonneg h4.1] at h5
theorem nodup_full:∀(n:Nat) (l:List Nat),l.Nodup->(∀x∈l,x<n)->l.length=n->∀x,x<n->x∈l:=by
 intro n l hn h hl x hx;apply Classical.byContradiction;intro hno
 have h2:=nodup_len n (x::l) (List.nodup_cons.2 ⟨hno,hn⟩) (fun y hy=>by
  rcases List.mem_cons.1 hy with rfl | hy
  ·exact hx
  ·exact h y hy)
 simp at h2;omega
theorem ord_inv {j:JobP} (h:jobErr j=0):∃pl,OrdInv j pl (ordV j):=by
 have hG:=good_of h;refine ordInv_go hG _ _ _ ⟨by simp,fun i=> ?_,by simp,by simp,by simp⟩;simp only[List.getD_eq_getElem?_getD,List.getElem?_replicate]
 split<;>simp
theorem ord_full {j:JobP} (h:jobErr j=0):∀n,n<j.tasks.length->(n:Int)∈ordV j:=by
 obtain⟨pl,hI⟩:=ord_inv h;intro n hn
 have hlen:(ordV j).length=j.tasks.length:=by
  have h1:=(err_parts h).2.2.2;have h2:=nodup_lenI (n:=j.tasks.length) hI.nd (fun x hx=>hI.rng x hx);omega
 have h3:=nodup_full j.tasks.length ((ordV j).map Int.toNat) (by
  rw[List.Nodup,List.pairwise_map];refine hI.nd.imp_of_mem ?_;intro a b ha hb hab h2;have:=hI.rng a ha;have:=hI.rng b hb;omega) (fun x hx=>by
  obtain⟨y,hy,rfl⟩:=List.mem_map.1 hx;have:=hI.rng y hy;omega) (by simpa using hlen) n hn
 obtain⟨y,hy,he⟩:=List.mem_map.1 h3;have:=hI.rng y hy;have:y=(n:Int):=by omega
 rw[<- this];exact hy
def rankOf (j:JobP) (n:Nat):Nat:=(ordV j).idxOf (n:Int)
theorem rank_lt {j:JobP} (h:jobErr j=0) {n:Nat} (hn:n<j.tasks.length):rankOf j n<j.tasks.length:=by
 obtain⟨pl,hI⟩:=ord_inv h;have h1:=List.idxOf_lt_length_of_mem (ord_full h n hn);have h2:=nodup_lenI (n:=j.tasks.length) hI.nd (fun x hx=>hI.rng x hx);unfold rankOf;omega
theorem rank_needs {j:JobP} (h:jobErr j=0) {k:Nat} (hk:k<j.tasks.length) {m:Int} (hm:m∈(j.tasks.getD k default).needs):rankOf j m.toNat<rankOf j k:=by
 obtain⟨pl,hI⟩:=ord_inv h;have hmr:=(good_of h).needs (j.tasks.getD k default) (by rw[getD_of hk];exact List.getElem_mem _) m hm;have h1:=List.idxOf_lt_length_of_mem (ord_full h k hk);have h2:=hI.pre (rankOf j k) h1;have h3:(ordV j)[rankOf j k]'h1=(k:Int):=List.getElem_idxOf h1;rw[h3,Int.toNat_natCast] at h2;have h4:=h2 m hm;obtain⟨p,hp,he⟩:=List.getElem_of_mem h4;rw[List.length_take] at hp;rw[List.getElem_take] at he;have h5:(ordV j).idxOf (ordV j)[p]=p:=hI.nd.idxOf_getElem p (by omega)
 have h6:rankOf j m.toNat=p:=by
  unfold rankOf;rw[Int.toNat_of_nonneg hmr.1,<-he];exact h5
 omega
theorem foldl_congr_mem {β:Type} {f g:β->Nat->β}:∀(l:List Nat) (b:β),(∀b,∀x∈l,f b x=g b x)->l.foldl f b=l.foldl g b
 | [],_,_=>rfl
 | x::l,b,h=>by
  rw[List.foldl_cons,List.foldl_cons,h b x (List.mem_cons_self ..)];exact foldl_congr_mem l _ (fun b y hy=>h b y (List.mem_cons_of_mem _ hy))
theorem lon_stable {j:JobP} (h:jobErr j=0):∀(d n f f':Nat),n<j.tasks.length->j.tasks.length-rankOf j n<=d->j.tasks.length-rankOf j n<=f->j.tasks.length-rankOf j n<=f'->lonGo j f n=lonGo j f' n
 | 0,n,f,f',hn,hd,_,_=>by have:=rank_lt h hn;omega
 | d+1,n,f,f',hn,hd,hf,hf'=>by
  have hr:=rank_lt h hn;obtain⟨g,rfl⟩:∃g,f=g+1:=⟨f-1,by omega⟩
  obtain⟨g',rfl⟩:∃g',f'=g'+1:=⟨f'-1,by omega⟩
  simp only[lonGo]
  congr 1
  refine foldl_congr_mem _ _ (fun b k hk=> ?_);have hkl:=List.mem_range.1 hk
  by_cases hc:(j.tasks.getD k default).needs.contains (n:Int)=true
  ·rw[if_pos hc,if_pos hc];have h1:=rank_needs h hkl (List.contains_iff_mem.1 hc);rw[Int.toNat_natCast] at h1;have h2:=rank_lt h hkl;rw[lon_stable h d k g g' hkl (by omega) (by omega) (by omega)]
  ·rw[if_neg hc,if_neg hc]
def lonStep (j:JobP) (n:Nat) (m:Int) (k:Nat):Int:=if (j.tasks.getD k default).needs.contains (n:Int) then max m (lonV j k) else m
def lonTo (j:JobP) (n i:Nat):Int:=(List.range i).foldl (lonStep j n) 0
theorem lonTo_succ (j:JobP) (n i:Nat):lonTo j n (i+1)=lonStep j n (lonTo j n i) i:=by
 unfold lonTo;rw[List.range_succ,List.foldl_append]
 rfl
theorem lonV_eq {j:JobP} (h:jobErr j=0) (n:Nat):lonV j n=(j.tasks.getD n default).takes+lonTo j n j.tasks.length:=by
 have e:lonV j n=(j.tasks.getD n default).takes+(List.range j.tasks.length).foldl (fun m k=>if (j.tasks.getD k default).needs.contains (n:Int) then max m (lonGo j j.tasks.length k) else m) 0:=rfl;rw[e]
 congr 1
 refine foldl_congr_mem _ _ (fun b k hk=> ?_);have hkl:=List.mem_range.1 hk;unfold lonStep
 by_cases hc:(j.tasks.getD k default).needs.contains (n:Int)=true
 ·rw[if_pos hc,if_pos hc];unfold lonV;have h1:=rank_needs h hkl (List.contains_iff_mem.1 hc);rw[Int.toNat_natCast] at h1;rw[lon_stable h j.tasks.length k j.tasks.length (j.tasks.length+1) hkl (by omega) (by omega) (by omega)]
 ·rw[if_neg hc,if_neg hc]
theorem foldl_max_le {j:JobP} {n f:Nat} {B:Int} (hB:∀k,k<j.tasks.length->0<=lonGo j f k/\lonGo j f k<=B) (h0:0<=B):∀(l:List Nat) (b:Int),(∀k∈l,k<j.tasks.length)->0<=b->b<=B->0<=l.foldl (fun m k=>if (j.tasks.getD k default).needs.contains (n:Int) then max m (lonGo j f k) else m) b/\l.foldl (fun m k=>if (j.tasks.getD k default).needs.contains (n:Int) then max m (lonGo j f k) else m) b<=B
 | [],_,_,h1,h2=>⟨h1,h2⟩
 | k::l,b,hl,h1,h2=>by
  rw[List.foldl_cons];have h3:=hB k (hl k (List.mem_cons_self ..));refine foldl_max_le hB h0 l _ (fun x hx=>hl x (List.mem_cons_of_mem _ hx)) ?_ ?_<;>split<;>omega
theorem lonGo_le {j:JobP} (hG:JGood j):∀(f n:Nat),n<j.tasks.length->0<=lonGo j f n/\lonGo j f n<=100000*f
 | 0,n,_=>by simp[lonGo]
 | f+1,n,hn=>by
  have h1:=hG.takes (j.tasks.getD n default) (by rw[getD_of hn];exact List.getElem_mem _);have h2:=foldl_max_le (n:=n) (f:=f) (B:=100000*f) (fun k hk=>lonGo_le hG f k hk) (by omega) (List.range j.tasks.length) 0 (fun k hk=>List.mem_range.1 hk) (Int.le_refl _) (by omega);simp only[lonGo];omega
theorem lonV_le {j:JobP} (hG:JGood j) {n:Nat} (hn:n<j.tasks.length):0<=lonV j n/\lonV j n<=6500000:=by
 have h:=lonGo_le hG (j.tasks.length+1) n hn;have:=hG.nt;unfold lonV;omega
theorem lonTo_le {j:JobP} (hG:JGood j) (n:Nat):∀i,i<=j.tasks.length->0<=lonTo j n i/\lonTo j n i<=6500000
 | 0,_=>by simp[lonTo]
 | i+1,hi=>by
  have h1:=lonTo_le hG n i (by omega);have h2:=lonV_le hG (n:=i) (by omega);rw[lonTo_succ];unfold lonStep
  split<;>omega
end W8
namespace Go.Proofs.YtjpgnfekbojcaaaGreat
open Go.RowKit W7 W8
attribute [local go_sem] Oper.semAt_some
abbrev keyI (n:Nat):Lit:= .int .i64 (n:Int)
theorem keyI_ne {a b:Nat} (h:a≠b):keyI a≠keyI b:=fun e=>h (by injection e with _ h2;exact Int.ofNat.inj h2)
theorem keyI_is (n:Nat):WideAt.IsKeyLit (keyI n):=by simp[WideAt.IsKeyLit]
theorem keyedI:Maps.Keyed Tryz.prog 3:=Maps.int_keyed Tryz.underlying3
theorem zeroI (w:World):(zeroValue 3).run Tryz.prog w= .ok (.int .i64 0) w:=by kernel_rfl
theorem wf64 {x:Int} (h: -9223372036854775808<=x/\x<=9223372036854775807):(Lit.int .i64 x).wf=true:=by
 have h1:IntKind.i64.min= -9223372036854775808:=by decide
 have h2:IntKind.i64.max=9223372036854775807:=by decide
 simp[Lit.wf,h1,h2,h]
theorem key_of {n:Nat} (hn:n<1000000):keyOf Tryz.prog 3 (.int .i64 (n:Int))=some (keyI n):=Maps.keyOf_int_mk Tryz.underlying3 (wf64 (by omega))
theorem own_fit {w:World} {k:TypeId} {R:Value->Option (DataW Unit×List MemPlace)} {b n:Nat} {D:DataW Unit} (h:w.ownsMap Tryz.prog k R b n D):w.ownsMap Tryz.prog k R b (Maps.size D) D:=by
 obtain⟨es,clock,hb,F,_,rfl⟩:=h;exact⟨es,clock,hb,F,by simp[Maps.size,length_sorted],rfl⟩
structure MemoD (j:JobP) (D:DataW Unit):Prop where
 val:∀n,n<j.tasks.length->Maps.has D (keyI n)=true->D.atKey (keyI n) (.lit (.int .i64 0))= .lit (.int .i64 (lonV j n))
 cnt:Maps.size D=(List.range j.tasks.length).countP (fun n=>Maps.has D (keyI n))
def Memo (X:World) (mb:Nat) (j:JobP):Prop:=∃D:DataW Unit,X.ownsMap Tryz.prog 3 (plainElem Tryz.prog 3) mb (Maps.size D) D/\MemoD j D
theorem Memo.lt {X:World} {mb:Nat} {j:JobP} (h:Memo X mb j):mb<X.heap.size:=by obtain⟨D,h,_⟩:=h;exact h.lt
theorem Memo.kept {X Y:World} {mb:Nat} {j:JobP} (h:Memo X mb j) (he:Y.heap[mb]? =X.heap[mb]?):Memo Y mb j:=by
 obtain⟨D,⟨es,clock,hb,F,hs,hD⟩,hM⟩:=h;exact⟨D,⟨es,clock,he.trans hb,F,hs,hD⟩,hM⟩
theorem Memo.below {X Y:World} {mb:Nat} {j:JobP} (h:Memo X mb j) (hb:Bl X Y):Memo Y mb j:=h.kept (hb.block mb h.lt)
theorem Memo.made (w:World) (j:JobP):Memo (w.alloc (.map #[] 0)) w.heap.size j:=
 ⟨.map [],World.ownsMap_made _ _ _ _,⟨fun n _ h=>by simp[Maps.has] at h,by simp[Maps.size,Maps.has]⟩⟩
theorem count_put:∀(l:List Nat) (p q:Nat->Bool) (n:Nat),l.Nodup->n∈l->(∀k,k≠n->p k=q k)->q n=true->l.countP q=l.countP p+(if p n then 0 else 1)
 | [],_,_,_,_,h,_,_=>absurd h (by simp)
 | a::l,p,q,n,hd,h,hpq,hq=>by
  have hd2:=List.nodup_cons.1 hd
  by_cases he:a=n
  ·subst he;have e1:l.countP q=l.countP p:=List.countP_congr (fun x hx=>by rw[hpq x (fun e=>hd2.1 (e▸hx))]);rw[List.countP_cons,List.countP_cons,e1,hq];cases p a<;>simp
  ·have hm:n∈l:=by
    rcases List.mem_cons.1 h with h | h
    ·exact absurd h.symm he
    ·exact h
   have ih:=count_put l p q n hd2.2 hm hpq hq;rw[List.countP_cons,List.countP_cons,ih,hpq a he];omega
theorem MemoD.put {j:JobP} {D:DataW Unit} (h:MemoD j D) (ht:Maps.Tidy D) {n:Nat} (hn:n<j.tasks.length):MemoD j (D.put (keyI n) (.lit (.int .i64 (lonV j n)))):=by
 refine⟨fun k hk hh=> ?_,?_⟩
 ·by_cases he:k=n
  ·subst he;rw[Maps.atKey_put_same ht.isMap (keyI_is k)]
  ·rw[Maps.atKey_put_other (keyI_ne he)];rw[Maps.has_put_other (keyI_ne he)] at hh;exact h.val k hk hh
 ·rw[Maps.size_put ht];have h1:=count_put (List.range j.tasks.length) (fun n=>Maps.has D (keyI n)) (fun k=>Maps.has (D.put (keyI n) (.lit (.int .i64 (lonV j n)))) (keyI k)) n List.nodup_range (List.mem_range.2 hn) (fun k hk=>(Maps.has_put_other (keyI_ne hk) _).symm) (Maps.has_put_same ht.isMap (keyI_is n) _);rw[h1,h.cnt]
  split<;>rfl
theorem MemoD.size_le {j:JobP} {D:DataW Unit} (h:MemoD j D):Maps.size D<=j.tasks.length:=by
 rw[h.cnt];have:=List.countP_le_length (p:=fun n=>Maps.has D (keyI n)) (l:=List.range j.tasks.length)
 rwa [List.length_range] at this
theorem Kept2.of_grown {w w':World} {b:Nat} (h:w.grownBy w' (some b)):Kept2 w w' b b:=⟨h.os,h.tape,h.output,h.size,fun i hi hne _=>h.block i hi (by simpa using hne)⟩
structure LonR (j:JobP) (n mb:Nat) (w:World) (e:Ending) (w':World):Prop where
 val:e= .returned (.int .i64 (lonV j n))
 kept:Kept2 w w' mb mb
 memo:Memo w' mb j
theorem known_any (j:JobP) (n mb:Nat) (P:Value) (w:World) (hG:JGood j) (hM:Memo w mb j) (hn:n<j.tasks.length) (hc:Calls Tryz.prog 174 #[.int .i64 (n:Int),P] w (LonR j n mb w)) :
  Calls Tryz.prog 173 #[.map (some mb),.int .i64 (n:Int),.func (.func 174) #[] #[P]] w (LonR j n mb w):=by
 have h64:=hG.nt;have hlb:=lonV_le hG hn;obtain⟨D,hown,hMD⟩:=hM;have hkey:=key_of (n:=n) (by omega);have hR:=hI (show Maps.has D (keyI n)=true->LonR j n mb w (.returned (.int .i64 (lonV j n))) w from fun _=>⟨rfl,Kept2.refl _ _ _,⟨D,hown,hMD⟩⟩);have HV:=hI (fun h=>hMD.val n hn h);have HC:=hI hc;have HP:=hI (fun(X:World) (D:DataW Unit) (m:Nat) (h:X.ownsMap Tryz.prog 3 (plainElem Tryz.prog 3) mb m (D.put (keyI n) (.lit (.int .i64 (lonV j n))))) (hM:MemoD j D) (ht:Maps.Tidy D)=>show Memo X mb j from⟨_,own_fit h,hM.put ht hn⟩);generalize hL:lonV j n=L at hlb HV HC hR HP;have HL:=hI hL;clear hc hMD hL;cases hh:Maps.has D (keyI n)
 ·go_enter Tryz.func173,Tryz.ntmps173
  go_wp2_with (first
   | (at_lookup;refine wpList_lookup_own_ok_int _ rfl _ _ 163 rfl 3 3 .i64 keyedI Tryz.underlying163 Tryz.underlying3 (zeroI _) mb _ D rfl hown _ _ rfl hkey ?_;intro c hat hwc)
   | (go_at_call 174;refine HC.o.mono ?_;rintro e w1 ⟨he,hk1,D1,hown1,hMD1⟩;rw[HL.o] at he;subst he;have hs1:=hMD1.size_le;have Hk1:=hI hk1;have HM1:=hI hMD1;have HT1:=hI (hown1.tidy keyedI);clear hk1 hMD1)
   | (at_mapUpdate;refine wpList_mapUpdate_own _ rfl _ _ _ 163 rfl 3 3 keyedI Tryz.underlying163 _ mb _ D1 rfl hown1 (by unfold maxLen;omega) _ _ _ rfl rfl hkey _ [] (plainElem_int Tryz.underlying3 (wf64 (by omega))) ?_;intro w2 hown2 hgrow2))
  go_ret;exact⟨by rw[HL.o];rfl,Hk1.o.trans (Kept2.of_grown hgrow2),HP.o _ _ _ hown2 HM1.o HT1.o⟩
 ·have hat2:=HV.o hh;go_enter Tryz.func173,Tryz.ntmps173;go_wp2_with (at_lookup;refine wpList_lookup_own_ok_int _ rfl _ _ 163 rfl 3 3 .i64 keyedI Tryz.underlying163 Tryz.underlying3 (zeroI _) mb _ D rfl hown _ _ rfl hkey ?_;intro c hat hwc);go_ret
  have hcL:c=L:=by
   rw[hat2] at hat
   injection hat with h1
   injection h1 with _ h2
   exact h2.symm
  rw[hcL];exact hR.out hh
end Go.Proofs.YtjpgnfekbojcaaaGreat
