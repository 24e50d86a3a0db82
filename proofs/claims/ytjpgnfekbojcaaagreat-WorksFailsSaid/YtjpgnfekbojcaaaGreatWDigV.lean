/- Works: the closed examples of the law (plain values). -/
import Derived.Test.YtjpgnfekbojcaaaGreatWTSpec
import Derived.Test.YtjpgnfekbojcaaaGreatWFail
import Derived.Test.YtjpgnfekbojcaaaGreatWAir9
set_option maxHeartbeats 2000000
set_option maxRecDepth 100000
namespace Go.Proofs.YtjpgnfekbojcaaaGreat
open Go.RowKit W7 W8
def rigU:List JUse:=[⟨0,1⟩]
def rigP:JobP:=⟨[⟨⟨#[100,114,105,108,108]⟩,4,[],rigU⟩,⟨⟨#[98,108,97,115,116]⟩,1,[0],[]⟩,⟨⟨#[109,117,99,107]⟩,3,[1],rigU⟩],[⟨⟨#[114,105,103]⟩,1,[⟨5,6⟩]⟩]⟩
theorem dig_ser:serErr rigP [2,0,1]=0/\serV rigP [2,0,1]=[0,4,7]:=⟨by kernel_rfl,by kernel_rfl⟩
theorem dig_len:lnErr rigP [0,4,7]=0/\lnV rigP [0,4,7]=10:=⟨by kernel_rfl,by kernel_rfl⟩
theorem dig_job:jobErr rigP=0:=by kernel_rfl
theorem dig_floor:floorV rigP=⟨9,[],0⟩:=by kernel_rfl
theorem dig_fail:failErr rigP [0,4,7] 2 0 3=0:=by kernel_rfl
theorem dig_failOff:failJob rigP 0 2 3=⟨rigP.tasks,[⟨⟨#[114,105,103]⟩,1,[⟨2,3⟩,⟨5,6⟩]⟩]⟩:=by kernel_rfl
theorem dig_failSt:failSt rigP [0,4,7] 2 0 3=[7,11,12]:=by kernel_rfl
theorem dig_tab (RA:Option Addr) (rc:Nat) (MA:Option Addr) (mc:Nat):tabErr ⟨RA,rc,[3],MA,mc,[1,1]⟩ [[⟨0,0,0⟩,⟨1,3,5⟩]]=0:=by kernel_rfl
theorem dig_reach (RA:Option Addr) (rc:Nat) (MA:Option Addr) (mc:Nat):reachV ⟨RA,rc,[3],MA,mc,[1,1]⟩ [[⟨0,0,0⟩,⟨1,3,5⟩]] (stopsV 1 0) 0=9:=by kernel_rfl
theorem dig_next (A:Option Addr) (c:Nat):nextR ⟨A,c,[⟨100,60,10⟩],30,100⟩ [⟨⟨#[97,110,110]⟩,100,0,50,60⟩] ⟨#[97,110,110]⟩ 100 60 0=(0,⟨⟨#[97,110,110]⟩,100,1390,1450,1460⟩):=by kernel_rfl
abbrev lineX (RA:Option Addr) (rc:Nat) (MA:Option Addr) (mc:Nat):Line:=⟨RA,rc,[3],MA,mc,[1,1]⟩
abbrev tabX:List (List TCall):=[[⟨0,0,0⟩,⟨1,3,5⟩]]
theorem dig_free (RA:Option Addr) (rc:Nat) (MA:Option Addr) (mc:Nat):freeB (lineX RA rc MA mc) tabX=true:=by
 have h1:∀(i:Nat) (t:Nat),i<2->((stAll (i:Int) (t:Int) tabX:Nat):Int)<=1:=fun i t hi=>by
  show(((stIn _ _ ⟨0,0,0⟩+(stIn _ _ ⟨1,3,5⟩+0))+0:Nat):Int)<=1
  unfold stIn
  split<;>split<;>simp_all<;>omega
 have h2:∀(t:Nat),seAll ((0:Nat):Int) (t:Int) tabX<=1:=fun t=>by
  show seIn _ _ ⟨0,0,0⟩ ⟨1,3,5⟩+0+0<=1
  unfold seIn
  split<;>omega
 unfold freeB;rw[Bool.and_eq_true,List.all_eq_true,List.all_eq_true];refine⟨fun i hi=>List.all_eq_true.2 fun t _=>decide_eq_true ?_,fun k hk=>List.all_eq_true.2 fun t _=>decide_eq_true ?_⟩
 ·have hi2:i<2:=List.mem_range.1 hi;have h3:=h1 i t hi2
  have h4:((lineX RA rc MA mc).room.getD i 0)=1:=by
   rcases i with _ | _ | i
   ·rfl
   ·rfl
   ·omega
  rw[h4];exact h3
 ·obtain rfl:k=0:=by have:k<1:=List.mem_range.1 hk;omega
  exact h2 t
theorem dig_ins (RA:Option Addr) (rc:Nat) (MA:Option Addr) (mc:Nat):insErr (lineX RA rc MA mc) tabX ⟨1,0,0⟩=0:=by
 unfold insErr;rw[if_neg (by rw[dig_tab];decide),dig_free,if_pos rfl,dig_reach]
 rfl
theorem dig_insV (RA:Option Addr) (rc:Nat) (MA:Option Addr) (mc:Nat):insV (lineX RA rc MA mc) tabX ⟨1,0,0⟩=[⟨1,6,6⟩,⟨0,9,9⟩]:=by
 unfold insV;rw[if_neg (by rw[dig_ins];decide),dig_reach]
 kernel_rfl
end Go.Proofs.YtjpgnfekbojcaaaGreat
namespace Go.Proofs.YtjpgnfekbojcaaaGreat
open Go.RowKit W7 W8
attribute [local go_sem] Oper.semAt_some
theorem sl_blk {α:Type} {enc:α->List Value} {k:Nat} (hk:∀x,(enc x).length=k) {w:World} {b B T:Nat} {cs:Array Value} {xs:List α} (h:w.heap[b]? =some (.cells cs T (0,0))) (hcs:cs.toList=xs.flatMap enc) (hb:b<B):Sl w B k enc (some ⟨b,0,none⟩) xs:=fun h0=>by
 refine⟨b,0,rfl,hb,fun i hi j v hv=> ?_⟩
 have hj:j<k:=by
  rcases Nat.lt_or_ge j k with h1 | h1
  ·exact h1
  ·rw[List.getElem?_eq_none (by rw[hk];exact h1)] at hv;cases hv
 have h2:=(flatMap_get hk xs i j hi hj).trans hv;refine bc h ?_;rw[<- Array.getElem?_toList,hcs,Nat.zero_add];exact h2
def rigJ (n:Nat):Job:=
 ⟨some ⟨n+6,0,none⟩,3,[⟨⟨⟨#[100,114,105,108,108]⟩,4,[],rigU⟩,none,0,some ⟨n+1,0,none⟩,1⟩,⟨⟨⟨#[98,108,97,115,116]⟩,1,[0],[]⟩,some ⟨n+4,0,none⟩,1,none,0⟩,⟨⟨⟨#[109,117,99,107]⟩,3,[1],rigU⟩,some ⟨n+5,0,none⟩,1,some ⟨n+1,0,none⟩,1⟩],some ⟨n+3,0,none⟩,1,[⟨⟨⟨#[114,105,103]⟩,1,[⟨5,6⟩]⟩,some ⟨n+2,0,none⟩,1⟩]⟩
theorem rigJ_p (n:Nat):(rigJ n).p=rigP:=rfl
def allocs (w:World):List Obj->World
 | []=>w
 | o::r=>allocs (w.alloc o) r
theorem allocs_below:∀(l:List Obj) (w:World),Below w.heap.size w (allocs w l)/\(allocs w l).heap.size=w.heap.size+l.length
 | [],w=>⟨Below.refl _ _,rfl⟩
 | o::r,w=>by
  obtain⟨h1,h2⟩:=allocs_below r (w.alloc o);have hs:(w.alloc o).heap.size=w.heap.size+1:=by simp
  have hb:Below w.heap.size w (w.alloc o):=(Below.refl _ _).alloc (Nat.le_refl _) _;refine⟨hb.trans (h1.mono (by omega)),?_⟩
  show(allocs (w.alloc o) r).heap.size=_
  rw[h2,hs,List.length_cons];omega
theorem allocs_at:∀(l:List Obj) (w:World) (i:Nat),i<l.length->(allocs w l).heap[w.heap.size+i]? =l[i]?
 | [],w,i,hi=>absurd hi (by simp)
 | o::r,w,0,_=>by
  have hs:(w.alloc o).heap.size=w.heap.size+1:=by simp
  show(allocs (w.alloc o) r).heap[w.heap.size+0]? =_
  rw[Nat.add_zero,(allocs_below r (w.alloc o)).1.block _ (by omega)];exact heap_alloc_new _ _
 | o::r,w,i+1,hi=>by
  have hs:(w.alloc o).heap.size=w.heap.size+1:=by simp
  have h1:=allocs_at r (w.alloc o) i (by simpa using hi);rw[hs] at h1
  show(allocs (w.alloc o) r).heap[w.heap.size+(i+1)]? =_
  rw[show w.heap.size+(i+1)=w.heap.size+1+i by omega,h1]
  rfl
theorem rig_any (w:World) :
  Calls Tryz.prog 57 #[] w fun e w'=>e= .returned (.agg #[.slice (some ⟨w.heap.size+6,0,none⟩) 3 3,.slice (some ⟨w.heap.size+3,0,none⟩) 1 1])/\JIn w' w'.heap.size (rigJ w.heap.size)/\Bl w w':=by
 go_enter Tryz.func57,Tryz.ntmps57;go_wp2;refine bodyPost_ret (v:= .agg #[.slice (some ⟨w.heap.size+6,0,none⟩) 3 3,.slice (some ⟨w.heap.size+3,0,none⟩) 1 1]) (by simp[results,Tryz.results57,go_sem]) rfl ?_
 obtain⟨X,hX⟩:∃X,X=allocs w [.cells #[.slice (some ⟨w.heap.size+6,0,none⟩) 3 3,.slice (some ⟨w.heap.size+3,0,none⟩) 1 1] 25,
  .cells #[.int .i64 0,.int .i64 1] 48,.cells #[.int .i64 5,.int .i64 6] 50,
  .cells #[.string ⟨#[114,105,103]⟩,.int .i64 1,.slice (some ⟨w.heap.size+2,0,none⟩) 1 1] 43,
  .cells #[.int .i64 0] 3,.cells #[.int .i64 1] 3,
  .cells #[.string ⟨#[100,114,105,108,108]⟩,.int .i64 4,.slice none 0 0,.slice (some ⟨w.heap.size+1,0,none⟩) 1 1,.string ⟨#[98,108,97,115,116]⟩,.int .i64 1,.slice (some ⟨w.heap.size+4,0,none⟩) 1 1,.slice none 0 0,.string ⟨#[109,117,99,107]⟩,.int .i64 3,.slice (some ⟨w.heap.size+5,0,none⟩) 1 1,.slice (some ⟨w.heap.size+1,0,none⟩) 1 1] 46]:=⟨_,rfl⟩
 refine⟨rfl,?_⟩
 suffices h:JIn X X.heap.size (rigJ w.heap.size)/\Bl w X by rw[hX] at h;exact h
 obtain⟨hB,hsz⟩:=allocs_below [.cells #[.slice (some ⟨w.heap.size+6,0,none⟩) 3 3,.slice (some ⟨w.heap.size+3,0,none⟩) 1 1] 25,
  .cells #[.int .i64 0,.int .i64 1] 48,.cells #[.int .i64 5,.int .i64 6] 50,
  .cells #[.string ⟨#[114,105,103]⟩,.int .i64 1,.slice (some ⟨w.heap.size+2,0,none⟩) 1 1] 43,
  .cells #[.int .i64 0] 3,.cells #[.int .i64 1] 3,
  .cells #[.string ⟨#[100,114,105,108,108]⟩,.int .i64 4,.slice none 0 0,.slice (some ⟨w.heap.size+1,0,none⟩) 1 1,.string ⟨#[98,108,97,115,116]⟩,.int .i64 1,.slice (some ⟨w.heap.size+4,0,none⟩) 1 1,.slice none 0 0,.string ⟨#[109,117,99,107]⟩,.int .i64 3,.slice (some ⟨w.heap.size+5,0,none⟩) 1 1,.slice (some ⟨w.heap.size+1,0,none⟩) 1 1] 46] w
 have hat:=allocs_at [.cells #[.slice (some ⟨w.heap.size+6,0,none⟩) 3 3,.slice (some ⟨w.heap.size+3,0,none⟩) 1 1] 25,
  .cells #[.int .i64 0,.int .i64 1] 48,.cells #[.int .i64 5,.int .i64 6] 50,
  .cells #[.string ⟨#[114,105,103]⟩,.int .i64 1,.slice (some ⟨w.heap.size+2,0,none⟩) 1 1] 43,
  .cells #[.int .i64 0] 3,.cells #[.int .i64 1] 3,
  .cells #[.string ⟨#[100,114,105,108,108]⟩,.int .i64 4,.slice none 0 0,.slice (some ⟨w.heap.size+1,0,none⟩) 1 1,.string ⟨#[98,108,97,115,116]⟩,.int .i64 1,.slice (some ⟨w.heap.size+4,0,none⟩) 1 1,.slice none 0 0,.string ⟨#[109,117,99,107]⟩,.int .i64 3,.slice (some ⟨w.heap.size+5,0,none⟩) 1 1,.slice (some ⟨w.heap.size+1,0,none⟩) 1 1] 46] w
 rw[<- hX] at hB hsz hat;clear hX;have hsz2:X.heap.size=w.heap.size+7:=hsz;have a1:X.heap[w.heap.size+1]? =some _:=hat 1 (by show 1<7;decide);have a2:X.heap[w.heap.size+2]? =some _:=hat 2 (by show 2<7;decide);have a3:X.heap[w.heap.size+3]? =some _:=hat 3 (by show 3<7;decide);have a4:X.heap[w.heap.size+4]? =some _:=hat 4 (by show 4<7;decide);have a5:X.heap[w.heap.size+5]? =some _:=hat 5 (by show 5<7;decide);have a6:X.heap[w.heap.size+6]? =some _:=hat 6 (by show 6<7;decide);clear hat hsz;have hu:Sl X X.heap.size 2 encUse (some ⟨w.heap.size+1,0,none⟩) rigU:=sl_blk (enc:=encUse) (B:=X.heap.size) (b:=w.heap.size+1) (fun _=>rfl) a1 rfl (by omega)
 refine⟨⟨sl_blk (enc:=encTask) (B:=X.heap.size) (b:=w.heap.size+6) (fun _=>rfl) a6 rfl (by omega),sl_blk (enc:=encRes) (B:=X.heap.size) (b:=w.heap.size+3) (fun _=>rfl) a3 rfl (by omega),Nat.le_of_ble_eq_true rfl,Nat.le_of_ble_eq_true rfl,Nat.le_of_ble_eq_true rfl,Nat.le_of_ble_eq_true rfl,fun t ht=> ?_,fun r hr=> ?_⟩,hB⟩
 ·have ht2:t∈[_,_,_]:=ht;simp only[List.mem_cons,List.not_mem_nil,or_false] at ht2;rcases ht2 with rfl | rfl | rfl
  ·exact⟨Nat.le_of_ble_eq_true rfl,Sl.nil,hu,Nat.le_of_ble_eq_true rfl,Nat.le_of_ble_eq_true rfl,Nat.le_of_ble_eq_true rfl,Nat.le_of_ble_eq_true rfl⟩
  ·exact⟨Nat.le_of_ble_eq_true rfl,sl_blk (enc:=encInt1) (B:=X.heap.size) (b:=w.heap.size+4) (fun _=>rfl) a4 rfl (by omega),Sl.nil,Nat.le_of_ble_eq_true rfl,Nat.le_of_ble_eq_true rfl,Nat.le_of_ble_eq_true rfl,Nat.le_of_ble_eq_true rfl⟩
  ·exact⟨Nat.le_of_ble_eq_true rfl,sl_blk (enc:=encInt1) (B:=X.heap.size) (b:=w.heap.size+5) (fun _=>rfl) a5 rfl (by omega),hu,Nat.le_of_ble_eq_true rfl,Nat.le_of_ble_eq_true rfl,Nat.le_of_ble_eq_true rfl,Nat.le_of_ble_eq_true rfl⟩
 ·have hr2:r∈[_]:=hr;simp only[List.mem_cons,List.not_mem_nil,or_false] at hr2;subst hr2;exact⟨Nat.le_of_ble_eq_true rfl,sl_blk (enc:=encJSpan) (B:=X.heap.size) (b:=w.heap.size+2) (fun _=>rfl) a2 rfl (by omega),Nat.le_of_ble_eq_true rfl,Nat.le_of_ble_eq_true rfl⟩
theorem rigJ_slim (n:Nat):Slim (rigJ n):=⟨Nat.le_of_ble_eq_true rfl,Nat.le_of_ble_eq_true rfl⟩
theorem rigJ_nil (n:Nat):JNil (rigJ n):=⟨fun t ht hn=>by
 have ht2:t∈[_,_,_]:=ht;simp only[List.mem_cons,List.not_mem_nil,or_false] at ht2;rcases ht2 with rfl | rfl | rfl
 ·exact⟨rfl,rfl⟩
 ·cases hn
 ·(cases hn),fun t ht hn=>by
 have ht2:t∈[_,_,_]:=ht;simp only[List.mem_cons,List.not_mem_nil,or_false] at ht2;rcases ht2 with rfl | rfl | rfl
 ·cases hn
 ·exact⟨rfl,rfl⟩
 ·(cases hn),fun r hr hn=>by
 have hr2:r∈[_]:=hr;simp only[List.mem_cons,List.not_mem_nil,or_false] at hr2;subst hr2;cases hn⟩
theorem st_blk {w:World} {b c:Nat} {st:List Int} {cs:Array Value} (h:w.heap[b]? =some (.cells cs 3 (0,0))) (hcs:cs.toList=st.flatMap encInt1) (hl:st.length<=1000) (hc:st.length<=c) (hc2:c<=9223372036854775807):StIn w w.heap.size (some ⟨b,0,none⟩) st.length c st:=
 ⟨rfl,hl,hc,hc2,sl_blk (enc:=encInt1) (fun _=>rfl) h hcs (blk_lt h)⟩
theorem ints_flat (l:List Int):l.map (Value.int .i64)=l.flatMap encInt1:=by
 induction l with
 | nil=>rfl
 | cons a l ih=>rw[List.map_cons,ih];rfl
theorem own_form {w:World} {base e size n:Nat} {v:Value} {xs:List Value} (h:w.ownsRow base e size v n xs) (hn:0<n):∃g cap,v= .slice (some ⟨g,0,none⟩) n cap/\base<=g:=by
 rcases h.2 with⟨_,h0⟩ | ⟨g,cap,cur,rfl,hb,_⟩
 ·omega
 ·exact⟨g,cap,rfl,hb⟩
theorem own_cap2 {w:World} {base e size n c:Nat} {A:Option Addr} {xs:List Value} (h:w.ownsRow base e size (.slice A n c) n xs):n<=c/\c<=9223372036854775807:=by
 obtain⟨A',c',e,h1,h2⟩:=own_cap' h;cases e;exact⟨h1,h2⟩
theorem Sl_own1 {w:World} {base e:Nat} {A:Option Addr} {c:Nat} {xs:List Int} (h:w.ownsRow base e 1 (.slice A xs.length c) xs.length (xs.flatMap encInt1)):Sl w w.heap.size 1 encInt1 A xs:=fun h0=>by
 obtain⟨g,cap,e1,hg⟩:=own_form h h0;cases e1;refine⟨g,0,rfl,(h.lt g rfl).2,fun i hi j v hv=> ?_⟩
 have hj:j<1:=by
  rcases Nat.lt_or_ge j 1 with h1 | h1
  ·exact h1
  ·rw[List.getElem?_eq_none (by exact h1)] at hv;cases hv
 have:=(h.cellAt (i*1+j) (by omega)).trans ((flatMap_get (k:=1) (enc:=encInt1) (fun _=>rfl) xs i j hi hj).trans hv)
 simpa using this
theorem sl_ints {w:World} {base n:Nat} {v:Value} {l:List Int} (h:w.ownsRow base 3 1 v l.length (l.map (Value.int .i64))) (hn:l.length=n):∃A c,v= .slice A n c/\n<=c/\c<=9223372036854775807/\Sl w w.heap.size 1 encInt1 A l:=by
 subst hn;obtain⟨A,c,rfl,h1,h2⟩:=own_cap' h;refine⟨A,c,rfl,h1,h2,?_⟩;rw[ints_flat] at h;exact Sl_own1 h
abbrev rigA (n:Nat):Value:= .agg #[.slice (some ⟨n+6,0,none⟩) 3 3,.slice (some ⟨n+3,0,none⟩) 1 1]
theorem dSer (n b:Nat) (w:World) (hj:JIn w w.heap.size (rigJ n)) (hb:w.heap[b]? =some (.cells #[.int .i64 2,.int .i64 0,.int .i64 1] 3 (0,0))) :
  Calls Tryz.prog 17 #[rigA n,.slice (some ⟨b,0,none⟩) 3 3] w fun e w'=>∃A c,e= .returned (.tuple #[.slice A 3 c,.int .i64 0])/\3<=c/\c<=9223372036854775807/\Sl w' w'.heap.size 1 encInt1 A [0,4,7]/\Bl w w':=by
 refine(Serial_any (rigJ n) [2,0,1] (some ⟨b,0,none⟩) 3 3 w.heap.size w hj (Nat.le_refl _) (rigJ_slim n) (st_blk (st:=[2,0,1]) hb rfl (by decide) (by decide) (by decide))).mono ?_;rintro e w' ⟨⟨v,rfl,ho⟩,hbel⟩;rw[rigJ_p,dig_ser.2] at ho;obtain⟨A,c,rfl,h1,h2,h3⟩:=sl_ints (n:=3) ho rfl;exact⟨A,c,by rw[rigJ_p,dig_ser.1],h1,h2,h3,hbel⟩
theorem dLen (n c:Nat) (A:Option Addr) (w:World) (hj:JIn w w.heap.size (rigJ n)) (hA:Sl w w.heap.size 1 encInt1 A [0,4,7]) (hc:3<=c) (hc2:c<=9223372036854775807) :
  Calls Tryz.prog 39 #[rigA n,.slice A 3 c] w fun e w'=>e= .returned (.tuple #[.int .i64 10,.int .i64 0])/\Bl w w':=by
 refine(Length_any (rigJ n) [0,4,7] A 3 c w.heap.size w hj (Nat.le_refl _) (rigJ_slim n) ⟨rfl,by decide,hc,hc2,hA⟩).mono ?_;rintro e w' ⟨rfl,hbel⟩;exact⟨by rw[rigJ_p,dig_len.1,dig_len.2],hbel⟩
theorem dLeast (n:Nat) (w:World) (hj:JIn w w.heap.size (rigJ n)) :
  Calls Tryz.prog 51 #[rigA n] w fun e w'=>∃A c,e= .returned (.tuple #[.agg #[.int .i64 9,.slice A 0 c,.int .i64 0],.int .i64 0])/\Bl w w':=by
 refine(Least_any (rigJ n) w.heap.size w hj (Nat.le_refl _) (rigJ_slim n)).mono ?_;rintro e w' ⟨⟨v,rfl,ho⟩,hbel⟩;rw[rigJ_p,dig_floor] at ho;obtain⟨A,c,rfl,_,_⟩:=own_cap' ho;exact⟨A,c,by rw[rigJ_p,dig_floor,dig_job];rfl,hbel⟩
theorem dFail (n b:Nat) (w:World) (hj:JIn w w.heap.size (rigJ n)) (hb:w.heap[b]? =some (.cells #[.int .i64 0,.int .i64 4,.int .i64 7] 3 (0,0))) :
  Calls Tryz.prog 22 #[rigA n,.slice (some ⟨b,0,none⟩) 3 3,.int .i64 2,.int .i64 0,.int .i64 3] w fun e w'=>∃TA tn tc g h c oc A ac,e= .returned (.tuple #[.agg #[.slice TA tn tc,.slice (some ⟨g,0,none⟩) 1 c],.slice A 3 ac,.int .i64 0])/\1<=c/\c<=9223372036854775807/\2<=oc/\oc<=9223372036854775807/\w'.cell? ⟨g,2,none⟩=some (.slice (some ⟨h,0,none⟩) 2 oc)/\w'.cell? ⟨h,0,none⟩=some (.int .i64 2)/\w'.cell? ⟨h,1,none⟩=some (.int .i64 3)/\3<=ac/\ac<=9223372036854775807/\Sl w' w'.heap.size 1 encInt1 A [7,11,12]/\Bl w w':=by
 refine(Fail_any (rigJ n) [0,4,7] 2 0 3 (some ⟨b,0,none⟩) 3 3 w.heap.size w hj (Nat.le_refl _) (rigJ_slim n) (rigJ_nil n) (st_blk (st:=[0,4,7]) hb rfl (by decide) (by decide) (by decide)) (fun _=>Nat.le_of_ble_eq_true rfl)).mono ?_;rintro e w' ⟨⟨j',v,rfl,ho,hp,hv⟩,hbel⟩;rw[rigJ_p] at hp hv ⊢;rw[dig_failSt] at hv;obtain⟨A,ac,rfl,h1,h2,h3⟩:=sl_ints (n:=3) hv rfl
 have hp2:j'.p=⟨rigP.tasks,[⟨⟨#[114,105,103]⟩,1,[⟨2,3⟩,⟨5,6⟩]⟩]⟩:=by
  rw[hp];unfold failJ;rw[if_pos dig_fail];exact dig_failOff
 obtain⟨TA,tc,tasks,RA,rc,res⟩:=j';have hres:res.map (·.p)=[⟨⟨#[114,105,103]⟩,1,[⟨2,3⟩,⟨5,6⟩]⟩]:=congrArg JobP.res hp2
 obtain⟨r,rfl⟩:∃r,res=[r]:=by
  rcases res with _ | ⟨r,_ | ⟨r2,rs⟩⟩
  ·cases hres
  ·exact⟨r,rfl⟩
  ·exact absurd (congrArg List.length hres) (by simp)
 obtain⟨rp,OA,ocr⟩:=r;have hrp:rp=⟨⟨#[114,105,103]⟩,1,[⟨2,3⟩,⟨5,6⟩]⟩:=(List.cons.inj hres).1;subst hrp;have hrow:=ho.rs.row;have hoff:=(ho.rs.rs _ (List.mem_singleton.2 rfl)).os;obtain⟨g,c,e1,_⟩:=own_form hrow (by show 0<1;decide);obtain⟨c1,c2⟩:=own_cap2 hrow;cases e1;obtain⟨h,oc,e2,_⟩:=own_form hoff (by show 0<2;decide);obtain⟨o1,o2⟩:=own_cap2 hoff;cases e2;refine⟨TA,tasks.length,tc,g,h,rc,ocr,A,ac,by rw[dig_fail];rfl,c1,c2,o1,o2,?_,?_,?_,h1,h2,h3,hbel⟩
 ·exact hrow.cellAt 2 (by show 2<1*3;decide)
 ·exact hoff.cellAt 0 (by show 0<2*2;decide)
 ·exact hoff.cellAt 1 (by show 1<2*2;decide)
theorem dNext (g b:Nat) (w:World) (hg:w.heap[g]? =some (.cells #[.int .i64 100,.int .i64 60,.int .i64 10] 89 (0,0))) (hb:w.heap[b]? =some (.cells #[.string ⟨#[97,110,110]⟩,.int .i64 100,.int .i64 0,.int .i64 50,.int .i64 60] 84 (0,0))) :
  Calls Tryz.prog 49 #[.agg #[.slice (some ⟨g,0,none⟩) 1 1,.int .i64 30,.int .i64 100],.slice (some ⟨b,0,none⟩) 1 1,.string ⟨#[97,110,110]⟩,.int .i64 100,.int .i64 60,.int .i64 0] w fun e w'=>e= .returned (.tuple #[.agg #[.string ⟨#[97,110,110]⟩,.int .i64 100,.int .i64 1390,.int .i64 1450,.int .i64 1460],.int .i64 0])/\Bl w w':=by
 refine(Next_any ⟨some ⟨g,0,none⟩,1,[⟨100,60,10⟩],30,100⟩ [⟨⟨#[97,110,110]⟩,100,0,50,60⟩] ⟨#[97,110,110]⟩ 100 60 0 (some ⟨b,0,none⟩) 1 1 w.heap.size w ⟨sl_blk (enc:=encRow) (fun _=>rfl) hg rfl (blk_lt hg),Nat.le_of_ble_eq_true rfl,Nat.le_of_ble_eq_true rfl⟩ (Nat.le_of_ble_eq_true rfl) rfl (sl_blk (enc:=encDive) (fun _=>rfl) hb rfl (blk_lt hb)) (fun h=>by cases h) (Nat.le_refl _) (by decide) (by decide) (by decide) (by decide)).mono ?_;rintro e w' ⟨rfl,hbel⟩;exact⟨by rw[dig_next];rfl,hbel⟩
end Go.Proofs.YtjpgnfekbojcaaaGreat
