/- Works: the closed examples of the law (plain values). -/
import Derived.Test.YtjpgnfekbojcaaaGreatWTPl1
import Derived.Test.YtjpgnfekbojcaaaGreatWFail
import Derived.Test.YtjpgnfekbojcaaaGreatWAir9
set_option maxHeartbeats 8000000
set_option maxRecDepth 100000
namespace Go.Proofs.YtjpgnfekbojcaaaGreat
open Go.RowKit W7 W8
def rigU:List JUse:=[⟨0,1⟩]
def rigP:JobP:=⟨[⟨⟨#[100,114,105,108,108]⟩,4,[],rigU⟩,⟨⟨#[98,108,97,115,116]⟩,1,[0],[]⟩,⟨⟨#[109,117,99,107]⟩,3,[1],rigU⟩],[⟨⟨#[114,105,103]⟩,1,[⟨5,6⟩]⟩]⟩
theorem dig_ser:serErr rigP [2,0,1]=0/\serV rigP [2,0,1]=[0,4,7]:=⟨by kernel_rfl,by kernel_rfl⟩
theorem dig_len:lnErr rigP [0,4,7]=0/\lnV rigP [0,4,7]=10:=⟨by kernel_rfl,by kernel_rfl⟩
theorem dig_job:jobErr rigP=0:=by kernel_rfl
theorem dig_floor:floorV rigP=⟨9,[],0⟩:=by kernel_rfl
theorem dig_fail:failErr rigP [0,4,7] 2 0 3=0:=by kernel_rfl
theorem dig_failOff:failJob rigP 0 2 3=⟨rigP.tasks,[⟨⟨#[114,105,103]⟩,1,[⟨2,3⟩,⟨5,6⟩]⟩]⟩:=by kernel_rfl
theorem dig_failSt:failSt rigP [0,4,7] 2 0 3=[7,11,12]:=by kernel_rfl
theorem dig_tab (RA:Option Addr) (rc:Nat) (MA:Option Addr) (mc:Nat):tabErr ⟨RA,rc,[3],MA,mc,[1,1]⟩ [[⟨0,0,0⟩,⟨1,3,5⟩]]=0:=by kernel_rfl
theorem dig_reach (RA:Option Addr) (rc:Nat) (MA:Option Addr) (mc:Nat):reachV ⟨RA,rc,[3],MA,mc,[1,1]⟩ [[⟨0,0,0⟩,⟨1,3,5⟩]] (stopsV 1 0) 0=9:=by kernel_rfl
theorem dig_next (A:Option Addr) (c:Nat):nextR ⟨A,c,[⟨100,60,10⟩],30,100⟩ [⟨⟨#[97,110,110]⟩,100,0,50,60⟩] ⟨#[97,110,110]⟩ 100 60 0=(0,⟨⟨#[97,110,110]⟩,100,1390,1450,1460⟩):=by kernel_rfl
abbrev lineX (RA:Option Addr) (rc:Nat) (MA:Option Addr) (mc:Nat):Line:=⟨RA,rc,[3],MA,mc,[1,1]⟩
abbrev tabX:List (List TCall):=[[⟨0,0,0⟩,⟨1,3,5⟩]]
theorem dig_free (RA:Option Addr) (rc:Nat) (MA:Option Addr) (mc:Nat):freeB (lineX RA rc MA mc) tabX=true:=by
 have h1:∀(i:Nat) (t:Nat),i<2->((stAll (i:Int) (t:Int) tabX:Nat):Int)<=1:=fun i t hi=>by
  show(((stIn _ _ ⟨0,0,0⟩+(stIn _ _ ⟨1,3,5⟩+0))+0:Nat):Int)<=1
  unfold stIn
  split<;>split<;>simp_all<;>omega
 have h2:∀(t:Nat),seAll ((0:Nat):Int) (t:Int) tabX<=1:=fun t=>by
  show seIn _ _ ⟨0,0,0⟩ ⟨1,3,5⟩+0+0<=1
  unfold seIn
  split<;>omega
 unfold freeB;rw[Bool.and_eq_true,List.all_eq_true,List.all_eq_true];refine⟨fun i hi=>List.all_eq_true.2 fun t _=>decide_eq_true ?_,fun k hk=>List.all_eq_true.2 fun t _=>decide_eq_true ?_⟩
 ·have hi2:i<2:=List.mem_range.1 hi;have h3:=h1 i t hi2
  have h4:((lineX RA rc MA mc).room.getD i 0)=1:=by
   rcases i with _ | _ | i
   ·rfl
   ·rfl
   ·omega
  rw[h4];exact h3
 ·obtain rfl:k=0:=by have:k<1:=List.mem_range.1 hk;omega
  exact h2 t
theorem dig_ins (RA:Option Addr) (rc:Nat) (MA:Option Addr) (mc:Nat):insErr (lineX RA rc MA mc) tabX ⟨1,0,0⟩=0:=by
 unfold insErr;rw[if_neg (by rw[dig_tab];decide),dig_free,if_pos rfl,dig_reach]
 rfl
theorem dig_insV (RA:Option Addr) (rc:Nat) (MA:Option Addr) (mc:Nat):insV (lineX RA rc MA mc) tabX ⟨1,0,0⟩=[⟨1,6,6⟩,⟨0,9,9⟩]:=by
 unfold insV;rw[if_neg (by rw[dig_ins];decide),dig_reach]
 kernel_rfl
end Go.Proofs.YtjpgnfekbojcaaaGreat
namespace Go.Proofs.YtjpgnfekbojcaaaGreat
open Go.RowKit W7 W8
attribute [local go_sem] Oper.semAt_some
theorem sl_blk {α:Type} {enc:α->List Value} {k:Nat} (hk:∀x,(enc x).length=k) {w:World} {b B T:Nat} {cs:Array Value} {xs:List α} (h:w.heap[b]? =some (.cells cs T (0,0))) (hcs:cs.toList=xs.flatMap enc) (hb:b<B):Sl w B k enc (some ⟨b,0,none⟩) xs:=fun h0=>by
 refine⟨b,0,rfl,hb,fun i hi j v hv=> ?_⟩
 have hj:j<k:=by
  rcases Nat.lt_or_ge j k with h1 | h1
  ·exact h1
  ·rw[List.getElem?_eq_none (by rw[hk];exact h1)] at hv;cases hv
 have h2:=(flatMap_get hk xs i j hi hj).trans hv;refine bc h ?_;rw[<- Array.getElem?_toList,hcs,Nat.zero_add];exact h2
def rigJ (n:Nat):Job:=
 ⟨some ⟨n+6,0,none⟩,3,[⟨⟨⟨#[100,114,105,108,108]⟩,4,[],rigU⟩,none,0,some ⟨n+1,0,none⟩,1⟩,⟨⟨⟨#[98,108,97,115,116]⟩,1,[0],[]⟩,some ⟨n+4,0,none⟩,1,none,0⟩,⟨⟨⟨#[109,117,99,107]⟩,3,[1],rigU⟩,some ⟨n+5,0,none⟩,1,some ⟨n+1,0,none⟩,1⟩],some ⟨n+3,0,none⟩,1,[⟨⟨⟨#[114,105,103]⟩,1,[⟨5,6⟩]⟩,some ⟨n+2,0,none⟩,1⟩]⟩
theorem rigJ_p (n:Nat):(rigJ n).p=rigP:=rfl
def allocs (w:World):List Obj->World
 | []=>w
 | o::r=>allocs (w.alloc o) r
theorem allocs_below:∀(l:List Obj) (w:World),Below w.heap.size w (allocs w l)/\(allocs w l).heap.size=w.heap.size+l.length
 | [],w=>⟨Below.refl _ _,rfl⟩
 | o::r,w=>by
  obtain⟨h1,h2⟩:=allocs_below r (w.alloc o);have hs:(w.alloc o).heap.size=w.heap.size+1:=by simp
  have hb:Below w.heap.size w (w.alloc o):=(Below.refl _ _).alloc (Nat.le_refl _) _;refine⟨hb.trans (h1.mono (by omega)),?_⟩
  show(allocs (w.alloc o) r).heap.size=_
  rw[h2,hs,List.length_cons];omega
theorem allocs_at:∀(l:List Obj) (w:World) (i:Nat),i<l.length->(allocs w l).heap[w.heap.size+i]? =l[i]?
 | [],w,i,hi=>absurd hi (by simp)
 | o::r,w,0,_=>by
  have hs:(w.alloc o).heap.size=w.heap.size+1:=by simp
  show(allocs (w.alloc o) r).heap[w.heap.size+0]? =_
  rw[Nat.add_zero,(allocs_below r (w.alloc o)).1.block _ (by omega)];exact heap_alloc_new _ _
 | o::r,w,i+1,hi=>by
  have hs:(w.alloc o).heap.size=w.heap.size+1:=by simp
  have h1:=allocs_at r (w.alloc o) i (by simpa using hi);rw[hs] at h1
  show(allocs (w.alloc o) r).heap[w.heap.size+(i+1)]? =_
  rw[show w.heap.size+(i+1)=w.heap.size+1+i by omega,h1]
  rfl
theorem rig_any (w:World) :
  Calls Tryz.prog 57 #[] w fun e w'=>e= .returned (.agg #[.slice (some ⟨w.heap.size+6,0,none⟩) 3 3,.slice (some ⟨w.heap.size+3,0,none⟩) 1 1])/\JIn w' w'.heap.size (rigJ w.heap.size)/\Bl w w':=by
 go_enter Tryz.func57,Tryz.ntmps57;go_wp2;refine bodyPost_ret (v:= .agg #[.slice (some ⟨w.heap.size+6,0,none⟩) 3 3,.slice (some ⟨w.heap.size+3,0,none⟩) 1 1]) (by simp[results,Tryz.results57,go_sem]) rfl ?_
 obtain⟨X,hX⟩:∃X,X=allocs w [.cells #[.slice (some ⟨w.heap.size+6,0,none⟩) 3 3,.slice (some ⟨w.heap.size+3,0,none⟩) 1 1] 25,
  .cells #[.int .i64 0,.int .i64 1] 48,.cells #[.int .i64 5,.int .i64 6] 50,
  .cells #[.string ⟨#[114,105,103]⟩,.int .i64 1,.slice (some ⟨w.heap.size+2,0,none⟩) 1 1] 43,
  .cells #[.int .i64 0] 3,.cells #[.int .i64 1] 3,
  .cells #[.string ⟨#[100,114,105,108,108]⟩,.int .i64 4,.slice none 0 0,.slice (some ⟨w.heap.size+1,0,none⟩) 1 1,.string ⟨#[98,108,97,115,116]⟩,.int .i64 1,.slice (some ⟨w.heap.size+4,0,none⟩) 1 1,.slice none 0 0,.string ⟨#[109,117,99,107]⟩,.int .i64 3,.slice (some ⟨w.heap.size+5,0,none⟩) 1 1,.slice (some ⟨w.heap.size+1,0,none⟩) 1 1] 46]:=⟨_,rfl⟩
 refine⟨rfl,?_⟩
 suffices h:JIn X X.heap.size (rigJ w.heap.size)/\Bl w X by rw[hX] at h;exact h
 obtain⟨hB,hsz⟩:=allocs_below [.cells #[.slice (some ⟨w.heap.size+6,0,none⟩) 3 3,.slice (some ⟨w.heap.size+3,0,none⟩) 1 1] 25,
  .cells #[.int .i64 0,.int .i64 1] 48,.cells #[.int .i64 5,.int .i64 6] 50,
  .cells #[.string ⟨#[114,105,103]⟩,.int .i64 1,.slice (some ⟨w.heap.size+2,0,none⟩) 1 1] 43,
  .cells #[.int .i64 0] 3,.cells #[.int .i64 1] 3,
  .cells #[.string ⟨#[100,114,105,108,108]⟩,.int .i64 4,.slice none 0 0,.slice (some ⟨w.heap.size+1,0,none⟩) 1 1,.string ⟨#[98,108,97,115,116]⟩,.int .i64 1,.slice (some ⟨w.heap.size+4,0,none⟩) 1 1,.slice none 0 0,.string ⟨#[109,117,99,107]⟩,.int .i64 3,.slice (some ⟨w.heap.size+5,0,none⟩) 1 1,.slice (some ⟨w.heap.size+1,0,none⟩) 1 1] 46] w
 have hat:=allocs_at [.cells #[.slice (some ⟨w.heap.size+6,0,none⟩) 3 3,.slice (some ⟨w.heap.size+3,0,none⟩) 1 1] 25,
  .cells #[.int .i64 0,.int .i64 1] 48,.cells #[.int .i64 5,.int .i64 6] 50,
  .cells #[.string ⟨#[114,105,103]⟩,.int .i64 1,.slice (some ⟨w.heap.size+2,0,none⟩) 1 1] 43,
  .cells #[.int .i64 0] 3,.cells #[.int .i64 1] 3,
  .cells #[.string ⟨#[100,114,105,108,108]⟩,.int .i64 4,.slice none 0 0,.slice (some ⟨w.heap.size+1,0,none⟩) 1 1,.string ⟨#[98,108,97,115,116]⟩,.int .i64 1,.slice (some ⟨w.heap.size+4,0,none⟩) 1 1,.slice none 0 0,.string ⟨#[109,117,99,107]⟩,.int .i64 3,.slice (some ⟨w.heap.size+5,0,none⟩) 1 1,.slice (some ⟨w.heap.size+1,0,none⟩) 1 1] 46] w
 rw[<- hX] at hB hsz hat;clear hX;have hsz2:X.heap.size=w.heap.size+7:=hsz;have a1:X.heap[w.heap.size+1]? =some _:=hat 1 (by show 1<7;decide);have a2:X.heap[w.heap.size+2]? =some _:=hat 2 (by show 2<7;decide);have a3:X.heap[w.heap.size+3]? =some _:=hat 3 (by show 3<7;decide);have a4:X.heap[w.heap.size+4]? =some _:=hat 4 (by show 4<7;decide);have a5:X.heap[w.heap.size+5]? =some _:=hat 5 (by show 5<7;decide);have a6:X.heap[w.heap.size+6]? =some _:=hat 6 (by show 6<7;decide);clear hat hsz;have hu:Sl X X.heap.size 2 encUse (some ⟨w.heap.size+1,0,none⟩) rigU:=sl_blk (enc:=encUse) (B:=X.heap.size) (b:=w.heap.size+1) (fun _=>rfl) a1 rfl (by omega)
 refine⟨⟨sl_blk (enc:=encTask) (B:=X.heap.size) (b:=w.heap.size+6) (fun _=>rfl) a6 rfl (by omega),sl_blk (enc:=encRes) (B:=X.heap.size) (b:=w.heap.size+3) (fun _=>rfl) a3 rfl (by omega),Nat.le_of_ble_eq_true rfl,Nat.le_of_ble_eq_true rfl,Nat.le_of_ble_eq_true rfl,Nat.le_of_ble_eq_true rfl,fun t ht=> ?_,fun r hr=> ?_⟩,hB⟩
 ·have ht2:t∈[_,_,_]:=ht;simp only[List.mem_cons,List.not_mem_nil,or_false] at ht2;rcases ht2 with rfl | rfl | rfl
  ·exact⟨Nat.le_of_ble_eq_true rfl,Sl.nil,hu,Nat.le_of_ble_eq_true rfl,Nat.le_of_ble_eq_true rfl,Nat.le_of_ble_eq_true rfl,Nat.le_of_ble_eq_true rfl⟩
  ·exact⟨Nat.le_of_ble_eq_true rfl,sl_blk (enc:=encInt1) (B:=X.heap.size) (b:=w.heap.size+4) (fun _=>rfl) a4 rfl (by omega),Sl.nil,Nat.le_of_ble_eq_true rfl,Nat.le_of_ble_eq_true rfl,Nat.le_of_ble_eq_true rfl,Nat.le_of_ble_eq_true rfl⟩
  ·exact⟨Nat.le_of_ble_eq_true rfl,sl_blk (enc:=encInt1) (B:=X.heap.size) (b:=w.heap.size+5) (fun _=>rfl) a5 rfl (by omega),hu,Nat.le_of_ble_eq_true rfl,Nat.le_of_ble_eq_true rfl,Nat.le_of_ble_eq_true rfl,Nat.le_of_ble_eq_true rfl⟩
 ·have hr2:r∈[_]:=hr;simp only[List.mem_cons,List.not_mem_nil,or_false] at hr2;subst hr2;exact⟨Nat.le_of_ble_eq_true rfl,sl_blk (enc:=encJSpan) (B:=X.heap.size) (b:=w.heap.size+2) (fun _=>rfl) a2 rfl (by omega),Nat.le_of_ble_eq_true rfl,Nat.le_of_ble_eq_true rfl⟩
theorem rigJ_slim (n:Nat):Slim (rigJ n):=⟨Nat.le_of_ble_eq_true rfl,Nat.le_of_ble_eq_true rfl⟩
theorem rigJ_nil (n:Nat):JNil (rigJ n):=⟨fun t ht hn=>by
 have ht2:t∈[_,_,_]:=ht;simp only[List.mem_cons,List.not_mem_nil,or_false] at ht2;rcases ht2 with rfl | rfl | rfl
 ·exact⟨rfl,rfl⟩
 ·cases hn
 ·(cases hn),fun t ht hn=>by
 have ht2:t∈[_,_,_]:=ht;simp only[List.mem_cons,List.not_mem_nil,or_false] at ht2;rcases ht2 with rfl | rfl | rfl
 ·cases hn
 ·exact⟨rfl,rfl⟩
 ·(cases hn),fun r hr hn=>by
 have hr2:r∈[_]:=hr;simp only[List.mem_cons,List.not_mem_nil,or_false] at hr2;subst hr2;cases hn⟩
theorem st_blk {w:World} {b c:Nat} {st:List Int} {cs:Array Value} (h:w.heap[b]? =some (.cells cs 3 (0,0))) (hcs:cs.toList=st.flatMap encInt1) (hl:st.length<=1000) (hc:st.length<=c) (hc2:c<=9223372036854775807):StIn w w.heap.size (some ⟨b,0,none⟩) st.length c st:=
 ⟨rfl,hl,hc,hc2,sl_blk (enc:=encInt1) (fun _=>rfl) h hcs (blk_lt h)⟩
theorem ints_flat (l:List Int):l.map (Value.int .i64)=l.flatMap encInt1:=by
 induction l with
 | nil=>rfl
 | cons a l ih=>rw[List.map_cons,ih];rfl
theorem own_form {w:World} {base e size n:Nat} {v:Value} {xs:List Value} (h:w.ownsRow base e size v n xs) (hn:0<n):∃g cap,v= .slice (some ⟨g,0,none⟩) n cap/\base<=g:=by
 rcases h.2 with⟨_,h0⟩ | ⟨g,cap,cur,rfl,hb,_⟩
 ·omega
 ·exact⟨g,cap,rfl,hb⟩
theorem own_cap2 {w:World} {base e size n c:Nat} {A:Option Addr} {xs:List Value} (h:w.ownsRow base e size (.slice A n c) n xs):n<=c/\c<=9223372036854775807:=by
 obtain⟨A',c',e,h1,h2⟩:=own_cap' h;cases e;exact⟨h1,h2⟩
theorem Sl_own1 {w:World} {base e:Nat} {A:Option Addr} {c:Nat} {xs:List Int} (h:w.ownsRow base e 1 (.slice A xs.length c) xs.length (xs.flatMap encInt1)):Sl w w.heap.size 1 encInt1 A xs:=fun h0=>by
 obtain⟨g,cap,e1,hg⟩:=own_form h h0;cases e1;refine⟨g,0,rfl,(h.lt g rfl).2,fun i hi j v hv=> ?_⟩
 have hj:j<1:=by
  rcases Nat.lt_or_ge j 1 with h1 | h1
  ·exact h1
  ·rw[List.getElem?_eq_none (by exact h1)] at hv;cases hv
 have:=(h.cellAt (i*1+j) (by omega)).trans ((flatMap_get (k:=1) (enc:=encInt1) (fun _=>rfl) xs i j hi hj).trans hv)
 simpa using this
theorem sl_ints {w:World} {base n:Nat} {v:Value} {l:List Int} (h:w.ownsRow base 3 1 v l.length (l.map (Value.int .i64))) (hn:l.length=n):∃A c,v= .slice A n c/\n<=c/\c<=9223372036854775807/\Sl w w.heap.size 1 encInt1 A l:=by
 subst hn;obtain⟨A,c,rfl,h1,h2⟩:=own_cap' h;refine⟨A,c,rfl,h1,h2,?_⟩;rw[ints_flat] at h;exact Sl_own1 h
abbrev rigA (n:Nat):Value:= .agg #[.slice (some ⟨n+6,0,none⟩) 3 3,.slice (some ⟨n+3,0,none⟩) 1 1]
theorem dSer (n b:Nat) (w:World) (hj:JIn w w.heap.size (rigJ n)) (hb:w.heap[b]? =some (.cells #[.int .i64 2,.int .i64 0,.int .i64 1] 3 (0,0))) :
  Calls Tryz.prog 17 #[rigA n,.slice (some ⟨b,0,none⟩) 3 3] w fun e w'=>∃A c,e= .returned (.tuple #[.slice A 3 c,.int .i64 0])/\3<=c/\c<=9223372036854775807/\Sl w' w'.heap.size 1 encInt1 A [0,4,7]/\Bl w w':=by
 refine(Serial_any (rigJ n) [2,0,1] (some ⟨b,0,none⟩) 3 3 w.heap.size w hj (Nat.le_refl _) (rigJ_slim n) (st_blk (st:=[2,0,1]) hb rfl (by decide) (by decide) (by decide))).mono ?_;rintro e w' ⟨⟨v,rfl,ho⟩,hbel⟩;rw[rigJ_p,dig_ser.2] at ho;obtain⟨A,c,rfl,h1,h2,h3⟩:=sl_ints (n:=3) ho rfl;exact⟨A,c,by rw[rigJ_p,dig_ser.1],h1,h2,h3,hbel⟩
theorem dLen (n c:Nat) (A:Option Addr) (w:World) (hj:JIn w w.heap.size (rigJ n)) (hA:Sl w w.heap.size 1 encInt1 A [0,4,7]) (hc:3<=c) (hc2:c<=9223372036854775807) :
  Calls Tryz.prog 39 #[rigA n,.slice A 3 c] w fun e w'=>e= .returned (.tuple #[.int .i64 10,.int .i64 0])/\Bl w w':=by
 refine(Length_any (rigJ n) [0,4,7] A 3 c w.heap.size w hj (Nat.le_refl _) (rigJ_slim n) ⟨rfl,by decide,hc,hc2,hA⟩).mono ?_;rintro e w' ⟨rfl,hbel⟩;exact⟨by rw[rigJ_p,dig_len.1,dig_len.2],hbel⟩
theorem dLeast (n:Nat) (w:World) (hj:JIn w w.heap.size (rigJ n)) :
  Calls Tryz.prog 51 #[rigA n] w fun e w'=>∃A c,e= .returned (.tuple #[.agg #[.int .i64 9,.slice A 0 c,.int .i64 0],.int .i64 0])/\Bl w w':=by
 refine(Least_any (rigJ n) w.heap.size w hj (Nat.le_refl _) (rigJ_slim n)).mono ?_;rintro e w' ⟨⟨v,rfl,ho⟩,hbel⟩;rw[rigJ_p,dig_floor] at ho;obtain⟨A,c,rfl,_,_⟩:=own_cap' ho;exact⟨A,c,by rw[rigJ_p,dig_floor,dig_job];rfl,hbel⟩
theorem dFail (n b:Nat) (w:World) (hj:JIn w w.heap.size (rigJ n)) (hb:w.heap[b]? =some (.cells #[.int .i64 0,.int .i64 4,.int .i64 7] 3 (0,0))) :
  Calls Tryz.prog 22 #[rigA n,.slice (some ⟨b,0,none⟩) 3 3,.int .i64 2,.int .i64 0,.int .i64 3] w fun e w'=>∃TA tn tc g h c oc A ac,e= .returned (.tuple #[.agg #[.slice TA tn tc,.slice (some ⟨g,0,none⟩) 1 c],.slice A 3 ac,.int .i64 0])/\1<=c/\c<=9223372036854775807/\2<=oc/\oc<=9223372036854775807/\w'.cell? ⟨g,2,none⟩=some (.slice (some ⟨h,0,none⟩) 2 oc)/\w'.cell? ⟨h,0,none⟩=some (.int .i64 2)/\w'.cell? ⟨h,1,none⟩=some (.int .i64 3)/\3<=ac/\ac<=9223372036854775807/\Sl w' w'.heap.size 1 encInt1 A [7,11,12]/\Bl w w':=by
 refine(Fail_any (rigJ n) [0,4,7] 2 0 3 (some ⟨b,0,none⟩) 3 3 w.heap.size w hj (Nat.le_refl _) (rigJ_slim n) (rigJ_nil n) (st_blk (st:=[0,4,7]) hb rfl (by decide) (by decide) (by decide)) (fun _=>Nat.le_of_ble_eq_true rfl)).mono ?_;rintro e w' ⟨⟨j',v,rfl,ho,hp,hv⟩,hbel⟩;rw[rigJ_p] at hp hv ⊢;rw[dig_failSt] at hv;obtain⟨A,ac,rfl,h1,h2,h3⟩:=sl_ints (n:=3) hv rfl
 have hp2:j'.p=⟨rigP.tasks,[⟨⟨#[114,105,103]⟩,1,[⟨2,3⟩,⟨5,6⟩]⟩]⟩:=by
  rw[hp];unfold failJ;rw[if_pos dig_fail];exact dig_failOff
 obtain⟨TA,tc,tasks,RA,rc,res⟩:=j';have hres:res.map (·.p)=[⟨⟨#[114,105,103]⟩,1,[⟨2,3⟩,⟨5,6⟩]⟩]:=congrArg JobP.res hp2
 obtain⟨r,rfl⟩:∃r,res=[r]:=by
  rcases res with _ | ⟨r,_ | ⟨r2,rs⟩⟩
  ·cases hres
  ·exact⟨r,rfl⟩
  ·exact absurd (congrArg List.length hres) (by simp)
 obtain⟨rp,OA,ocr⟩:=r;have hrp:rp=⟨⟨#[114,105,103]⟩,1,[⟨2,3⟩,⟨5,6⟩]⟩:=(List.cons.inj hres).1;subst hrp;have hrow:=ho.rs.row;have hoff:=(ho.rs.rs _ (List.mem_singleton.2 rfl)).os;obtain⟨g,c,e1,_⟩:=own_form hrow (by show 0<1;decide);obtain⟨c1,c2⟩:=own_cap2 hrow;cases e1;obtain⟨h,oc,e2,_⟩:=own_form hoff (by show 0<2;decide);obtain⟨o1,o2⟩:=own_cap2 hoff;cases e2;refine⟨TA,tasks.length,tc,g,h,rc,ocr,A,ac,by rw[dig_fail];rfl,c1,c2,o1,o2,?_,?_,?_,h1,h2,h3,hbel⟩
 ·exact hrow.cellAt 2 (by show 2<1*3;decide)
 ·exact hoff.cellAt 0 (by show 0<2*2;decide)
 ·exact hoff.cellAt 1 (by show 1<2*2;decide)
theorem dNext (g b:Nat) (w:World) (hg:w.heap[g]? =some (.cells #[.int .i64 100,.int .i64 60,.int .i64 10] 89 (0,0))) (hb:w.heap[b]? =some (.cells #[.string ⟨#[97,110,110]⟩,.int .i64 100,.int .i64 0,.int .i64 50,.int .i64 60] 84 (0,0))) :
  Calls Tryz.prog 49 #[.agg #[.slice (some ⟨g,0,none⟩) 1 1,.int .i64 30,.int .i64 100],.slice (some ⟨b,0,none⟩) 1 1,.string ⟨#[97,110,110]⟩,.int .i64 100,.int .i64 60,.int .i64 0] w fun e w'=>e= .returned (.tuple #[.agg #[.string ⟨#[97,110,110]⟩,.int .i64 100,.int .i64 1390,.int .i64 1450,.int .i64 1460],.int .i64 0])/\Bl w w':=by
 refine(Next_any ⟨some ⟨g,0,none⟩,1,[⟨100,60,10⟩],30,100⟩ [⟨⟨#[97,110,110]⟩,100,0,50,60⟩] ⟨#[97,110,110]⟩ 100 60 0 (some ⟨b,0,none⟩) 1 1 w.heap.size w ⟨sl_blk (enc:=encRow) (fun _=>rfl) hg rfl (blk_lt hg),Nat.le_of_ble_eq_true rfl,Nat.le_of_ble_eq_true rfl⟩ (Nat.le_of_ble_eq_true rfl) rfl (sl_blk (enc:=encDive) (fun _=>rfl) hb rfl (blk_lt hb)) (fun h=>by cases h) (Nat.le_refl _) (by decide) (by decide) (by decide) (by decide)).mono ?_;rintro e w' ⟨rfl,hbel⟩;exact⟨by rw[dig_next];rfl,hbel⟩
def DIns (w:World) (g1 g2 b2:Nat):Prop:=
  Calls Tryz.prog 32 #[.agg #[.slice (some ⟨g1,0,none⟩) 1 1,.slice (some ⟨g2,0,none⟩) 2 2],.slice (some ⟨b2,0,none⟩) 1 1,.agg #[.int .i64 1,.int .i64 0,.int .i64 0]] w fun e w'=>∃g c,e= .returned (.tuple #[.slice (some ⟨g,0,none⟩) 2 c,.int .i64 0])/\2<=c/\c<=9223372036854775807/\(w'.cell? ⟨g,0,none⟩=some (.int .i64 1)/\w'.cell? ⟨g,1,none⟩=some (.int .i64 6)/\w'.cell? ⟨g,2,none⟩=some (.int .i64 6))/\(w'.cell? ⟨g,3,none⟩=some (.int .i64 0)/\w'.cell? ⟨g,4,none⟩=some (.int .i64 9)/\w'.cell? ⟨g,5,none⟩=some (.int .i64 9))/\Bl w w'
def DInsAll:Prop:=∀(w:World) (g1 g2 b1 b2:Nat),w.heap[g1]? =some (.cells #[.int .i64 3] 3 (0,0))->w.heap[g2]? =some (.cells #[.int .i64 1,.int .i64 1] 3 (0,0))->w.heap[b1]? =some (.cells #[.int .i64 0,.int .i64 0,.int .i64 0,.int .i64 1,.int .i64 3,.int .i64 5] 66 (0,0))->w.heap[b2]? =some (.cells #[.slice (some ⟨b1,0,none⟩) 2 2] 59 (0,0))->DIns w g1 g2 b2
theorem alloc_it (w:World) (o:Obj):∃W,W=w.alloc o/\Bl w W/\W.heap[w.heap.size]? =some o/\W.heap.size=w.heap.size+1:=
 ⟨_,rfl,(Below.refl _ _).alloc (Nat.le_refl _) _,heap_alloc_new _ _,by simp⟩
theorem two_at (w:World) (a b:Obj):((w.alloc a).alloc b).heap[w.heap.size]? =some a/\((w.alloc a).alloc b).heap[w.heap.size+1]? =some b/\Below w.heap.size w ((w.alloc a).alloc b):=
 ⟨by have:=allocs_at [a,b] w 0 (by simp);rw[Nat.add_zero] at this;exact this,allocs_at [a,b] w 1 (by simp),(allocs_below [a,b] w).1⟩
theorem bchain {a b c:World} (h:Bl a b) (k:Bl b c):Bl a c:=h.trans (k.mono h.size)
theorem ba (w:World) (o:Obj):Below w.heap.size w (w.alloc o):=(Below.refl _ _).alloc (Nat.le_refl _) _
theorem heap_in {a b:World} {i:Nat} {o:Obj} (h:Bl a b) (hi:a.heap[i]? =some o):b.heap[i]? =some o:=(h.block i (blk_lt hi)).trans hi
theorem cell_in {a b:World} {p:Addr} {v:Value} (h:Bl a b) (hi:a.cell? p=some v):b.cell? p=some v:=(h.cell (World.block_lt_of_cell? a _ hi)).trans hi
theorem sl_in {α:Type} {enc:α->List Value} {k:Nat} {a b:World} {A:Option Addr} {xs:List α} (h:Bl a b) (hs:Sl a a.heap.size k enc A xs):Sl b b.heap.size k enc A xs:=(hs.below h).mono h.size
theorem ins_at (HIns:DInsAll) (W6:World) (l0:Nat) (h0:W6.heap[l0]? =some (.cells #[.int .i64 3] 3 (0,0))) (h1:W6.heap[l0+1]? =some (.cells #[.int .i64 1,.int .i64 1] 3 (0,0))) (X:World)
  (hX:X=(W6.alloc (.cells #[.int .i64 0,.int .i64 0,.int .i64 0,.int .i64 1,.int .i64 3,.int .i64 5] 66)).alloc (.cells #[.slice (some ⟨W6.heap.size,0,none⟩) 2 2] 59)):DIns X l0 (l0+1) (W6.heap.size+1)/\Bl W6 X:=by
 obtain⟨x1,x2,x3⟩:=two_at W6 (.cells #[.int .i64 0,.int .i64 0,.int .i64 0,.int .i64 1,.int .i64 3,.int .i64 5] 66) (.cells #[.slice (some ⟨W6.heap.size,0,none⟩) 2 2] 59);rw[<- hX] at x1 x2 x3;exact⟨HIns X l0 (l0+1) W6.heap.size (W6.heap.size+1) (heap_in x3 h0) (heap_in x3 h1) x1 x2,x3⟩
theorem next_at (W8:World) (rb:Nat) (h:W8.heap[rb]? =some (.cells #[.int .i64 100,.int .i64 60,.int .i64 10] 89 (0,0))) (X:World) (hX:X=W8.alloc (.cells #[.string ⟨#[97,110,110]⟩,.int .i64 100,.int .i64 0,.int .i64 50,.int .i64 60] 84)) :
  Calls Tryz.prog 49 #[.agg #[.slice (some ⟨rb,0,none⟩) 1 1,.int .i64 30,.int .i64 100],.slice (some ⟨W8.heap.size,0,none⟩) 1 1,.string ⟨#[97,110,110]⟩,.int .i64 100,.int .i64 60,.int .i64 0] X (fun e w'=>e= .returned (.tuple #[.agg #[.string ⟨#[97,110,110]⟩,.int .i64 100,.int .i64 1390,.int .i64 1450,.int .i64 1460],.int .i64 0])/\Bl X w'):=by
 refine dNext rb W8.heap.size X ?_ ?_
 ·rw[hX];exact heap_in (ba W8 _) h
 ·rw[hX];exact heap_alloc_new _ _
theorem ints_at (W X:World) (a b c:Int) (A:Option Addr) (k:Nat) (hA:Sl W W.heap.size 1 encInt1 A [a,b,c]) (hX:X=W.alloc (.cells #[.int .i64 a,.int .i64 b,.int .i64 c] 3)) :
  Calls Tryz.prog 19 #[.slice A 3 k,.slice (some ⟨W.heap.size,0,none⟩) 3 3] X (fun e w'=>e= .returned (.bool true)/\Bl W w'):=by
 have hb:Bl W X:=by rw[hX];exact ba W _
 have hq:X.heap[W.heap.size]? =some (.cells #[.int .i64 a,.int .i64 b,.int .i64 c] 3 (0,0)):=by rw[hX];exact heap_alloc_new _ _
 refine(lawInts_any [a,b,c] A (some ⟨W.heap.size,0,none⟩) 3 k 3 X.heap.size X rfl (sl_in hb hA) (sl_blk (enc:=encInt1) (fun _=>rfl) hq rfl (blk_lt hq)) (Nat.le_refl _) (by decide)).mono ?_;rintro e w' ⟨rfl,h⟩;exact⟨rfl,bchain hb h⟩
theorem digs1_any (hIns:DInsAll) (w:World):Calls Tryz.prog 16 #[] w fun e w'=>e= .returned (.bool true)/\Bl w w':=by
 have HIns:=hI hIns;clear hIns;have HRig:=hI (rig_any w);go_enter Tryz.func16,Tryz.ntmps16;go_upto_region 2 with(go_at_call 57;go_loud (refine HRig.o.mono ?_);rintro e w1 ⟨rfl,hj,hb1⟩;have HJ:=hI (show ∀X,Bl w1 X->JIn X X.heap.size (rigJ w.heap.size) from fun X hX=>(hj.below hX).mono hX.size);have HB1:=hI hb1;clear hj hb1)
 obtain⟨W1,hW1,hb,hq,hs⟩:=alloc_it w1 (.cells #[.slice (some ⟨w.heap.size+6,0,none⟩) 3 3,.slice (some ⟨w.heap.size+3,0,none⟩) 1 1] 25);rw[<- hW1];obtain⟨jb,hjb⟩:∃x,w1.heap.size=x:=⟨_,rfl⟩
 rw[hjb] at hq;rw[hjb];have HK1:=hI (show ∀X,Bl W1 X->X.heap[jb]? =some (.cells #[.slice (some ⟨w.heap.size+6,0,none⟩) 3 3,.slice (some ⟨w.heap.size+3,0,none⟩) 1 1] 25 (0,0))/\JIn X X.heap.size (rigJ w.heap.size) from fun X hX=>⟨heap_in hX hq,HJ.o X (bchain hb hX)⟩);have HB1':=hI (show Bl w W1 from bchain HB1.o hb);have hjl:=blk_lt hq;have j0:=W7.bc (j:=0) hq rfl;have j1:=W7.bc (j:=1) hq rfl;clear hW1 hb hq hs HB1 HJ hjb;go_upto_region 3 with(go_at_call 17;go_loud (refine(dSer w.heap.size W1.heap.size _ (HK1.o _ (ba _ _)).2 (heap_alloc_new _ _)).mono ?_);rintro e w2 ⟨A2,c2,rfl,q1,q2,q3,q4⟩;have HB2:=hI (bchain (ba W1 _) q4);have HA2:=hI q3;have hs2:=HB2.o.size;clear q3 q4)
 have hq:=(HK1.o w2 HB2.o).1;have HL:=hI (dLen w.heap.size c2 A2 w2 (HK1.o w2 HB2.o).2 HA2.o q1 q2);clear j0 j1;have j0:=W7.bc (j:=0) hq rfl;have j1:=W7.bc (j:=1) hq rfl;clear hq;go_upto_region 4 with(go_at_call 39;go_loud (refine HL.o.mono ?_);rintro e w3 ⟨rfl,q3⟩;have HB3:=hI q3;clear q3)
 have HB13:=hI (bchain HB2.o HB3.o);have hq:=(HK1.o w3 HB13.o).1;have HL4:=hI (dLeast w.heap.size w3 (HK1.o w3 HB13.o).2);clear j0 j1;have j0:=W7.bc (j:=0) hq rfl;have j1:=W7.bc (j:=1) hq rfl;clear hq;have hs3:=HB13.o.size;go_upto_region 5 with(go_at_call 51;go_loud (refine HL4.o.mono ?_);rintro e w4 ⟨A4,c4,rfl,q3⟩;have HB4:=hI q3;clear q3)
 obtain⟨W4,hW4,hb,hq4,hs4⟩:=alloc_it w4 (.cells #[.int .i64 9,.slice A4 0 c4,.int .i64 0] 92);rw[<- hW4];have HB34:=hI (bchain HB4.o hb);have HB14:=hI (bchain HB13.o HB34.o);obtain⟨fb,hfb⟩:∃x,w4.heap.size=x:=⟨_,rfl⟩
 rw[hfb] at hq4;rw[hfb];have HQ4:=hI hq4;have hq:=(HK1.o W4 HB14.o).1;clear j0 j1 hW4 hb hq4 hs4 hfb;have j0:=W7.bc (j:=0) hq rfl;have j1:=W7.bc (j:=1) hq rfl;clear hq;have hs14:=HB14.o.size;have hfl:=blk_lt HQ4.o;go_upto_region 6 with(go_at_call 22;go_loud (refine(dFail w.heap.size W4.heap.size _ (HK1.o _ (bchain HB14.o (ba _ _))).2 (heap_alloc_new _ _)).mono ?_);rintro e w5 ⟨TA5,tn5,tc5,g5,h5,c5,oc5,A5,ac5,rfl,q3,q4,q5,q6,q7,q8,q9,q10,q11,q12,q13⟩;have HB5:=hI (bchain (ba W4 _) q13);have HA5:=hI q12;have HG5:=hI (And.intro q7 (And.intro q8 q9));clear q7 q8 q9 q12 q13)
 obtain⟨W5,hW5,hb5,hq5,hs5⟩:=alloc_it w5 (.cells #[.slice TA5 tn5 tc5,.slice (some ⟨g5,0,none⟩) 1 c5] 25);rw[<- hW5];obtain⟨ob,hob⟩:∃x,w5.heap.size=x:=⟨_,rfl⟩
 rw[hob] at hq5;rw[hob];have HQ5:=hI hq5;have HB5':=hI hb5;clear hW5 hb5 hq5 hs5 hob j0 j1;have HBfb:=hI (bchain HB5.o HB5'.o);go_upto_region 7 with fail;obtain⟨W6,hW6⟩:∃W6,W6=((W5.alloc (.cells #[.int .i64 3] 3)).alloc (.cells #[.int .i64 1,.int .i64 1] 3)).alloc (.cells #[.slice (some ⟨W5.heap.size,0,none⟩) 1 1,.slice (some ⟨W5.heap.size+1,0,none⟩) 2 2] 52):=⟨_,rfl⟩
 have hb6:Bl W5 W6/\W6.heap.size=W5.heap.size+3:=by rw[hW6];exact allocs_below [.cells #[.int .i64 3] 3,.cells #[.int .i64 1,.int .i64 1] 3,.cells #[.slice (some ⟨W5.heap.size,0,none⟩) 1 1,.slice (some ⟨W5.heap.size+1,0,none⟩) 2 2] 52] W5
 have ha6:∀i,i<3->W6.heap[W5.heap.size+i]? =[Obj.cells #[.int .i64 3] 3 (0,0),.cells #[.int .i64 1,.int .i64 1] 3 (0,0),.cells #[.slice (some ⟨W5.heap.size,0,none⟩) 1 1,.slice (some ⟨W5.heap.size+1,0,none⟩) 2 2] 52 (0,0)][i]? :=by rw[hW6];exact allocs_at [.cells #[.int .i64 3] 3,.cells #[.int .i64 1,.int .i64 1] 3,.cells #[.slice (some ⟨W5.heap.size,0,none⟩) 1 1,.slice (some ⟨W5.heap.size+1,0,none⟩) 2 2] 52] W5
 have HL0:=hI (show W6.heap[W5.heap.size]? =some (.cells #[.int .i64 3] 3 (0,0)) from ha6 0 (by decide));have HL1:=hI (show W6.heap[W5.heap.size+1]? =some (.cells #[.int .i64 1,.int .i64 1] 3 (0,0)) from ha6 1 (by decide));have hl2:W6.heap[W5.heap.size+2]? =some (.cells #[.slice (some ⟨W5.heap.size,0,none⟩) 1 1,.slice (some ⟨W5.heap.size+1,0,none⟩) 2 2] 52 (0,0)):=ha6 2 (by decide);rw[<- hW6];have HB6:=hI hb6.1;obtain⟨lb,hl0⟩:∃x,W5.heap.size=x:=⟨_,rfl⟩
 rw[hl0] at hl2 HL0 HL1;rw[hl0];have l0:=W7.bc (j:=0) hl2 rfl;have l1:=W7.bc (j:=1) hl2 rfl;have hll:=blk_lt hl2;clear hW6 ha6 hl2 hb6 hl0;have HI7:=hI (ins_at HIns.o W6 lb HL0.o HL1.o);go_upto_region 8 with(go_at_call 32;go_loud (refine(HI7.o _ rfl).1.mono ?_);rintro e w7 ⟨g7,c7,rfl,q7,q8,q9,q10,q11⟩;have HB7:=hI (bchain (HI7.o _ rfl).2 q11);have HG7:=hI (And.intro q9 q10);clear q9 q10 q11)
 go_upto_region 9 with fail;obtain⟨W8,hW8⟩:∃W8,W8=(w7.alloc (.cells #[.int .i64 100,.int .i64 60,.int .i64 10] 89)).alloc (.cells #[.slice (some ⟨w7.heap.size,0,none⟩) 1 1,.int .i64 30,.int .i64 100] 74):=⟨_,rfl⟩
 obtain⟨x1,x2,x3⟩:=two_at w7 (.cells #[.int .i64 100,.int .i64 60,.int .i64 10] 89) (.cells #[.slice (some ⟨w7.heap.size,0,none⟩) 1 1,.int .i64 30,.int .i64 100] 74);rw[<- hW8] at x1 x2 x3 ⊢;have HB8:=hI x3;obtain⟨rb,hrb⟩:∃x,w7.heap.size=x:=⟨_,rfl⟩
 rw[hrb] at x1 x2;rw[hrb];have HR8:=hI x1;have r0:=W7.bc (j:=0) x2 rfl;have r1:=W7.bc (j:=1) x2 rfl;have r2:=W7.bc (j:=2) x2 rfl;have hrl:=blk_lt x2;clear hW8 x1 x2 x3 hrb;have HN9:=hI (next_at W8 rb HR8.o);go_upto_region 10 with(go_at_call 49;go_loud (refine(HN9.o _ rfl).mono ?_);rintro e w9 ⟨rfl,q9⟩;have HB9:=hI (bchain (ba W8 _) q9);clear q9)
 obtain⟨W9,hW9,hb9,hq9,hs9⟩:=alloc_it w9 (.cells #[.string ⟨#[97,110,110]⟩,.int .i64 100,.int .i64 1390,.int .i64 1450,.int .i64 1460] 84);rw[<- hW9];obtain⟨db,hdb⟩:∃x,w9.heap.size=x:=⟨_,rfl⟩
 rw[hdb] at hq9;rw[hdb];have HD9:=hI hq9;have HB79:=hI (bchain HB8.o (bchain HB9.o hb9));have HB59:=hI (bchain HB6.o (bchain HB7.o HB79.o));have HB5w:=hI (bchain HB5'.o HB59.o);have HB49:=hI (bchain HB5.o HB5w.o);have HB29:=hI (bchain HB3.o (bchain HB34.o HB49.o));have HB9w:=hI (show Bl w W9 from bchain HB1'.o (bchain HB2.o HB29.o));have ho9:=heap_in HB59.o HQ5.o;have o1:=bc (j:=1) ho9 rfl;have g2:=cell_in HB5w.o HG5.o.1;have y0:=cell_in HB79.o HG7.o.1.1;have y1:=cell_in HB79.o HG7.o.1.2.1;have y2:=cell_in HB79.o HG7.o.1.2.2;have y3:=cell_in HB79.o HG7.o.2.1;have y4:=cell_in HB79.o HG7.o.2.2.1;have y5:=cell_in HB79.o HG7.o.2.2.2;have hg5l:=World.block_lt_of_cell? W9 _ g2;have hg7l:=World.block_lt_of_cell? W9 _ y0;have hol:=blk_lt ho9;clear hW9 hb9 hq9 hs9 hdb ho9;go_upto_region 14 with fail;have HI1:=hI (fun(X:World)=>ints_at W9 X 0 4 7 A2 c2 (sl_in HB29.o HA2.o));clear o1 g2 y0 y1 y2 y3 y4 y5
 go_wp2_with (go_at_call 19;fail)
 go_loud (refine(HI1.o _ rfl).mono ?_)
 rintro e w10 ⟨rfl,q10⟩;have HB10:=hI q10;have hs10:=q10.size;have HA10:=hI (sl_in (bchain HB5w.o q10) HA5.o);have HI2:=hI (fun(X:World)=>ints_at w10 X 7 11 12 A5 ac5 HA10.o);have hf:=heap_in (bchain HB49.o q10) HQ4.o;have f0:=W7.bc (j:=0) hf rfl;have f1:=W7.bc (j:=1) hf rfl;have f2:=W7.bc (j:=2) hf rfl;clear hf q10;go_wp2_with (go_at_call 19;fail)
 go_loud (refine(HI2.o _ rfl).mono ?_)
 rintro e w11 ⟨rfl,q11⟩;have hs11:=q11.size;have HBe:=hI (bchain HB10.o q11);have hol11:ob<w11.heap.size:=by omega
 have hg511:g5<w11.heap.size:=by omega
 have o1:=bc (j:=1) (heap_in HBe.o (heap_in HB59.o HQ5.o)) rfl;have g2:=cell_in HBe.o (cell_in HB5w.o HG5.o.1);have h0:=cell_in HBe.o (cell_in HB5w.o HG5.o.2.1);have h1:=cell_in HBe.o (cell_in HB5w.o HG5.o.2.2);have hd:=heap_in HBe.o HD9.o;have d0:=W7.bc (j:=0) hd rfl;have d1:=W7.bc (j:=1) hd rfl;have d2:=W7.bc (j:=2) hd rfl;have d3:=W7.bc (j:=3) hd rfl;have d4:=W7.bc (j:=4) hd rfl;clear hd q11;go_wp2;go_ret;exact⟨rfl,bchain HB9w.o HBe.o⟩
end Go.Proofs.YtjpgnfekbojcaaaGreat
