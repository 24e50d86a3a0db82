/- Works: the closed examples of the law (digs). -/
import Derived.Test.YtjpgnfekbojcaaaGreatWTPl1
import Derived.Test.YtjpgnfekbojcaaaGreatWRJob8
set_option maxHeartbeats 16000000
set_option maxRecDepth 100000
namespace Go.Proofs.YtjpgnfekbojcaaaGreat
open Go.RowKit W7 W8
attribute [local go_sem] Oper.semAt_some
theorem sl_blk {α:Type} {enc:α->List Value} {k:Nat} (hk:∀x,(enc x).length=k) {w:World} {b B T:Nat} {cs:Array Value} {xs:List α} (h:w.heap[b]? =some (.cells cs T (0,0))) (hcs:cs.toList=xs.flatMap enc) (hb:b<B):Sl w B k enc (some ⟨b,0,none⟩) xs:=fun h0=>by
 refine⟨b,0,rfl,hb,fun i hi j v hv=> ?_⟩
 have hj:j<k:=by
  rcases Nat.lt_or_ge j k with h1 | h1
  ·exact h1
  ·rw[List.getElem?_eq_none (by rw[hk];exact h1)] at hv;cases hv
 have h2:=(flatMap_get hk xs i j hi hj).trans hv;refine bc h ?_;rw[<- Array.getElem?_toList,hcs,Nat.zero_add];exact h2
def rigJ (n:Nat):Job:=
 ⟨some ⟨n+6,0,none⟩,3,[⟨⟨⟨#[100,114,105,108,108]⟩,4,[],rigU⟩,none,0,some ⟨n+1,0,none⟩,1⟩,⟨⟨⟨#[98,108,97,115,116]⟩,1,[0],[]⟩,some ⟨n+4,0,none⟩,1,none,0⟩,⟨⟨⟨#[109,117,99,107]⟩,3,[1],rigU⟩,some ⟨n+5,0,none⟩,1,some ⟨n+1,0,none⟩,1⟩],some ⟨n+3,0,none⟩,1,[⟨⟨⟨#[114,105,103]⟩,1,[⟨5,6⟩]⟩,some ⟨n+2,0,none⟩,1⟩]⟩
theorem rigJ_p (n:Nat):(rigJ n).p=rigP:=rfl
def allocs (w:World):List Obj->World
 | []=>w
 | o::r=>allocs (w.alloc o) r
theorem allocs_below:∀(l:List Obj) (w:World),Below w.heap.size w (allocs w l)/\(allocs w l).heap.size=w.heap.size+l.length
 | [],w=>⟨zX _ _,rfl⟩
 | o::r,w=>by
  obtain⟨h1,h2⟩:=allocs_below r (w.alloc o);have hs:(w.alloc o).heap.size=w.heap.size+1:=by simp
  have hb:Below w.heap.size w (w.alloc o):=(zX _ _).alloc (zm _) _;refine⟨hb.trans (h1.mono (by omega)),?_⟩
  show(allocs (w.alloc o) r).heap.size=_
  rw[h2,hs,List.length_cons];omega
theorem allocs_at:∀(l:List Obj) (w:World) (i:Nat),i<l.length->(allocs w l).heap[w.heap.size+i]? =l[i]?
 | [],w,i,hi=>absurd hi (by simp)
 | o::r,w,0,_=>by
  have hs:(w.alloc o).heap.size=w.heap.size+1:=by simp
  show(allocs (w.alloc o) r).heap[w.heap.size+0]? =_
  rw[Nat.add_zero,(allocs_below r (w.alloc o)).1.block _ (by omega)];exact zW _ _
 | o::r,w,i+1,hi=>by
  have hs:(w.alloc o).heap.size=w.heap.size+1:=by simp
  have h1:=allocs_at r (w.alloc o) i (by simpa using hi);rw[hs] at h1
  show(allocs (w.alloc o) r).heap[w.heap.size+(i+1)]? =_
  rw[show w.heap.size+(i+1)=w.heap.size+1+i by omega,h1]
  rfl
theorem rig_any (w:World) :
  Calls Tryz.prog 57 #[] w fun e w'=>e= .returned (.agg #[.slice (some ⟨w.heap.size+6,0,none⟩) 3 3,.slice (some ⟨w.heap.size+3,0,none⟩) 1 1])/\JIn w' w'.heap.size (rigJ w.heap.size)/\Bl w w':=by
 go_enter Tryz.func57,Tryz.ntmps57;go_wp2;refine bodyPost_ret (v:= .agg #[.slice (some ⟨w.heap.size+6,0,none⟩) 3 3,.slice (some ⟨w.heap.size+3,0,none⟩) 1 1]) (by simp[results,Tryz.results57,go_sem]) rfl ?_
 obtain⟨X,hX⟩:∃X,X=allocs w [.cells #[.slice (some ⟨w.heap.size+6,0,none⟩) 3 3,.slice (some ⟨w.heap.size+3,0,none⟩) 1 1] 25,
  .cells #[.int .i64 0,.int .i64 1] 48,.cells #[.int .i64 5,.int .i64 6] 50,
  .cells #[.string ⟨#[114,105,103]⟩,.int .i64 1,.slice (some ⟨w.heap.size+2,0,none⟩) 1 1] 43,
  .cells #[.int .i64 0] 3,.cells #[.int .i64 1] 3,
  .cells #[.string ⟨#[100,114,105,108,108]⟩,.int .i64 4,.slice none 0 0,.slice (some ⟨w.heap.size+1,0,none⟩) 1 1,.string ⟨#[98,108,97,115,116]⟩,.int .i64 1,.slice (some ⟨w.heap.size+4,0,none⟩) 1 1,.slice none 0 0,.string ⟨#[109,117,99,107]⟩,.int .i64 3,.slice (some ⟨w.heap.size+5,0,none⟩) 1 1,.slice (some ⟨w.heap.size+1,0,none⟩) 1 1] 46]:=⟨_,rfl⟩
 refine⟨rfl,?_⟩
 suffices h:JIn X X.heap.size (rigJ w.heap.size)/\Bl w X by rw[hX] at h;exact h
 obtain⟨hB,hsz⟩:=allocs_below [.cells #[.slice (some ⟨w.heap.size+6,0,none⟩) 3 3,.slice (some ⟨w.heap.size+3,0,none⟩) 1 1] 25,
  .cells #[.int .i64 0,.int .i64 1] 48,.cells #[.int .i64 5,.int .i64 6] 50,
  .cells #[.string ⟨#[114,105,103]⟩,.int .i64 1,.slice (some ⟨w.heap.size+2,0,none⟩) 1 1] 43,
  .cells #[.int .i64 0] 3,.cells #[.int .i64 1] 3,
  .cells #[.string ⟨#[100,114,105,108,108]⟩,.int .i64 4,.slice none 0 0,.slice (some ⟨w.heap.size+1,0,none⟩) 1 1,.string ⟨#[98,108,97,115,116]⟩,.int .i64 1,.slice (some ⟨w.heap.size+4,0,none⟩) 1 1,.slice none 0 0,.string ⟨#[109,117,99,107]⟩,.int .i64 3,.slice (some ⟨w.heap.size+5,0,none⟩) 1 1,.slice (some ⟨w.heap.size+1,0,none⟩) 1 1] 46] w
 have hat:=allocs_at [.cells #[.slice (some ⟨w.heap.size+6,0,none⟩) 3 3,.slice (some ⟨w.heap.size+3,0,none⟩) 1 1] 25,
  .cells #[.int .i64 0,.int .i64 1] 48,.cells #[.int .i64 5,.int .i64 6] 50,
  .cells #[.string ⟨#[114,105,103]⟩,.int .i64 1,.slice (some ⟨w.heap.size+2,0,none⟩) 1 1] 43,
  .cells #[.int .i64 0] 3,.cells #[.int .i64 1] 3,
  .cells #[.string ⟨#[100,114,105,108,108]⟩,.int .i64 4,.slice none 0 0,.slice (some ⟨w.heap.size+1,0,none⟩) 1 1,.string ⟨#[98,108,97,115,116]⟩,.int .i64 1,.slice (some ⟨w.heap.size+4,0,none⟩) 1 1,.slice none 0 0,.string ⟨#[109,117,99,107]⟩,.int .i64 3,.slice (some ⟨w.heap.size+5,0,none⟩) 1 1,.slice (some ⟨w.heap.size+1,0,none⟩) 1 1] 46] w
 rw[<- hX] at hB hsz hat;clear hX;have hsz2:X.heap.size=w.heap.size+7:=hsz;have a1:X.heap[w.heap.size+1]? =some _:=hat 1 (by show 1<7;decide);have a2:X.heap[w.heap.size+2]? =some _:=hat 2 (by show 2<7;decide);have a3:X.heap[w.heap.size+3]? =some _:=hat 3 (by show 3<7;decide);have a4:X.heap[w.heap.size+4]? =some _:=hat 4 (by show 4<7;decide);have a5:X.heap[w.heap.size+5]? =some _:=hat 5 (by show 5<7;decide);have a6:X.heap[w.heap.size+6]? =some _:=hat 6 (by show 6<7;decide);clear hat hsz;have hu:Sl X X.heap.size 2 encUse (some ⟨w.heap.size+1,0,none⟩) rigU:=sl_blk (enc:=encUse) (B:=X.heap.size) (b:=w.heap.size+1) (fun _=>rfl) a1 rfl (by omega)
 refine⟨⟨sl_blk (enc:=encTask) (B:=X.heap.size) (b:=w.heap.size+6) (fun _=>rfl) a6 rfl (by omega),sl_blk (enc:=encRes) (B:=X.heap.size) (b:=w.heap.size+3) (fun _=>rfl) a3 rfl (by omega),zM rfl,zM rfl,zM rfl,zM rfl,fun t ht=> ?_,fun r hr=> ?_⟩,hB⟩
 ·have ht2:t∈[_,_,_]:=ht;simp only[List.mem_cons,List.not_mem_nil,or_false] at ht2;rcases ht2 with rfl | rfl | rfl
  ·exact⟨zM rfl,Sl.nil,hu,zM rfl,zM rfl,zM rfl,zM rfl⟩
  ·exact⟨zM rfl,sl_blk (enc:=encInt1) (B:=X.heap.size) (b:=w.heap.size+4) (fun _=>rfl) a4 rfl (by omega),Sl.nil,zM rfl,zM rfl,zM rfl,zM rfl⟩
  ·exact⟨zM rfl,sl_blk (enc:=encInt1) (B:=X.heap.size) (b:=w.heap.size+5) (fun _=>rfl) a5 rfl (by omega),hu,zM rfl,zM rfl,zM rfl,zM rfl⟩
 ·have hr2:r∈[_]:=hr;simp only[List.mem_cons,List.not_mem_nil,or_false] at hr2;subst hr2;exact⟨zM rfl,sl_blk (enc:=encJSpan) (B:=X.heap.size) (b:=w.heap.size+2) (fun _=>rfl) a2 rfl (by omega),zM rfl,zM rfl⟩
theorem rigJ_slim (n:Nat):Slim (rigJ n):=⟨zM rfl,zM rfl⟩
theorem rigJ_nil (n:Nat):JNil (rigJ n):=⟨fun t ht hn=>by
 have ht2:t∈[_,_,_]:=ht;simp only[List.mem_cons,List.not_mem_nil,or_false] at ht2;rcases ht2 with rfl | rfl | rfl
 ·exact⟨rfl,rfl⟩
 ·cases hn
 ·(cases hn),fun t ht hn=>by
 have ht2:t∈[_,_,_]:=ht;simp only[List.mem_cons,List.not_mem_nil,or_false] at ht2;rcases ht2 with rfl | rfl | rfl
 ·cases hn
 ·exact⟨rfl,rfl⟩
 ·(cases hn),fun r hr hn=>by
 have hr2:r∈[_]:=hr;simp only[List.mem_cons,List.not_mem_nil,or_false] at hr2;subst hr2;cases hn⟩
theorem st_blk {w:World} {b c:Nat} {st:List Int} {cs:Array Value} (h:w.heap[b]? =some (.cells cs 3 (0,0))) (hcs:cs.toList=st.flatMap encInt1) (hl:st.length<=1000) (hc:st.length<=c) (hc2:c<=9223372036854775807):StIn w w.heap.size (some ⟨b,0,none⟩) st.length c st:=
 ⟨rfl,hl,hc,hc2,sl_blk (enc:=encInt1) (fun _=>rfl) h hcs (blk_lt h)⟩
theorem ints_flat (l:List Int):l.map (Value.int .i64)=l.flatMap encInt1:=by
 induction l with
 | nil=>rfl
 | cons a l ih=>rw[List.map_cons,ih];rfl
theorem own_form {w:World} {base e size n:Nat} {v:Value} {xs:List Value} (h:w.ownsRow base e size v n xs) (hn:0<n):∃g cap,v= .slice (some ⟨g,0,none⟩) n cap/\base<=g:=by
 rcases h.2 with⟨_,h0⟩ | ⟨g,cap,cur,rfl,hb,_⟩
 ·omega
 ·exact⟨g,cap,rfl,hb⟩
theorem own_cap2 {w:World} {base e size n c:Nat} {A:Option Addr} {xs:List Value} (h:w.ownsRow base e size (.slice A n c) n xs):n<=c/\c<=9223372036854775807:=by
 obtain⟨A',c',e,h1,h2⟩:=own_cap' h;cases e;exact⟨h1,h2⟩
theorem Sl_own1 {w:World} {base e:Nat} {A:Option Addr} {c:Nat} {xs:List Int} (h:w.ownsRow base e 1 (.slice A xs.length c) xs.length (xs.flatMap encInt1)):Sl w w.heap.size 1 encInt1 A xs:=fun h0=>by
 obtain⟨g,cap,e1,hg⟩:=own_form h h0;cases e1;refine⟨g,0,rfl,(h.lt g rfl).2,fun i hi j v hv=> ?_⟩
 have hj:j<1:=by
  rcases Nat.lt_or_ge j 1 with h1 | h1
  ·exact h1
  ·rw[List.getElem?_eq_none (by exact h1)] at hv;cases hv
 have:=(h.cellAt (i*1+j) (by omega)).trans ((flatMap_get (k:=1) (enc:=encInt1) (fun _=>rfl) xs i j hi hj).trans hv)
 simpa using this
theorem sl_ints {w:World} {base n:Nat} {v:Value} {l:List Int} (h:w.ownsRow base 3 1 v l.length (l.map (Value.int .i64))) (hn:l.length=n):∃A c,v= .slice A n c/\n<=c/\c<=9223372036854775807/\Sl w w.heap.size 1 encInt1 A l:=by
 subst hn;obtain⟨A,c,rfl,h1,h2⟩:=own_cap' h;refine⟨A,c,rfl,h1,h2,?_⟩;rw[ints_flat] at h;exact Sl_own1 h
abbrev rigA (n:Nat):Value:= .agg #[.slice (some ⟨n+6,0,none⟩) 3 3,.slice (some ⟨n+3,0,none⟩) 1 1]
theorem dSer (n b:Nat) (w:World) (hj:JIn w w.heap.size (rigJ n)) (hb:w.heap[b]? =some (.cells #[.int .i64 2,.int .i64 0,.int .i64 1] 3 (0,0))) :
  Calls Tryz.prog 17 #[rigA n,.slice (some ⟨b,0,none⟩) 3 3] w fun e w'=>∃A c,e= .returned (.tuple #[.slice A 3 c,.int .i64 0])/\3<=c/\c<=9223372036854775807/\Sl w' w'.heap.size 1 encInt1 A [0,4,7]/\Bl w w':=by
 refine(Serial_any (rigJ n) [2,0,1] (some ⟨b,0,none⟩) 3 3 w.heap.size w hj (zm _) (rigJ_slim n) (st_blk (st:=[2,0,1]) hb rfl (by decide) (by decide) (by decide))).mono ?_;rintro e w' ⟨⟨v,rfl,ho⟩,hbel⟩;rw[rigJ_p,dig_ser.2] at ho;obtain⟨A,c,rfl,h1,h2,h3⟩:=sl_ints (n:=3) ho rfl;exact⟨A,c,by rw[rigJ_p,dig_ser.1],h1,h2,h3,hbel⟩
theorem dLen (n c:Nat) (A:Option Addr) (w:World) (hj:JIn w w.heap.size (rigJ n)) (hA:Sl w w.heap.size 1 encInt1 A [0,4,7]) (hc:3<=c) (hc2:c<=9223372036854775807) :
  Calls Tryz.prog 39 #[rigA n,.slice A 3 c] w fun e w'=>e= .returned (.tuple #[.int .i64 10,.int .i64 0])/\Bl w w':=by
 refine(Length_any (rigJ n) [0,4,7] A 3 c w.heap.size w hj (zm _) (rigJ_slim n) ⟨rfl,by decide,hc,hc2,hA⟩).mono ?_;rintro e w' ⟨rfl,hbel⟩;exact⟨by rw[rigJ_p,dig_len.1,dig_len.2],hbel⟩
theorem dLeast (n:Nat) (w:World) (hj:JIn w w.heap.size (rigJ n)) :
  Calls Tryz.prog 51 #[rigA n] w fun e w'=>∃A c,e= .returned (.tuple #[.agg #[.int .i64 9,.slice A 0 c,.int .i64 0],.int .i64 0])/\Bl w w':=by
 refine(Least_any (rigJ n) w.heap.size w hj (zm _) (rigJ_slim n)).mono ?_;rintro e w' ⟨⟨v,rfl,ho⟩,hbel⟩;rw[rigJ_p,dig_floor] at ho;obtain⟨A,c,rfl,_,_⟩:=own_cap' ho;exact⟨A,c,by rw[rigJ_p,dig_floor,dig_job];rfl,hbel⟩
theorem dFail (n b:Nat) (w:World) (hj:JIn w w.heap.size (rigJ n)) (hb:w.heap[b]? =some (.cells #[.int .i64 0,.int .i64 4,.int .i64 7] 3 (0,0))) :
  Calls Tryz.prog 22 #[rigA n,.slice (some ⟨b,0,none⟩) 3 3,.int .i64 2,.int .i64 0,.int .i64 3] w fun e w'=>∃TA tn tc g h c oc A ac,e= .returned (.tuple #[.agg #[.slice TA tn tc,.slice (some ⟨g,0,none⟩) 1 c],.slice A 3 ac,.int .i64 0])/\1<=c/\c<=9223372036854775807/\2<=oc/\oc<=9223372036854775807/\w'.cell? ⟨g,2,none⟩=some (.slice (some ⟨h,0,none⟩) 2 oc)/\w'.cell? ⟨h,0,none⟩=some (.int .i64 2)/\w'.cell? ⟨h,1,none⟩=some (.int .i64 3)/\3<=ac/\ac<=9223372036854775807/\Sl w' w'.heap.size 1 encInt1 A [7,11,12]/\Bl w w':=by
 refine(Fail_any (rigJ n) [0,4,7] 2 0 3 (some ⟨b,0,none⟩) 3 3 w.heap.size w hj (zm _) (rigJ_slim n) (rigJ_nil n) (st_blk (st:=[0,4,7]) hb rfl (by decide) (by decide) (by decide)) (fun _=>zM rfl)).mono ?_;rintro e w' ⟨⟨j',v,rfl,ho,hp,hv⟩,hbel⟩;rw[rigJ_p] at hp hv ⊢;rw[dig_failSt] at hv;obtain⟨A,ac,rfl,h1,h2,h3⟩:=sl_ints (n:=3) hv rfl
 have hp2:j'.p=⟨rigP.tasks,[⟨⟨#[114,105,103]⟩,1,[⟨2,3⟩,⟨5,6⟩]⟩]⟩:=by
  rw[hp];unfold failJ;rw[if_pos dig_fail];exact dig_failOff
 obtain⟨TA,tc,tasks,RA,rc,res⟩:=j';have hres:res.map (·.p)=[⟨⟨#[114,105,103]⟩,1,[⟨2,3⟩,⟨5,6⟩]⟩]:=congrArg JobP.res hp2
 obtain⟨r,rfl⟩:∃r,res=[r]:=by
  rcases res with _ | ⟨r,_ | ⟨r2,rs⟩⟩
  ·cases hres
  ·exact⟨r,rfl⟩
  ·exact absurd (congrArg List.length hres) (by simp)
 obtain⟨rp,OA,ocr⟩:=r;have hrp:rp=⟨⟨#[114,105,103]⟩,1,[⟨2,3⟩,⟨5,6⟩]⟩:=(List.cons.inj hres).1;subst hrp;have hrow:=ho.rs.row;have hoff:=(ho.rs.rs _ (zN.2 rfl)).os;obtain⟨g,c,e1,_⟩:=own_form hrow (by show 0<1;decide);obtain⟨c1,c2⟩:=own_cap2 hrow;cases e1;obtain⟨h,oc,e2,_⟩:=own_form hoff (by show 0<2;decide);obtain⟨o1,o2⟩:=own_cap2 hoff;cases e2;refine⟨TA,tasks.length,tc,g,h,rc,ocr,A,ac,by rw[dig_fail];rfl,c1,c2,o1,o2,?_,?_,?_,h1,h2,h3,hbel⟩
 ·exact hrow.cellAt 2 (by show 2<1*3;decide)
 ·exact hoff.cellAt 0 (by show 0<2*2;decide)
 ·exact hoff.cellAt 1 (by show 1<2*2;decide)
theorem dNext (g b:Nat) (w:World) (hg:w.heap[g]? =some (.cells #[.int .i64 100,.int .i64 60,.int .i64 10] 89 (0,0))) (hb:w.heap[b]? =some (.cells #[.string ⟨#[97,110,110]⟩,.int .i64 100,.int .i64 0,.int .i64 50,.int .i64 60] 84 (0,0))) :
  Calls Tryz.prog 49 #[.agg #[.slice (some ⟨g,0,none⟩) 1 1,.int .i64 30,.int .i64 100],.slice (some ⟨b,0,none⟩) 1 1,.string ⟨#[97,110,110]⟩,.int .i64 100,.int .i64 60,.int .i64 0] w fun e w'=>e= .returned (.tuple #[.agg #[.string ⟨#[97,110,110]⟩,.int .i64 100,.int .i64 1390,.int .i64 1450,.int .i64 1460],.int .i64 0])/\Bl w w':=by
 refine(Next_any ⟨some ⟨g,0,none⟩,1,[⟨100,60,10⟩],30,100⟩ [⟨⟨#[97,110,110]⟩,100,0,50,60⟩] ⟨#[97,110,110]⟩ 100 60 0 (some ⟨b,0,none⟩) 1 1 w.heap.size w ⟨sl_blk (enc:=encRow) (fun _=>rfl) hg rfl (blk_lt hg),zM rfl,zM rfl⟩ (zM rfl) rfl (sl_blk (enc:=encDive) (fun _=>rfl) hb rfl (blk_lt hb)) (fun h=>by cases h) (zm _) (by decide) (by decide) (by decide) (by decide)).mono ?_;rintro e w' ⟨rfl,hbel⟩;exact⟨by rw[dig_next];rfl,hbel⟩
end Go.Proofs.YtjpgnfekbojcaaaGreat
namespace W8
open W7 Go
def isFalse:Value->Bool
 | .bool false=>true
 | _=>false
theorem countF:∀(l:List Bool),(l.map Value.bool).countP isFalse=l.count false
 | []=>rfl
 | x::l=>by
  rw[List.map_cons,List.countP_cons,List.count_cons,countF l];cases x<;>rfl
theorem notPl_pos {j:JobP} {pl:List Bool} {k:Nat} (hk:k<pl.length) (h:mayB j pl k=true):0<notPl pl:=by
 have h1:=(may_parts.1 h).1;have:=notPl_set hk h1;omega
end W8
namespace Go.Proofs.YtjpgnfekbojcaaaGreat
open Go.RowKit W7 W8
attribute [local go_sem] Oper.semAt_some
theorem map_tail {l:List Int} {tl:List Value} {n:Nat} (h:n<l.length):(l.map (Value.int .i64)++tl).toArray[n]? =some (.int .i64 (l.getD n 0)):=by
 rw[List.getElem?_toArray,List.getElem?_append_left (by rw[List.length_map];exact h),List.getElem?_map,zA,zB h]
 rfl
theorem sl_tail {X:World} {sb T:Nat} {l:List Int} {tl:List Value} (h:X.heap[sb]? =some (.cells (l.map (Value.int .i64)++tl).toArray T (0,0))):Sl X X.heap.size 1 encInt1 (some ⟨sb,0,none⟩) l:=fun h0=>by
 refine⟨sb,0,rfl,blk_lt h,fun i hi k v hv=> ?_⟩
 have hk:k=0:=by
  have h5:=(List.getElem?_eq_some_iff.1 hv).1;simp[encInt1] at h5;exact h5
 subst hk;simp only[encInt1,zR,Option.some.injEq] at hv;subst hv;rw[Nat.mul_one,Nat.zero_add,Nat.add_zero];have h2:=map_tail (tl:=tl) hi;rw[zA,zB hi] at h2;exact bc h h2
structure RB2 (X:World) (sb pb n:Nat) (tl:List Value) (b:Bd):Prop where
 st:X.heap[sb]? =some (.cells (b.st.map (Value.int .i64)++tl).toArray 3 (0,0))
 pl:X.heap[pb]? =some (.cells (b.pl.map Value.bool).toArray 4 (0,0))
 ns:b.st.length=n
 np:b.pl.length=n
theorem RB2.rbd {X:World} {sb pb n:Nat} {tl:List Value} {b:Bd} (h:RB2 X sb pb n tl b):RBd X (some ⟨sb,0,none⟩) pb n b:=
 ⟨sl_tail h.st,h.pl,h.ns,h.np⟩
theorem RB2.below {X Y:World} {sb pb n:Nat} {tl:List Value} {b:Bd} (h:RB2 X sb pb n tl b) (hb:Bl X Y):RB2 Y sb pb n tl b:=
 ⟨(hb.block _ (blk_lt h.st)).trans h.st,(hb.block _ (blk_lt h.pl)).trans h.pl,h.ns,h.np⟩
theorem RB2.put {X:World} {sb pb n k:Nat} {tl:List Value} {b:Bd} {s:Int} (h:RB2 X sb pb n tl b) (hne:sb≠pb) (hk:k<n) :
  RB2 ((X.setCell ⟨sb,k,none⟩ (.int .i64 s)).setCell ⟨pb,k,none⟩ (.bool true)) sb pb n tl (b.put k s):=by
 refine⟨?_,?_,by unfold Bd.put;simp[h.ns],by unfold Bd.put;simp[h.np]⟩
 ·rw[blk_set_ne (Ne.symm hne),blk_set h.st]
  congr 2
  unfold Bd.put;rw[List.setIfInBounds_toArray,List.set_append_left _ _ (by rw[List.length_map,h.ns];exact hk),List.map_set]
 ·rw[blk_set ((blk_set_ne hne _).trans h.pl)];simp[Bd.put,List.map_set]
def unplW (pb:Nat) (X:World):Nat:=match X.heap[pb]? with
 | some (.cells cs _ _)=>cs.toList.countP isFalse
 | _=>0
theorem RB2.unpl {X:World} {sb pb n:Nat} {tl:List Value} {b:Bd} (h:RB2 X sb pb n tl b):unplW pb X=notPl b.pl:=by
 unfold unplW notPl;rw[h.pl];exact countF b.pl
theorem refSer_any (tl:List Value) (sc9:Nat) (j:Job) (fr:Int) (order:List Int) (OA:Option Addr) (oc sb pb n m f B:Nat) (b:Bd) (w:World) (hj:JIn w B j) (hBs:B<=sb) (hBp:B<=pb) (hne:sb≠pb) (hR:RB2 w sb pb n tl b) (hn:j.tasks.length=n) (hG:JGood j.p) (hs:BOk b) (hfr:0<=fr/\fr<=200000)
  (hord:∀x∈order,0<=x/\x<(n:Int)) (hm:order.length=m) (hm2:m<=1000) (hmo:m<=oc) (hoc:oc<=9223372036854775807) (hO:∀X,Kept2 w X sb pb->Sl X X.heap.size 1 encInt1 OA order) (hf:notPl b.pl<=f) :
  Calls Tryz.prog 67 #[jobV j,.slice OA m oc,.slice (some ⟨sb,0,none⟩) n sc9,.slice (some ⟨pb,0,none⟩) n n,.int .i64 fr] w fun e w'=>e= .returned (.bool (serialGo j.p fr order f b).1)/\Kept2 w w' sb pb/\RB2 w' sb pb n tl (serialGo j.p fr order f b).2:=by
 have hn64:n<=64:=by have:=hG.nt;rw[j.nt,hn] at this;exact this
 have hsb:=blk_lt hR.st;have hpb:=blk_lt hR.pl;obtain⟨TA,hTA⟩:=eX j.TA;have htl:=hj.tl;have htc:=hj.tc;rw[hn] at htl;have hjv:jobV j= .agg #[.slice TA n j.tc,.slice j.RA j.res.length j.rc]:=by unfold jobV;rw[hn,hTA]
 obtain⟨SG,hSG⟩:=eX (serialGo j.p fr order f b);rw[hjv,hSG];obtain⟨W0,HW0,hs0,HB0,HX00,HU0⟩:=boxes1 w (.cells #[.slice TA n j.tc,.slice j.RA j.res.length j.rc] 25);have HK0:=hI (show Kept2 w W0 sb pb from Kept2.of_below HB0.o);have HX:=hI (show ∀X:World,Kept2 W0 X sb pb->X.heap[w.heap.size]? =some (.cells #[.slice TA n j.tc,.slice j.RA j.res.length j.rc] 25 (0,0)) from fun X hX=>(hX.block _ (by omega) (by omega) (by omega)).trans (HX00.o W0 (zX _ _)));have HJ:=hI (show ∀X:World,Kept2 W0 X sb pb->JIn X B j from fun X hX=>hj.below ((HK0.o.trans hX).below hBs hBp (by omega)))
 have HEa:=hI (fun(X:World) (hX:Kept2 W0 X sb pb) (bd:Bd) (hr:RB2 X sb pb n tl bd) (ho:BOk bd) (k:Nat) (hk:k<n)=>show Calls Tryz.prog 136 #[.agg #[.slice TA n j.tc,.slice j.RA j.res.length j.rc],.slice (some ⟨sb,0,none⟩) n sc9,.slice (some ⟨pb,0,none⟩) n n,.int .i64 (k:Int),.int .i64 fr] X fun e w'=>∃v,e= .returned (.int .i64 v)/\LeastT (fitsR j.p bd k) fr v/\Bl X w' from by
  have h:=refEarliest_any j bd (some ⟨sb,0,none⟩) sc9 pb n k fr B X (hj.below ((HK0.o.trans hX).below hBs hBp (by omega))) (by have:=hX.size;omega) hr.rbd hn hG ho hk ⟨hfr.1,by omega⟩;rw[hjv] at h;exact h)
 have HOc:=hI (show ∀X:World,Kept2 W0 X sb pb->∀i (hi:i<order.length),∃ob oo,OA=some ⟨ob,oo,none⟩/\ob<X.heap.size/\X.cell? ⟨ob,oo+i,none⟩=some (.int .i64 (order[i]'hi)) from fun X hX i hi=>by
  obtain⟨ob,oo,h1,h2,h3⟩:=hO X (HK0.o.trans hX) (by omega);have h:=h3 i hi 0 _ rfl;rw[Nat.mul_one,Nat.add_zero] at h;exact⟨ob,oo,h1,h2,h⟩)
 have Hn:=hI hn;have Hm:=hI hm;have HTA:=hI hTA;have HG:=hI hG;have Hord:=hI hord;have Hne:=hI hne;have HR0:=hI (hR.below HB0.o);have Hs0:=hI hs;have HSG:=hI hSG;have Hf:=hI hf;have HKw:=hI (show ∀X:World,Kept2 W0 X sb pb->Kept2 w X sb pb from fun X hX=>HK0.o.trans hX);clear hj hR hn hG hTA hjv hord hne hO hm hs hSG hf;go_enter Tryz.func67,Tryz.ntmps67;go_upto_region 1 with fail;rw[<- HW0.o];go_loopw [11] (fun v11 wr=>∃(bd:Bd) (g:Nat),Hid (Kept2 W0 wr sb pb)/\Hid (RB2 wr sb pb n tl bd)/\Hid (BOk bd)/\Hid (notPl bd.pl<=g)/\Hid (serialGo j.p fr order g bd=SG)) (fun _ wr=>unplW pb wr);case atStart=>exact⟨b,f,hI (Kept2.refl _ _ _),HR0,Hs0,Hf,HSG⟩
 case round=>
  obtain⟨bd,g,HK,HR,Hs,Hg,HSg⟩:=hrel;obtain⟨wa,hwa⟩:=eY wr;subst hwa;have hsa:=HK.o.size;obtain⟨P,hP⟩:∃P:Int->Bool,P=fun x=>mayB j.p bd.pl x.toNat:=⟨_,rfl⟩
  have HP:=hI hP;have HLn:=hI (show lastO P order m= -1 by rw[<- Hm.o];exact lastO_none);have HKb:=hI (show ∀X:World,Bl wa X->Kept2 W0 X sb pb from fun X hX=>HK.o.trans (Kept2.of_below hX));clear hP;go_wp2;go_loopw [11,12] (fun v11 v12 wr=>∃(q:Nat) (e:Int),q<=m/\v12= .int .i64 ((q:Int)-1)/\v11= .int .i64 e/\Hid (lastO P order q=e)/\Hid (Bl wa wr)) (fun _ v12 _=>(intOf v12+1).toNat);case atStart=>exact⟨m, -1,by omega,rfl,rfl,HLn,hI (zX _ _)⟩
  case round=>
   obtain⟨q,e,hq,rfl,rfl,HL,Hb⟩:=hrel;have hsr:=Hb.o.size;cases q with
   | zero=>
    have hlz:=lastO_zero (P:=P) (fun x hx=>(Hord.o x hx).1);rw[HL.o,HP.o] at hlz;rcases hlz with⟨he,hno⟩ | ⟨he,hmem,hfi⟩
    ·subst he;have HE:=hI (show SG=(true,bd) by rw[<- HSg.o];exact serialGo_full hno g);clear hno;go_wp2;go_ret;rw[HE.o];exact⟨rfl,HKw.o _ (HKb.o _ Hb.o),HR.o.below Hb.o⟩
    ·have hx:=Hord.o e hmem;obtain⟨k,hk⟩:∃k:Nat,e=(k:Int):=⟨e.toNat,by omega⟩
     subst hk;have hkn:k<n:=by omega
     have hmay:mayB j.p bd.pl k=true:=by have h9:=List.find?_some hfi;exact h9
     obtain⟨g',hg'⟩:∃g',g=g'+1:=⟨g-1,by have:=notPl_pos (by rw[HR.o.np];exact hkn) hmay;have:=Hg.o;omega⟩
     subst hg';have hkp:k<j.p.tasks.length:=by rw[j.nt,Hn.o];exact hkn
     have HLP:=hI (fun(v:Int) (hv:LeastT (fitsR j.p bd k) fr v)=>least_place HG.o hkp hfr.1 (may_parts.1 hmay).2 hv);have HNo:=hI (fun(h:placeV j.p bd fr k=none)=>show SG=(false,bd) by rw[<- HSg.o];exact serialGo_no hfi (by rw[zZ];exact h));have HYe:=hI (fun(v:Int) (h:placeV j.p bd fr k=some v)=>show serialGo j.p fr order g' (bd.put k v)=SG by rw[<- HSg.o];have h9:=(serialGo_put (f:=g') hfi (by rw[zZ];exact h)).symm;rwa [zZ] at h9);have HOn:=hI (fun(v:Int) (h:placeV j.p bd fr k=some v)=>show BOk (bd.put k v) from Hs.o.put ⟨(place_bd HG.o Hs.o (by omega) hkp h).1,(place_bd HG.o Hs.o (by omega) hkp h).2.1⟩);have Hdec:=hI (show notPl (bd.put k 0).pl+1=notPl bd.pl from notPl_set (by rw[HR.o.np];exact hkn) (may_parts.1 hmay).1);have HEc:=hI (HEa.o wr (HKb.o _ Hb.o) bd (HR.o.below Hb.o) Hs.o k hkn);have q0:=kC 0 (HX.o wr (HKb.o _ Hb.o)) rfl;have q1:=kC 1 (HX.o wr (HKb.o _ Hb.o)) rfl;clear hfi hmem hmay HL hx
     go_upto_region 10 with(go_at_call 136;refine HEc.o.mono ?_;rintro e w5 ⟨v,rfl,hL,hb5⟩;have HL5:=hI hL;have Hb5:=hI (Hb.o.trans (hb5.mono hsr));clear hL hb5)
     have hs5:=Hb5.o.size;clear q0 q1 HEc;rcases HLP.o v HL5.o with⟨hv,hp⟩ | ⟨hv,hp⟩
     ·subst hv;have HE:=hI (HNo.o hp);clear hp;go_wp2;go_ret;rw[HE.o];exact⟨rfl,HKw.o _ (HKb.o _ Hb5.o),HR.o.below Hb5.o⟩
     ·have HE:=hI (HYe.o v hp);have HO2:=hI (HOn.o v hp);clear hp;have hv0:decide (v<0)=false:=zE (by omega);have hr5:=HR.o.below Hb5.o;have g1:=hr5.st;have f1:=W7.bf (j:=k) g1;have x1:w5.cell? ⟨sb,k,none⟩=some (.int .i64 (bd.st.getD k 0)):=bc g1 (map_tail (by rw[hr5.ns];exact hkn));obtain⟨X1,hX1⟩:=eY (w5.setCell ⟨sb,k,none⟩ (.int .i64 v));have g2:X1.heap[pb]? =some (.cells (bd.pl.map Value.bool).toArray 4 (0,0)):=by rw[hX1];exact(blk_set_ne Hne.o _).trans hr5.pl
      have hsX:X1.heap.size=w5.heap.size:=by rw[hX1];simp[World.setCell]
      have HPut:=hI (show RB2 (X1.setCell ⟨pb,k,none⟩ (.bool true)) sb pb n tl (bd.put k v) by rw[hX1];exact hr5.put Hne.o hkn)
      have HKp:=hI (show Kept2 W0 (X1.setCell ⟨pb,k,none⟩ (.bool true)) sb pb from by
       rw[hX1];exact((HKb.o _ Hb5.o).trans (Kept2.setL _ _ _ _ _)).trans (Kept2.setR _ _ _ _ _))
      have HX1:=hI hX1;have HRa:=hI (HR.o.unpl);clear hX1 hr5;go_upto_region 13 with fail;rw[<- HX1.o];clear g1 f1 x1;have f2:=W7.bf (j:=k) g2;have x2:X1.cell? ⟨pb,k,none⟩=some (.bool (bd.pl.getD k false)):=bc g2 (map_getD (by rw[HR.o.np];exact hkn));go_wp2;go_roundw;case rel=>exact⟨bd.put k v,g',HKp,HPut,HO2,hI (by have:=Hdec.o;have:=Hg.o;show notPl (bd.put k v).pl<=g';have h9:(bd.put k v).pl=(bd.put k 0).pl:=rfl;rw[h9];omega),HE⟩
      case measure=>
       rw[HPut.o.unpl,HRa.o];have:=Hdec.o;have h9:(bd.put k v).pl=(bd.put k 0).pl:=rfl;rw[h9];omega
   | succ i=>
    have hq1:((i+1:Nat):Int)-1=(i:Int):=by omega
    rw[hq1];clear hq1;have him:i<m:=by omega
    have hio:i<order.length:=by have:=Hm.o;omega
    obtain⟨ob,oo,hoe,hoB,o0⟩:=HOc.o wr (HKb.o _ Hb.o) i hio
    have HOb:=hI (show ∀X:World,Bl wa X->X.cell? ⟨ob,oo+i,none⟩=some (.int .i64 order[i]) from fun X hX=>by
     obtain⟨ob',oo',h1,_,h3⟩:=HOc.o X (HKb.o X hX) i hio;rw[hoe] at h1;cases h1;exact h3)
    have hx:=Hord.o _ (zC hio);have HHit:=hI (fun h=>lastO_hit (P:=P) hio h);have HSkp:=hI (fun h=>(lastO_skip (P:=P) hio h).trans HL.o);have HPx:=hI (show P order[i]=mayB j.p bd.pl (order[i]).toNat by rw[HP.o]);generalize order[i]=x at o0 HOb hx HHit HSkp HPx;obtain⟨k,hk⟩:∃k:Nat,x=(k:Int):=⟨x.toNat,by omega⟩
    subst hk;have hkn:k<n:=by omega
    have hkl:k<j.tasks.length:=by have:=Hn.o;omega
    have hjn:=HJ.o wr (HKb.o _ Hb.o);obtain⟨tb,off,hTb,htb⟩:=hjn.ta (by omega);have hTe:TA=some ⟨tb,off,none⟩:=by rw[<- HTA.o];exact hTb
    obtain⟨c0,c1,c2,c3⟩:=hjn.tcells hTb hkl;have HM:=hI (show P (k:Int)=(!bd.pl.getD k false&&standB bd.pl (j.T k).p.needs) by rw[HPx.o,zZ];unfold mayB;rw[j.pT]);have hrw:=HR.o.below Hb.o;have g1:=hrw.pl;have x1:wr.cell? ⟨pb,k,none⟩=some (.bool (bd.pl.getD k false)):=bc g1 (map_getD (by rw[hrw.np];exact hkn));have HC:=hI (fun(e:Later wr)=>refReady_any (j.T k) bd.pl pb n B e.w (((HJ.o e.w (HKb.o _ (Hb.o.trans (e.b.mono hsr)))).tks _ (j.T_mem hkl))) (by have:=e.b.size;omega) ((HR.o.below (Hb.o.trans (e.b.mono hsr))).pl) HR.o.np (fun q hq=>by have h9:=HG.o.needs _ (j.Tp_mem hkl) q hq;rw[j.nt,Hn.o] at h9;exact h9));have hTn:=(hjn.tks _ (j.T_mem hkl)).nl;have hTc:=(hjn.tks _ (j.T_mem hkl)).nc;generalize j.T k=t at c0 c1 c2 c3 HM HC hTn hTc;obtain⟨NA,hNA⟩:=eX t.NA;obtain⟨nn,hnn'⟩:=eX t.p.needs.length;rw[hNA,hnn'] at c2;rw[hNA,hnn'] at HC;generalize standB bd.pl t.p.needs=rb at HC HM
    generalize bd.pl.getD k false=pi at x1 HM;have hbx:=HX.o wr (HKb.o _ Hb.o);have y0:=zV (kC 0 hbx rfl) (by omega);have zo:=zV o0 hoB;have zp:=zV x1 (by omega);have z0:=zV c0 (by omega);have z1:=zV c1 (by omega);have z2:=zV c2 (by omega);have z3:=zV c3 (by omega);subst hoe hTe;have q0:=kC 0 hbx rfl;have q1:=kC 1 hbx rfl;clear hjn hTb hNA hnn' g1 hkl c0 c1 c2 c3 o0 x1 hrw hbx HPx;go_upto_region 5 with fail;clear q0 q1;cases pi
    ·cases rb
     ·have HV:=hI (HSkp.o (by rw[HM.o];rfl));refine wp_region_later (by kernel_rfl) (by kernel_rfl) ?_
      repeat (any_goals (first | go_big_quiet_step ((go_at_call 135;exact later_call _ (HC.o _))) | quiet_step ((go_at_call 135;exact later_call _ (HC.o _)))))
      refine wpQuiet_nil ?_;rintro w' ⟨e5,rfl⟩;have Hb5:=hI (Hb.o.trans (e5.b.mono hsr));go_wp2;go_roundw;case rel=>exact⟨i,e,by omega,rfl,rfl,HV,Hb5⟩
      case measure=>simp[intOf]
     ·have HV:=hI (HHit.o (by rw[HM.o];rfl));refine wp_region_later (by kernel_rfl) (by kernel_rfl) ?_
      repeat (any_goals (first | go_big_quiet_step ((go_at_call 135;exact later_call _ (HC.o _))) | quiet_step ((go_at_call 135;exact later_call _ (HC.o _)))))
      refine wpQuiet_nil ?_;rintro w' ⟨e5,rfl⟩;have Hb5:=hI (Hb.o.trans (e5.b.mono hsr));have o5:=HOb.o _ Hb5.o;go_wp2;go_roundw;case rel=>exact⟨i,(k:Int),by omega,rfl,rfl,HV,Hb5⟩
      case measure=>simp[intOf]
    ·have HV:=hI (HSkp.o (by rw[HM.o];rfl));refine wp_region_later (by kernel_rfl) (by kernel_rfl) ?_
     repeat (any_goals (first | go_big_quiet_step ((fail)) | quiet_step ((fail))))
     refine wpQuiet_nil ?_;rintro w' ⟨e5,rfl⟩;have Hb5:=hI (Hb.o.trans (e5.b.mono hsr));go_wp2;go_roundw;case rel=>exact⟨i,e,by omega,rfl,rfl,HV,Hb5⟩
     case measure=>simp[intOf]
end Go.Proofs.YtjpgnfekbojcaaaGreat
