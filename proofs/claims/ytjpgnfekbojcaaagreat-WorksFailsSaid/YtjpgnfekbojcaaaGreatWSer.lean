/- Serial,Order. -/
import Derived.Test.YtjpgnfekbojcaaaGreatWChk4
import Derived.Test.YtjpgnfekbojcaaaGreatWSeq
set_option maxHeartbeats 16000000
set_option maxRecDepth 100000
namespace W8
open W7
theorem serErr_job {j:JobP} {order:List Int} (h:jobErr j≠0):serErr j order=jobErr j:=by unfold serErr;rw[if_pos h]
theorem serErr_perm {j:JobP} {order:List Int} (h:jobErr j=0) (h2:permB order j.tasks.length=false):serErr j order=1:=by unfold serErr;rw[if_neg (by simpa using h),h2];rfl
theorem serErr_rest {j:JobP} {order:List Int} (h:jobErr j=0) (h2:permB order j.tasks.length=true):serErr j order=if (serialGo j 0 order order.length (bd0 j)).1 then 0 else 9:=by unfold serErr;rw[if_neg (by simpa using h),h2];rfl
theorem serV_bad {j:JobP} {order:List Int} (h:serErr j order≠0):serV j order=[]:=by unfold serV;rw[if_neg h]
theorem serV_ok {j:JobP} {order:List Int} (h:serErr j order=0):serV j order=(serialGo j 0 order order.length (bd0 j)).2.st:=by unfold serV;rw[if_pos h]
theorem bd0_ok (j:JobP):∀i,0<=(bd0 j).st.getD i 0/\(bd0 j).st.getD i 0<=100000:=fun i=>by
 unfold bd0;simp only[zA,List.getElem?_replicate]
 split<;>simp
theorem perm_mem {order:List Int} {n:Nat} (h:permB order n=true):∀x∈order,0<=x/\x<n:=by
 unfold permB at h;simp only[zY,List.all_eq_true] at h;intro x hx;have:=withinB_true.1 (h.1.2 x hx);omega
theorem serialGo_st (j:JobP) (fr:Int) (order:List Int):∀(f:Nat) (b:Bd),(serialGo j fr order f b).2.st.length=b.st.length/\(serialGo j fr order f b).2.pl.length=b.pl.length
 | 0,b=>⟨rfl,rfl⟩
 | f+1,b=>by
  simp only[serialGo];cases h1:order.find? (fun n=>mayB j b.pl n.toNat) with
  | none=>exact⟨rfl,rfl⟩
  | some n=>
   dsimp only;cases h2:placeV j b fr n.toNat with
   | none=>exact⟨rfl,rfl⟩
   | some s=>
    have h:=serialGo_st j fr order f (b.put n.toNat s);simp only[Bd.put,List.length_set] at h;exact h
end W8
namespace Go.Proofs.YtjpgnfekbojcaaaGreat
open Go.RowKit W7 W8
attribute [local go_sem] Oper.semAt_some
theorem values_any (A:Option Addr) (n c:Nat) (w:World):Calls Tryz.prog 59 #[.slice A n c] w fun e w'=>e= .returned (.func (.func 131) #[] #[.pointer (some ⟨w.heap.size,0,none⟩)])/\w'=w.alloc (.cells #[.slice A n c] 26):=by
 go_enter Tryz.func59,Tryz.ntmps59;go_wp2;go_ret;exact⟨rfl,rfl⟩
theorem ser1_any (x:Int) (n bb c:Nat) (A:Option Addr) (w:World) (h0:w.cell? ⟨bb,0,none⟩=some (.slice A n c)) (hn:n<=1000) :
  Calls Tryz.prog 61 #[.int .i64 x,.pointer (some ⟨bb,0,none⟩)] w fun e w'=>e= .returned (.bool (!withinB x 0 ((n:Int)-1)))/\Bl w w':=by
 go_enter Tryz.func61,Tryz.ntmps61;go_wp2_with (go_at_call 62;refine(within_any _ _ _ _).mono ?_;rintro e w' ⟨rfl,rfl⟩);go_ret;exact⟨rfl,zX _ _⟩
set_option maxHeartbeats 1000000 in
theorem idxSer_any (P:Int->Bool) (a0:Value) (xs:List Int) (n:Nat) (hn:n=xs.length) (A:Option Addr) (c B:Nat) (w:World) (hA:Sl w B 1 encInt1 A xs) (hB:B<=w.heap.size) (hl:xs.length<=9223372036854775807)
    (hF:∀(x:Int),x∈xs->∀(W:World),Bl w W->Calls Tryz.prog 61 #[.int .i64 x,a0] W fun e w'=>e= .returned (.bool (P x))/\Bl W w') :
    Calls Tryz.prog 132 #[.slice A n c,.func (.func 61) #[] #[a0]] w fun e w'=>e= .returned (.int .i64 (idxB P xs))/\Bl w w':=by
  subst hn;have HA:=hI hA;have HF:=hI hF;clear hA hF;go_enter Tryz.func132,Tryz.ntmps132;go_wp2;go_loopw [8] (fun i wr=>∃k:Nat,k<=xs.length/\i= .int .i64 k/\Hid ((xs.take k).any P=false)/\Hid (Bl w wr)) (fun i _=>xs.length-(intOf i).toNat);case atStart=>exact⟨0,by omega,rfl,hI (by simp),hI (zX _ _)⟩
  case round=>
    obtain⟨k,hk,rfl,Hno,Hb⟩:=hrel;have hsz:=Hb.o.size
    by_cases hlt:k<xs.length
    · obtain⟨b,off,rfl,hbB,hcells⟩:=(HA.o.below (Hb.o.mono hB)) (by omega)
      have h0:=hcells k hlt;clear hcells;have c0:wr.cell? ⟨b,off+k,none⟩=some (.int .i64 xs[k]):=(by have h:=h0 0 _ rfl;rwa [Nat.mul_one,Nat.add_zero] at h)
      have Hs:=hI (any_take_succ (p:=P) hlt Hno.o);have Hh:=hI (idxB_hit (p:=P) hlt Hno.o);have HK:=hI (fun(W:World) (hW:Bl w W)=>HF.o xs[k] (zC hlt) W hW);generalize xs[k]=x at c0 Hs Hh HK;clear h0;cases hp:P x
      · have HK2:=hI (fun(W:World) (hW:Bl w W)=>hp▸HK.o W hW)
        go_wp2_with (go_at_call 61;refine(HK2.o _ (by first | exact Hb.o | exact Hb.o.alloc (by omega) _)).mono ?_;rintro e w1 ⟨rfl,hb1⟩;have Hb1:=hI hb1;clear hb1);go_roundw;case rel=>exact⟨k+1,by omega,by go_num,hI (Hs.o hp),hI (by first | exact Hb.o.trans (Hb1.o.mono hsz) | exact(Hb.o.alloc (by omega) _).trans (Hb1.o.mono (by simp;omega)))⟩
        case measure=>simp[intOf];omega
      · have HK2:=hI (fun(W:World) (hW:Bl w W)=>hp▸HK.o W hW)
        go_wp2_with (go_at_call 61;refine(HK2.o _ (by first | exact Hb.o | exact Hb.o.alloc (by omega) _)).mono ?_;rintro e w1 ⟨rfl,hb1⟩;have Hb1:=hI hb1;clear hb1);go_ret;exact⟨ret_int (Hh.o hp).symm,(by first | exact Hb.o.trans (Hb1.o.mono hsz) | exact(Hb.o.alloc (by omega) _).trans (Hb1.o.mono (by simp;omega)))⟩
    · have HN:=hI (idxB_none (p:=P) (xs:=xs) (by rw[<- Hno.o,zG (by omega)]))
      go_wp2;go_ret;exact⟨ret_int HN.o.symm,Hb.o⟩
theorem conSer_any (P:Int->Bool) (a0:Value) (xs:List Int) (n:Nat) (hn:n=xs.length) (A:Option Addr) (c B:Nat) (w:World) (hA:Sl w B 1 encInt1 A xs) (hB:B<=w.heap.size) (hl:xs.length<=9223372036854775807)
    (hF:∀(x:Int),x∈xs->∀(W:World),Bl w W->Calls Tryz.prog 61 #[.int .i64 x,a0] W fun e w'=>e= .returned (.bool (P x))/\Bl W w') :
    Calls Tryz.prog 60 #[.slice A n c,.func (.func 61) #[] #[a0]] w fun e w'=>e= .returned (.bool (xs.any P))/\Bl w w':=by
  have H:=hI (idxSer_any P a0 xs n hn A c B w hA hB hl hF);have HI:=hI (idxB_any (p:=P) (xs:=xs));clear hA hn hF;go_enter Tryz.func60,Tryz.ntmps60;go_wp2_with (go_at_call 132;refine H.o.mono ?_;rintro e w1 ⟨rfl,hb1⟩;have Hb1:=hI hb1;clear hb1);go_ret;exact⟨ret_bool HI.o,Hb1.o⟩

structure SerR (j:Job) (order:List Int) (w:World) (e:Ending) (w':World):Prop where
 ex:∃v,e= .returned (.tuple #[v,.int .i64 (serErr j.p order)])/\w'.ownsRow w.heap.size 3 1 v (serV j.p order).length ((serV j.p order).map (Value.int .i64))
 bel:Bl w w'
theorem SerR.bad {j:Job} {order:List Int} {w w':World} {k:Int} (h:serErr j.p order=k) (h0:k≠0) (hb:Bl w w'):SerR j order w (.returned (.tuple #[.slice none 0 0,.int .i64 k])) w':=
 ⟨⟨.slice none 0 0,by rw[h],by rw[serV_bad (by rw[h];exact h0)];exact zU _ _ _ _⟩,hb⟩
theorem Serial_any (j:Job) (order:List Int) (OA:Option Addr) (on oc B:Nat) (w:World) (hj:JIn w B j) (hB:B<=w.heap.size) (hS:Slim j) (ho:StIn w B OA on oc order) :
  Calls Tryz.prog 17 #[jobV j,.slice OA on oc] w (SerR j order w):=by
 obtain⟨n,hn⟩:=eX j.tasks.length;obtain⟨TA,hTA⟩:=eX j.TA;have hjv:jobV j= .agg #[.slice TA n j.tc,.slice j.RA j.res.length j.rc]:=by unfold jobV;rw[hn,hTA]
 obtain⟨W0,HW0,hs0,HB0,HX00,HU0⟩:=boxes1 w (.cells #[.slice TA n j.tc,.slice j.RA j.res.length j.rc] 25);have HJ:=hI (show ∀X:World,Bl W0 X->JIn X B j/\StIn X B OA on oc order from fun X hX=>⟨hj.below ((HU0.o X hX).mono hB),ho.below ((HU0.o X hX).mono hB)⟩);have HC:=hI (Check_any j B W0 (HJ.o W0 (zX _ _)).1 (by omega) hS);have Hlen:=hI ho.len;have hsm:=ho.small;have hole:=ho.le;have hocc:=ho.cap;have hnt:=hS.nt;have hlc:=hj.tl;have hc2:=hj.tc;rw[hn] at hlc hnt;have Hn:=hI hn;have Hjv:=hI hjv;rw[hjv] at HC ⊢;obtain⟨je,hje⟩:=eX (jobErr j.p);rw[hje] at HC;have Hje:=hI hje;have q0:=kC 0 (HX00.o W0 (zX _ _)) rfl;have q1:=kC 1 (HX00.o W0 (zX _ _)) rfl;clear hj hS ho hn hjv hje hTA;go_enter Tryz.func17,Tryz.ntmps17;go_upto_region 1 with fail;rw[<- HW0.o];go_upto_region 2 with(go_at_call 37;refine HC.o.mono ?_;rintro e w1 ⟨rfl,hb1⟩;have hs1:=hb1.size;have Hb1:=hI hb1;clear hb1)
 clear q0 q1 HC;cases h0:(je==0)
 ·have h0':(je != 0)=true:=by simp[bne,h0]
  have hne:je≠0:=fun h=>by rw[h] at h0;cases h0
  have HR:=hI (SerR.bad (j:=j) (order:=order) (serErr_job (by rw[Hje.o];exact hne) |>.trans Hje.o) hne (HU0.o _ Hb1.o));clear hne;go_wp2;go_ret2;exact HR.o
 have h0':(je != 0)=false:=by simp[bne,h0]
 have Hj0:=hI (show jobErr j.p=0 by rw[Hje.o];exact eq_of_beq h0);have HG:=hI (good_of Hj0.o);have h64:n<=64:=by have:=HG.o.nt;rw[j.nt,Hn.o] at this;exact this
 go_upto_region 4 with fail;obtain⟨w2,hw2⟩:=eY (w1.alloc (.cells #[.slice OA on oc] 26));have hs2:w2.heap.size=w1.heap.size+1:=by rw[hw2];simp
 have HB2:=hI (show Bl W0 w2 by rw[hw2];exact Hb1.o.alloc hs1 _);have HSo:=hI (sorted_any order OA w1.heap.size B on oc w2 Hlen.o (by omega) (by omega) (by rw[hw2];exact alloc_cell rfl) (HJ.o w2 HB2.o).2.sl (by omega));have Hw2:=hI hw2;clear hw2;go_upto_region 5 with(first | (go_at_call 59;refine(values_any OA on oc w1).mono ?_;rintro e w' ⟨rfl,rfl⟩;go_loud (rw[<- Hw2.o])) | (go_at_call 58;refine HSo.o.mono ?_;rintro e w3 ⟨v,rfl,ho3,hb3⟩;have hs3:=hb3.size;rw[<- Hlen.o] at ho3;have Ho3:=hI ho3;have Hb3:=hI hb3;obtain⟨AS,cs,rfl,hcs1,hcs2⟩:=own_cap' ho3;clear ho3 hb3))
 have HB3:=hI (HB2.o.trans (Hb3.o.mono (by omega)));obtain⟨W4,hW4⟩:=eY (w3.alloc (.cells #[.slice AS on cs] 26));have hs4:W4.heap.size=w3.heap.size+1:=by rw[hW4];simp
 have HB04:=hI (show Bl W0 W4 by rw[hW4];exact HB3.o.alloc (by omega) _);have hx4:W4.heap[w3.heap.size]? =some (.cells #[.slice AS on cs] 26 (0,0)):=by rw[hW4];exact zW _ _
 obtain⟨S,hS⟩:=eX (sortI order);have hSl:S.length=on:=by rw[<- hS,sortI_length,Hlen.o]
 have HSs:=hI hS;have Ho4:=hI (show W4.ownsRow W0.heap.size 3 1 (.slice AS on cs) on (S.map (Value.int .i64)) by rw[hW4,<-hS];exact own_mono (Ho3.o.alloc _) (by omega));have hj4:=HX00.o W4 HB04.o;rw[<- hW4];clear hW4 hS Ho3
 by_cases hon:on=n
 rotate_left
 ·have HR:=hI (fun X hX=>SerR.bad (j:=j) (order:=order) (k:=1) (serErr_perm Hj0.o (perm_false_len (by rw[j.nt,Hn.o,<-Hlen.o];exact hon))) (by decide) (HU0.o X hX));have y7:=zV (kC 0 hx4 rfl) (by omega);have yj0:=zV (kC 0 hj4 rfl) (by omega);have hon':((on:Int) != (n:Int))=true:=by simp;omega
  clear hx4 hj4;refine wp_region_later (by kernel_rfl) (by kernel_rfl) ?_
  repeat (any_goals (first | go_big_quiet_step ((fail)) | quiet_step ((fail))))
  refine wpQuiet_nil ?_;rintro w' ⟨e,rfl⟩;have HR2:=hI (HR.o e.w (HB04.o.trans (e.b.mono (by omega))));go_wp2;go_ret2;exact HR2.o
 have hno:n=on:=hon.symm;subst hno;clear hon;obtain⟨row,hrow⟩:=eY ((Value.slice AS n cs).ownBlock);have hlo:order.length=n:=by rw[Hlen.o]
 have HSlI:=hI (show ∀X:World,X.ownsRow W0.heap.size 3 1 (.slice AS n cs) n (S.map (Value.int .i64))->Sl X X.heap.size 1 encInt1 AS S from fun X hX=>sl_own2 (k:=1) (fun _=>rfl) (base:=W0.heap.size) (e:=3) (c:=cs) (by rw[hSl,flat_int];exact hX))
 have HCl:=hI (show ∀(X:World) (c0:X.cell? ⟨w3.heap.size,0,none⟩=some (.slice AS n cs)),w3.heap.size<X.heap.size->X.ownsRow W0.heap.size 3 1 (.slice AS n cs) n (S.map (Value.int .i64))->Calls Tryz.prog 60 #[.slice AS n cs,.func (.func 61) #[] #[.pointer (some ⟨w3.heap.size,0,none⟩)]] X fun e w'=>e= .returned (.bool (S.any (fun x=> !withinB x 0 ((n:Int)-1))))/\Bl X w' from fun X c0 hlt hX=>
  conSer_any (fun x=> !withinB x 0 ((n:Int)-1)) (.pointer (some ⟨w3.heap.size,0,none⟩)) S n hSl.symm AS cs X.heap.size X (HSlI.o X hX) (zm _) (by omega) (fun x _ W hW=>ser1_any x n w3.heap.size cs AS W ((hW.cell (p:=⟨w3.heap.size,0,none⟩) hlt).trans c0) (by omega)))
 cases hA:S.any (fun x=> !withinB x 0 ((n:Int)-1));rotate_left
 ·rw[hA] at HCl;have HR:=hI (fun X hX=>SerR.bad (j:=j) (order:=order) (k:=1) (serErr_perm Hj0.o (by rw[j.nt,Hn.o];exact perm_false_any hlo (by rw[HSs.o];exact hA))) (by decide) (HU0.o X hX));have y7:=zV (kC 0 hx4 rfl) (by omega);have yj0:=zV (kC 0 hj4 rfl) (by omega);have HCl2:=hI (fun(e:Later W4)=>HCl.o e.w (y7 e) (by have:=e.b.size;omega) (own_below Ho4.o e.b));clear hx4 hj4 hA;refine wp_region_later (by kernel_rfl) (by kernel_rfl) ?_
  repeat (any_goals (first | go_big_quiet_step ((go_at_call 60;exact later_call _ (HCl2.o _))) | quiet_step ((go_at_call 60;exact later_call _ (HCl2.o _)))))
  refine wpQuiet_nil ?_;rintro w' ⟨e,rfl⟩;have HR2:=hI (HR.o e.w (HB04.o.trans (e.b.mono (by omega))));go_wp2;go_ret2;exact HR2.o
 rw[hA] at HCl;obtain⟨k,hk⟩:=eX ((Lib.compact S).length);have HPm:=hI (show permB order j.p.tasks.length=decide (k=n) by rw[j.nt,Hn.o,perm_rest hlo (by rw[HSs.o];exact hA),HSs.o,hk]);have HCo:=hI (fun(X:World) (hX:X.ownsRow W0.heap.size 3 1 (.slice AS n cs) n (S.map (Value.int .i64)))=>compactI_any S W0.heap.size (.slice AS n cs) X (by rw[hSl];exact hX) (by omega));rw[hk] at HCo;have y7:=glater_cell (kC 0 hx4 rfl) (by omega) (row:=(Value.slice AS n cs).ownBlock) (row_ne Ho4.o hx4 (fun cs e=>by cases e));have yj0:=glater_cell (kC 0 hj4 rfl) (by omega) (row:=(Value.slice AS n cs).ownBlock) (row_ne Ho4.o hj4 (fun cs e=>by cases e));have HCon:=hI (fun(e:GLater W4 (Value.slice AS n cs).ownBlock) (ho:e.w.ownsRow W0.heap.size 3 1 (.slice AS n cs) n (S.map (Value.int .i64)))=>HCl.o e.w (y7 e) (by have:=e.g.size;omega) ho);clear hx4 hj4 hA hk HCl HSlI hrow;have hlo2:=hI hlo;clear hlo hSl
 by_cases hkn:k=n
 rotate_left
 ·have HR:=hI (fun X hX=>SerR.bad (j:=j) (order:=order) (k:=1) (serErr_perm Hj0.o (by rw[HPm.o,zE hkn])) (by decide) (HU0.o X hX));have hkn':((k:Int) != (n:Int))=true:=by simp;omega
  obtain⟨C,hC⟩:∃C:(Nat->Bool)->(Nat->Value)->World->Prop,C=fun L V w'=>∃(e:GLater W4 (Value.slice AS n cs).ownBlock),w'=e.w/\(L 13=false->Hid (e.w.ownsRow W0.heap.size 3 1 (.slice AS n cs) n (S.map (Value.int .i64))))/\(L 10=true->L 9=true)/\(L 11=true->L 9=true)/\(L 13=true->L 9=true)/\(L 0=true->V 0= .slice AS n cs)/\(L 1=true->V 1= .int .i64 (n:Int))/\(L 2=true->V 2= .pointer (some ⟨w.heap.size,0,none⟩))/\(L 3=true->V 3= .slice TA n j.tc)/\(L 4=true->V 4= .int .i64 (n:Int))/\(L 5=true->V 5= .bool false)/\(L 6=true->V 6= .bool false)/\(L 7=true->V 7= .slice AS n cs)/\(L 8=true->V 8= .func (.func 61) #[] #[.pointer (some ⟨w3.heap.size,0,none⟩)])/\(L 9=true->V 9= .bool false)/\(L 10=true->V 10= .bool false)/\(L 11=true->V 11= .bool false)/\(L 12=true->V 12= .slice AS n cs)/\(L 13=true->(∃A c,V 13= .slice A k c/\k<=c/\c<=9223372036854775807))/\(L 14=true->V 14= .int .i64 (k:Int))/\(L 15=true->V 15= .pointer (some ⟨w.heap.size,0,none⟩))/\(L 16=true->V 16= .slice TA n j.tc)/\(L 17=true->V 17= .int .i64 (n:Int))/\(L 18=true->V 18= .bool true)/\(L 19=true->V 19= .bool true):=⟨_,rfl⟩
  have HC:=hI hC;clear hC;refine wp_region_opsA [17,18,19,20,21,22,23,24,25,26,27,28,29,30,31,32,33,34,35,36] C (by kernel_rfl) (by kernel_rfl) (by decide) (by kernel_rfl) (by kernel_rfl) ?_ ?_ ?_
  ·rw[HC.o];exact⟨⟨W4.drew,⟨rfl,rfl,rfl,zm _,fun _ _ _=>rfl⟩⟩,rfl,fun _=>Ho4,nff,nff,nff,nff,nff,nff,nff,nff,nff,nff,nff,nff,nff,nff,nff,nff,nff,nff,nff,nff,nff,nff,nff⟩
  ·rintro L V w' ii o AA hii ho hLi haf hInv hAA hFF;rw[HC.o] at hInv;obtain⟨e,rfl,p0,p1,p2,p3,h0,h1,h2,h3,h4,h5,h6,h7,h8,h9,h10,h11,h12,h13,h14,h15,h16,h17,h18,h19⟩:=hInv;rcases ii with _ | _ | _ | _ | _ | _ | _ | _ | _ | _ | _ | _ | _ | _ | _ | _ | _ | _ | _ | _ | ii;case succ.succ.succ.succ.succ.succ.succ.succ.succ.succ.succ.succ.succ.succ.succ.succ.succ.succ.succ.succ=>(simp at hii;try omega)
   all_goals (simp only[zR,zS,Option.some.injEq] at ho;subst ho)
   all_goals clear hii
   ·have f7:AA.tmps[7]?.getD undef= .pointer (some ⟨w3.heap.size,0,none⟩):=hFF.out 7 (by decide);go_wp2;rw[HC.o];exact⟨_,rfl,e,rfl,p0,p1,p2,p3,fun _=>rfl,h1,h2,h3,h4,h5,h6,h7,h8,h9,h10,h11,h12,h13,h14,h15,h16,h17,h18,h19⟩
   ·have a0:=(hAA.out 0 17 rfl).trans (h0 (haf ⟨0,.data⟩ (by simp) rfl));go_wp2;rw[HC.o];exact⟨_,rfl,e,rfl,p0,p1,p2,p3,h0,fun _=>rfl,h2,h3,h4,h5,h6,h7,h8,h9,h10,h11,h12,h13,h14,h15,h16,h17,h18,h19⟩
   ·have f2:AA.tmps[2]?.getD undef= .pointer (some ⟨w.heap.size,0,none⟩):=hFF.out 2 (by decide);go_wp2;rw[HC.o];exact⟨_,rfl,e,rfl,p0,p1,p2,p3,h0,h1,fun _=>rfl,h3,h4,h5,h6,h7,h8,h9,h10,h11,h12,h13,h14,h15,h16,h17,h18,h19⟩
   ·have a2:=(hAA.out 2 19 rfl).trans (h2 (haf ⟨2,.data⟩ (by simp) rfl));go_wp2;rw[HC.o];exact⟨_,rfl,e,rfl,p0,p1,p2,p3,h0,h1,h2,fun _=>rfl,h4,h5,h6,h7,h8,h9,h10,h11,h12,h13,h14,h15,h16,h17,h18,h19⟩
   ·have a3:=(hAA.out 3 20 rfl).trans (h3 (haf ⟨3,.data⟩ (by simp) rfl));go_wp2;rw[HC.o];exact⟨_,rfl,e,rfl,p0,p1,p2,p3,h0,h1,h2,h3,fun _=>rfl,h5,h6,h7,h8,h9,h10,h11,h12,h13,h14,h15,h16,h17,h18,h19⟩
   ·have a1:=(hAA.out 1 18 rfl).trans (h1 (haf ⟨1,.data⟩ (by simp) rfl));have a4:=(hAA.out 4 21 rfl).trans (h4 (haf ⟨4,.data⟩ (by simp) rfl));go_wp2;rw[HC.o];exact⟨_,rfl,e,rfl,p0,p1,p2,p3,h0,h1,h2,h3,h4,fun _=>rfl,h6,h7,h8,h9,h10,h11,h12,h13,h14,h15,h16,h17,h18,h19⟩
   ·have a5:=(hAA.out 5 22 rfl).trans (h5 (haf ⟨5,.data⟩ (by simp) rfl));go_wp2;rw[HC.o];exact⟨_,rfl,e,rfl,p0,p1,p2,p3,h0,h1,h2,h3,h4,h5,fun _=>rfl,h7,h8,h9,h10,h11,h12,h13,h14,h15,h16,h17,h18,h19⟩
   ·have b6:=get_some ((hAA.out 6 23 rfl).trans (h6 (haf ⟨6,.guard⟩ (by simp) rfl)));have f7:AA.tmps[7]?.getD undef= .pointer (some ⟨w3.heap.size,0,none⟩):=hFF.out 7 (by decide);go_wp2;rw[HC.o];exact⟨_,rfl,e,rfl,p0,p1,p2,p3,h0,h1,h2,h3,h4,h5,h6,fun _=>rfl,h8,h9,h10,h11,h12,h13,h14,h15,h16,h17,h18,h19⟩
   ·have b6:=get_some ((hAA.out 6 23 rfl).trans (h6 (haf ⟨6,.guard⟩ (by simp) rfl)));have f7:AA.tmps[7]?.getD undef= .pointer (some ⟨w3.heap.size,0,none⟩):=hFF.out 7 (by decide);go_wp2;rw[HC.o];exact⟨_,rfl,e,rfl,p0,p1,p2,p3,h0,h1,h2,h3,h4,h5,h6,h7,fun _=>rfl,h9,h10,h11,h12,h13,h14,h15,h16,h17,h18,h19⟩
   ·have a7:=(hAA.out 7 24 rfl).trans (h7 (haf ⟨7,.data⟩ (by simp) rfl));have a8:=(hAA.out 8 25 rfl).trans (h8 (haf ⟨8,.data⟩ (by simp) rfl));have b6:=get_some ((hAA.out 6 23 rfl).trans (h6 (haf ⟨6,.guard⟩ (by simp) rfl)));have hun:L 13=false:=(by cases h13:L 13 with | false=>rfl | true=>exact absurd (hLi.symm.trans (p3 h13)) (by decide))
    go_wp2_with (go_at_call 60;refine(HCon.o e (p0 hun).out).mono ?_;rintro r w5 ⟨rfl,hb5⟩);rw[HC.o];exact⟨_,rfl,⟨w5,grown_trans e.g (grown_of_below hb5 _)⟩,rfl,fun y=>hI (own_below (p0 y).out hb5),fun _=>rfl,fun _=>rfl,fun _=>rfl,h0,h1,h2,h3,h4,h5,h6,h7,h8,fun _=>rfl,h10,h11,h12,h13,h14,h15,h16,h17,h18,h19⟩
   ·have a6:=(hAA.out 6 23 rfl).trans (h6 (haf ⟨6,.data⟩ (by simp) rfl));have a9:=(hAA.out 9 26 rfl).trans (h9 (haf ⟨9,.data⟩ (by simp) rfl));go_wp2;rw[HC.o];exact⟨_,rfl,e,rfl,p0,fun _=>haf ⟨9,.data⟩ (by simp) rfl,p2,p3,h0,h1,h2,h3,h4,h5,h6,h7,h8,h9,fun _=>rfl,h11,h12,h13,h14,h15,h16,h17,h18,h19⟩
   ·have a10:=(hAA.out 10 27 rfl).trans (h10 (haf ⟨10,.data⟩ (by simp) rfl));go_wp2;rw[HC.o];exact⟨_,rfl,e,rfl,p0,p1,fun _=>p1 (haf ⟨10,.data⟩ (by simp) rfl),p3,h0,h1,h2,h3,h4,h5,h6,h7,h8,h9,h10,fun _=>rfl,h12,h13,h14,h15,h16,h17,h18,h19⟩
   ·have b11:=get_some ((hAA.out 11 28 rfl).trans (h11 (haf ⟨11,.guard⟩ (by simp) rfl)));have f7:AA.tmps[7]?.getD undef= .pointer (some ⟨w3.heap.size,0,none⟩):=hFF.out 7 (by decide);go_wp2;rw[HC.o];exact⟨_,rfl,e,rfl,p0,p1,p2,p3,h0,h1,h2,h3,h4,h5,h6,h7,h8,h9,h10,h11,fun _=>rfl,h13,h14,h15,h16,h17,h18,h19⟩
   ·have a12:=(hAA.out 12 29 rfl).trans (h12 (haf ⟨12,.data⟩ (by simp) rfl));have b11:=get_some ((hAA.out 11 28 rfl).trans (h11 (haf ⟨11,.guard⟩ (by simp) rfl)));go_wp2_with (go_at_call 63;refine(HCo.o e.w (p0 hLi).out).mono ?_;rintro r w5 ⟨⟨A9,c9,rfl,q1,q2⟩,hg5⟩);rw[HC.o];exact⟨_,rfl,⟨w5,grown_trans e.g hg5⟩,rfl,fun y=>absurd y (by simp),p1,p2,fun _=>p2 (haf ⟨11,.guard⟩ (by simp) rfl),h0,h1,h2,h3,h4,h5,h6,h7,h8,h9,h10,h11,h12,fun _=>⟨A9,c9,rfl,q1,q2⟩,h14,h15,h16,h17,h18,h19⟩
   ·obtain⟨A9,c9,e9,q1,q2⟩:=h13 (haf ⟨13,.data⟩ (by simp) rfl);have a13:=(hAA.out 13 30 rfl).trans e9;have b11:=get_some ((hAA.out 11 28 rfl).trans (h11 (haf ⟨11,.guard⟩ (by simp) rfl)));go_wp2;rw[HC.o];exact⟨_,rfl,e,rfl,p0,p1,p2,p3,h0,h1,h2,h3,h4,h5,h6,h7,h8,h9,h10,h11,h12,h13,fun _=>rfl,h15,h16,h17,h18,h19⟩
   ·have b11:=get_some ((hAA.out 11 28 rfl).trans (h11 (haf ⟨11,.guard⟩ (by simp) rfl)));have f2:AA.tmps[2]?.getD undef= .pointer (some ⟨w.heap.size,0,none⟩):=hFF.out 2 (by decide);go_wp2;rw[HC.o];exact⟨_,rfl,e,rfl,p0,p1,p2,p3,h0,h1,h2,h3,h4,h5,h6,h7,h8,h9,h10,h11,h12,h13,h14,fun _=>rfl,h16,h17,h18,h19⟩
   ·have a15:=(hAA.out 15 32 rfl).trans (h15 (haf ⟨15,.data⟩ (by simp) rfl));have b11:=get_some ((hAA.out 11 28 rfl).trans (h11 (haf ⟨11,.guard⟩ (by simp) rfl)));go_wp2;rw[HC.o];exact⟨_,rfl,e,rfl,p0,p1,p2,p3,h0,h1,h2,h3,h4,h5,h6,h7,h8,h9,h10,h11,h12,h13,h14,h15,fun _=>rfl,h17,h18,h19⟩
   ·have a16:=(hAA.out 16 33 rfl).trans (h16 (haf ⟨16,.data⟩ (by simp) rfl));have b11:=get_some ((hAA.out 11 28 rfl).trans (h11 (haf ⟨11,.guard⟩ (by simp) rfl)));go_wp2;rw[HC.o];exact⟨_,rfl,e,rfl,p0,p1,p2,p3,h0,h1,h2,h3,h4,h5,h6,h7,h8,h9,h10,h11,h12,h13,h14,h15,h16,fun _=>rfl,h18,h19⟩
   ·have a14:=(hAA.out 14 31 rfl).trans (h14 (haf ⟨14,.data⟩ (by simp) rfl));have a17:=(hAA.out 17 34 rfl).trans (h17 (haf ⟨17,.data⟩ (by simp) rfl));have b11:=get_some ((hAA.out 11 28 rfl).trans (h11 (haf ⟨11,.guard⟩ (by simp) rfl)));go_wp2;rw[HC.o];exact⟨_,rfl,e,rfl,p0,p1,p2,p3,h0,h1,h2,h3,h4,h5,h6,h7,h8,h9,h10,h11,h12,h13,h14,h15,h16,h17,fun _=>rfl,h19⟩
   ·have a11:=(hAA.out 11 28 rfl).trans (h11 (haf ⟨11,.data⟩ (by simp) rfl));have a18:=(hAA.out 18 35 rfl).trans (h18 (haf ⟨18,.data⟩ (by simp) rfl));go_wp2;rw[HC.o];exact⟨_,rfl,e,rfl,p0,p1,p2,p3,h0,h1,h2,h3,h4,h5,h6,h7,h8,h9,h10,h11,h12,h13,h14,h15,h16,h17,h18,fun _=>rfl⟩
  rintro L V w' hL hInv;rw[HC.o] at hInv;obtain⟨e,rfl,p0,p1,p2,p3,h0,h1,h2,h3,h4,h5,h6,h7,h8,h9,h10,h11,h12,h13,h14,h15,h16,h17,h18,h19⟩:=hInv;have k0:=h0 (hL 0 (by simp));have k1:=h1 (hL 1 (by simp));have k2:=h2 (hL 2 (by simp));have k3:=h3 (hL 3 (by simp));have k4:=h4 (hL 4 (by simp));have k5:=h5 (hL 5 (by simp));have k6:=h6 (hL 6 (by simp));have k7:=h7 (hL 7 (by simp));have k8:=h8 (hL 8 (by simp));have k9:=h9 (hL 9 (by simp));have k10:=h10 (hL 10 (by simp));have k11:=h11 (hL 11 (by simp));have k12:=h12 (hL 12 (by simp));have k13:=h13 (hL 13 (by simp));have k14:=h14 (hL 14 (by simp));have k15:=h15 (hL 15 (by simp));have k16:=h16 (hL 16 (by simp));have k17:=h17 (hL 17 (by simp));have k18:=h18 (hL 18 (by simp));have k19:=h19 (hL 19 (by simp));clear h0 h1 h2 h3 h4 h5 h6 h7 h8 h9 h10 h11 h12 h13 h14 h15 h16 h17 h18 h19 hL HC
  have HB6:=hI (HB04.o.grown e.g (by omega) (fun kk hk=>by have:=(Ho4.o.lt kk hk).1;omega));have hs6:=e.g.size;generalize e.w=w6 at HB6 hs6;clear HCon HCo;clear k0 k1 k2 k3 k4 k5 k6 k7 k8 k9 k10 k11 k12 k13 k14 k15 k16 k17 k18 p0 p1 p2 p3 y7 yj0;simp only[putAll];rw[k19];go_frame;have HR2:=hI (HR.o w6 HB6.o);go_wp2;go_ret2;exact HR2.o
 have hkn2:n=k:=hkn.symm;clear hkn;subst hkn2
 obtain⟨C,hC⟩:∃C:(Nat->Bool)->(Nat->Value)->World->Prop,C=fun L V w'=>∃(e:GLater W4 (Value.slice AS n cs).ownBlock),w'=e.w/\(L 13=false->Hid (e.w.ownsRow W0.heap.size 3 1 (.slice AS n cs) n (S.map (Value.int .i64))))/\(L 10=true->L 9=true)/\(L 11=true->L 9=true)/\(L 13=true->L 9=true)/\(L 0=true->V 0= .slice AS n cs)/\(L 1=true->V 1= .int .i64 (n:Int))/\(L 2=true->V 2= .pointer (some ⟨w.heap.size,0,none⟩))/\(L 3=true->V 3= .slice TA n j.tc)/\(L 4=true->V 4= .int .i64 (n:Int))/\(L 5=true->V 5= .bool false)/\(L 6=true->V 6= .bool false)/\(L 7=true->V 7= .slice AS n cs)/\(L 8=true->V 8= .func (.func 61) #[] #[.pointer (some ⟨w3.heap.size,0,none⟩)])/\(L 9=true->V 9= .bool false)/\(L 10=true->V 10= .bool false)/\(L 11=true->V 11= .bool false)/\(L 12=true->V 12= .slice AS n cs)/\(L 13=true->(∃A c,V 13= .slice A n c/\n<=c/\c<=9223372036854775807))/\(L 14=true->V 14= .int .i64 (n:Int))/\(L 15=true->V 15= .pointer (some ⟨w.heap.size,0,none⟩))/\(L 16=true->V 16= .slice TA n j.tc)/\(L 17=true->V 17= .int .i64 (n:Int))/\(L 18=true->V 18= .bool false)/\(L 19=true->V 19= .bool false):=⟨_,rfl⟩
 have HC:=hI hC;clear hC;refine wp_region_opsA [17,18,19,20,21,22,23,24,25,26,27,28,29,30,31,32,33,34,35,36] C (by kernel_rfl) (by kernel_rfl) (by decide) (by kernel_rfl) (by kernel_rfl) ?_ ?_ ?_
 ·rw[HC.o];exact⟨⟨W4.drew,⟨rfl,rfl,rfl,zm _,fun _ _ _=>rfl⟩⟩,rfl,fun _=>Ho4,nff,nff,nff,nff,nff,nff,nff,nff,nff,nff,nff,nff,nff,nff,nff,nff,nff,nff,nff,nff,nff,nff,nff⟩
 ·rintro L V w' ii o AA hii ho hLi haf hInv hAA hFF;rw[HC.o] at hInv;obtain⟨e,rfl,p0,p1,p2,p3,h0,h1,h2,h3,h4,h5,h6,h7,h8,h9,h10,h11,h12,h13,h14,h15,h16,h17,h18,h19⟩:=hInv;rcases ii with _ | _ | _ | _ | _ | _ | _ | _ | _ | _ | _ | _ | _ | _ | _ | _ | _ | _ | _ | _ | ii;case succ.succ.succ.succ.succ.succ.succ.succ.succ.succ.succ.succ.succ.succ.succ.succ.succ.succ.succ.succ=>(simp at hii;try omega)
  all_goals (simp only[zR,zS,Option.some.injEq] at ho;subst ho)
  all_goals clear hii
  ·have f7:AA.tmps[7]?.getD undef= .pointer (some ⟨w3.heap.size,0,none⟩):=hFF.out 7 (by decide);go_wp2;rw[HC.o];exact⟨_,rfl,e,rfl,p0,p1,p2,p3,fun _=>rfl,h1,h2,h3,h4,h5,h6,h7,h8,h9,h10,h11,h12,h13,h14,h15,h16,h17,h18,h19⟩
  ·have a0:=(hAA.out 0 17 rfl).trans (h0 (haf ⟨0,.data⟩ (by simp) rfl));go_wp2;rw[HC.o];exact⟨_,rfl,e,rfl,p0,p1,p2,p3,h0,fun _=>rfl,h2,h3,h4,h5,h6,h7,h8,h9,h10,h11,h12,h13,h14,h15,h16,h17,h18,h19⟩
  ·have f2:AA.tmps[2]?.getD undef= .pointer (some ⟨w.heap.size,0,none⟩):=hFF.out 2 (by decide);go_wp2;rw[HC.o];exact⟨_,rfl,e,rfl,p0,p1,p2,p3,h0,h1,fun _=>rfl,h3,h4,h5,h6,h7,h8,h9,h10,h11,h12,h13,h14,h15,h16,h17,h18,h19⟩
  ·have a2:=(hAA.out 2 19 rfl).trans (h2 (haf ⟨2,.data⟩ (by simp) rfl));go_wp2;rw[HC.o];exact⟨_,rfl,e,rfl,p0,p1,p2,p3,h0,h1,h2,fun _=>rfl,h4,h5,h6,h7,h8,h9,h10,h11,h12,h13,h14,h15,h16,h17,h18,h19⟩
  ·have a3:=(hAA.out 3 20 rfl).trans (h3 (haf ⟨3,.data⟩ (by simp) rfl));go_wp2;rw[HC.o];exact⟨_,rfl,e,rfl,p0,p1,p2,p3,h0,h1,h2,h3,fun _=>rfl,h5,h6,h7,h8,h9,h10,h11,h12,h13,h14,h15,h16,h17,h18,h19⟩
  ·have a1:=(hAA.out 1 18 rfl).trans (h1 (haf ⟨1,.data⟩ (by simp) rfl));have a4:=(hAA.out 4 21 rfl).trans (h4 (haf ⟨4,.data⟩ (by simp) rfl));go_wp2;rw[HC.o];exact⟨_,rfl,e,rfl,p0,p1,p2,p3,h0,h1,h2,h3,h4,fun _=>rfl,h6,h7,h8,h9,h10,h11,h12,h13,h14,h15,h16,h17,h18,h19⟩
  ·have a5:=(hAA.out 5 22 rfl).trans (h5 (haf ⟨5,.data⟩ (by simp) rfl));go_wp2;rw[HC.o];exact⟨_,rfl,e,rfl,p0,p1,p2,p3,h0,h1,h2,h3,h4,h5,fun _=>rfl,h7,h8,h9,h10,h11,h12,h13,h14,h15,h16,h17,h18,h19⟩
  ·have b6:=get_some ((hAA.out 6 23 rfl).trans (h6 (haf ⟨6,.guard⟩ (by simp) rfl)));have f7:AA.tmps[7]?.getD undef= .pointer (some ⟨w3.heap.size,0,none⟩):=hFF.out 7 (by decide);go_wp2;rw[HC.o];exact⟨_,rfl,e,rfl,p0,p1,p2,p3,h0,h1,h2,h3,h4,h5,h6,fun _=>rfl,h8,h9,h10,h11,h12,h13,h14,h15,h16,h17,h18,h19⟩
  ·have b6:=get_some ((hAA.out 6 23 rfl).trans (h6 (haf ⟨6,.guard⟩ (by simp) rfl)));have f7:AA.tmps[7]?.getD undef= .pointer (some ⟨w3.heap.size,0,none⟩):=hFF.out 7 (by decide);go_wp2;rw[HC.o];exact⟨_,rfl,e,rfl,p0,p1,p2,p3,h0,h1,h2,h3,h4,h5,h6,h7,fun _=>rfl,h9,h10,h11,h12,h13,h14,h15,h16,h17,h18,h19⟩
  ·have a7:=(hAA.out 7 24 rfl).trans (h7 (haf ⟨7,.data⟩ (by simp) rfl));have a8:=(hAA.out 8 25 rfl).trans (h8 (haf ⟨8,.data⟩ (by simp) rfl));have b6:=get_some ((hAA.out 6 23 rfl).trans (h6 (haf ⟨6,.guard⟩ (by simp) rfl)));have hun:L 13=false:=(by cases h13:L 13 with | false=>rfl | true=>exact absurd (hLi.symm.trans (p3 h13)) (by decide))
   go_wp2_with (go_at_call 60;refine(HCon.o e (p0 hun).out).mono ?_;rintro r w5 ⟨rfl,hb5⟩);rw[HC.o];exact⟨_,rfl,⟨w5,grown_trans e.g (grown_of_below hb5 _)⟩,rfl,fun y=>hI (own_below (p0 y).out hb5),fun _=>rfl,fun _=>rfl,fun _=>rfl,h0,h1,h2,h3,h4,h5,h6,h7,h8,fun _=>rfl,h10,h11,h12,h13,h14,h15,h16,h17,h18,h19⟩
  ·have a6:=(hAA.out 6 23 rfl).trans (h6 (haf ⟨6,.data⟩ (by simp) rfl));have a9:=(hAA.out 9 26 rfl).trans (h9 (haf ⟨9,.data⟩ (by simp) rfl));go_wp2;rw[HC.o];exact⟨_,rfl,e,rfl,p0,fun _=>haf ⟨9,.data⟩ (by simp) rfl,p2,p3,h0,h1,h2,h3,h4,h5,h6,h7,h8,h9,fun _=>rfl,h11,h12,h13,h14,h15,h16,h17,h18,h19⟩
  ·have a10:=(hAA.out 10 27 rfl).trans (h10 (haf ⟨10,.data⟩ (by simp) rfl));go_wp2;rw[HC.o];exact⟨_,rfl,e,rfl,p0,p1,fun _=>p1 (haf ⟨10,.data⟩ (by simp) rfl),p3,h0,h1,h2,h3,h4,h5,h6,h7,h8,h9,h10,fun _=>rfl,h12,h13,h14,h15,h16,h17,h18,h19⟩
  ·have b11:=get_some ((hAA.out 11 28 rfl).trans (h11 (haf ⟨11,.guard⟩ (by simp) rfl)));have f7:AA.tmps[7]?.getD undef= .pointer (some ⟨w3.heap.size,0,none⟩):=hFF.out 7 (by decide);go_wp2;rw[HC.o];exact⟨_,rfl,e,rfl,p0,p1,p2,p3,h0,h1,h2,h3,h4,h5,h6,h7,h8,h9,h10,h11,fun _=>rfl,h13,h14,h15,h16,h17,h18,h19⟩
  ·have a12:=(hAA.out 12 29 rfl).trans (h12 (haf ⟨12,.data⟩ (by simp) rfl));have b11:=get_some ((hAA.out 11 28 rfl).trans (h11 (haf ⟨11,.guard⟩ (by simp) rfl)));go_wp2_with (go_at_call 63;refine(HCo.o e.w (p0 hLi).out).mono ?_;rintro r w5 ⟨⟨A9,c9,rfl,q1,q2⟩,hg5⟩);rw[HC.o];exact⟨_,rfl,⟨w5,grown_trans e.g hg5⟩,rfl,fun y=>absurd y (by simp),p1,p2,fun _=>p2 (haf ⟨11,.guard⟩ (by simp) rfl),h0,h1,h2,h3,h4,h5,h6,h7,h8,h9,h10,h11,h12,fun _=>⟨A9,c9,rfl,q1,q2⟩,h14,h15,h16,h17,h18,h19⟩
  ·obtain⟨A9,c9,e9,q1,q2⟩:=h13 (haf ⟨13,.data⟩ (by simp) rfl);have a13:=(hAA.out 13 30 rfl).trans e9;have b11:=get_some ((hAA.out 11 28 rfl).trans (h11 (haf ⟨11,.guard⟩ (by simp) rfl)));go_wp2;rw[HC.o];exact⟨_,rfl,e,rfl,p0,p1,p2,p3,h0,h1,h2,h3,h4,h5,h6,h7,h8,h9,h10,h11,h12,h13,fun _=>rfl,h15,h16,h17,h18,h19⟩
  ·have b11:=get_some ((hAA.out 11 28 rfl).trans (h11 (haf ⟨11,.guard⟩ (by simp) rfl)));have f2:AA.tmps[2]?.getD undef= .pointer (some ⟨w.heap.size,0,none⟩):=hFF.out 2 (by decide);go_wp2;rw[HC.o];exact⟨_,rfl,e,rfl,p0,p1,p2,p3,h0,h1,h2,h3,h4,h5,h6,h7,h8,h9,h10,h11,h12,h13,h14,fun _=>rfl,h16,h17,h18,h19⟩
  ·have a15:=(hAA.out 15 32 rfl).trans (h15 (haf ⟨15,.data⟩ (by simp) rfl));have b11:=get_some ((hAA.out 11 28 rfl).trans (h11 (haf ⟨11,.guard⟩ (by simp) rfl)));go_wp2;rw[HC.o];exact⟨_,rfl,e,rfl,p0,p1,p2,p3,h0,h1,h2,h3,h4,h5,h6,h7,h8,h9,h10,h11,h12,h13,h14,h15,fun _=>rfl,h17,h18,h19⟩
  ·have a16:=(hAA.out 16 33 rfl).trans (h16 (haf ⟨16,.data⟩ (by simp) rfl));have b11:=get_some ((hAA.out 11 28 rfl).trans (h11 (haf ⟨11,.guard⟩ (by simp) rfl)));go_wp2;rw[HC.o];exact⟨_,rfl,e,rfl,p0,p1,p2,p3,h0,h1,h2,h3,h4,h5,h6,h7,h8,h9,h10,h11,h12,h13,h14,h15,h16,fun _=>rfl,h18,h19⟩
  ·have a14:=(hAA.out 14 31 rfl).trans (h14 (haf ⟨14,.data⟩ (by simp) rfl));have a17:=(hAA.out 17 34 rfl).trans (h17 (haf ⟨17,.data⟩ (by simp) rfl));have b11:=get_some ((hAA.out 11 28 rfl).trans (h11 (haf ⟨11,.guard⟩ (by simp) rfl)));go_wp2;rw[HC.o];exact⟨_,rfl,e,rfl,p0,p1,p2,p3,h0,h1,h2,h3,h4,h5,h6,h7,h8,h9,h10,h11,h12,h13,h14,h15,h16,h17,fun _=>rfl,h19⟩
  ·have a11:=(hAA.out 11 28 rfl).trans (h11 (haf ⟨11,.data⟩ (by simp) rfl));have a18:=(hAA.out 18 35 rfl).trans (h18 (haf ⟨18,.data⟩ (by simp) rfl));go_wp2;rw[HC.o];exact⟨_,rfl,e,rfl,p0,p1,p2,p3,h0,h1,h2,h3,h4,h5,h6,h7,h8,h9,h10,h11,h12,h13,h14,h15,h16,h17,h18,fun _=>rfl⟩
 rintro L V w' hL hInv;rw[HC.o] at hInv;obtain⟨e,rfl,p0,p1,p2,p3,h0,h1,h2,h3,h4,h5,h6,h7,h8,h9,h10,h11,h12,h13,h14,h15,h16,h17,h18,h19⟩:=hInv;have k0:=h0 (hL 0 (by simp));have k1:=h1 (hL 1 (by simp));have k2:=h2 (hL 2 (by simp));have k3:=h3 (hL 3 (by simp));have k4:=h4 (hL 4 (by simp));have k5:=h5 (hL 5 (by simp));have k6:=h6 (hL 6 (by simp));have k7:=h7 (hL 7 (by simp));have k8:=h8 (hL 8 (by simp));have k9:=h9 (hL 9 (by simp));have k10:=h10 (hL 10 (by simp));have k11:=h11 (hL 11 (by simp));have k12:=h12 (hL 12 (by simp));have k13:=h13 (hL 13 (by simp));have k14:=h14 (hL 14 (by simp));have k15:=h15 (hL 15 (by simp));have k16:=h16 (hL 16 (by simp));have k17:=h17 (hL 17 (by simp));have k18:=h18 (hL 18 (by simp));have k19:=h19 (hL 19 (by simp));clear h0 h1 h2 h3 h4 h5 h6 h7 h8 h9 h10 h11 h12 h13 h14 h15 h16 h17 h18 h19 hL HC
 have HB6:=hI (HB04.o.grown e.g (by omega) (fun kk hk=>by have:=(Ho4.o.lt kk hk).1;omega));have hs6:=e.g.size;generalize e.w=w6 at HB6 hs6;clear HCon HCo;clear k0 k1 k2 k3 k4 k5 k6 k7 k8 k9 k10 k11 k12 k13 k14 k15 k16 k17 k18 p0 p1 p2 p3 y7 yj0;simp only[putAll];rw[k19];go_frame;have HSe:=hI (show serErr j.p order=if (serialGo j.p 0 order n (bd0 j.p)).1 then 0 else 9 by rw[serErr_rest Hj0.o (by rw[HPm.o];simp),hlo2.out])
 have HMe:=hI (show ∀x∈order,0<=x/\x<j.tasks.length from fun x hx=>by
  have h:=perm_mem (show permB order j.p.tasks.length=true by rw[HPm.o];simp) x hx
  rwa [j.nt] at h)
 have HOp:=hI (opened_any j w6 (by rw[Hn.o];omega));rw[Hjv.o] at HOp;have hsW:=HB6.o.size;have q0:=kC 0 (HX00.o w6 HB6.o) rfl;have q1:=kC 1 (HX00.o w6 HB6.o) rfl;go_upto_region 8 with(go_at_call 64;refine HOp.o.mono ?_;rintro e w7 ⟨⟨g,sb,pb,rfl,hbd,hg0,hs0',hp0⟩,hb7⟩;have hs7:=hb7.size;have Hb7:=hI hb7;have Hbd:=hI hbd;clear hb7 hbd)
 clear q0 q1 HOp;have HB7:=hI (HB6.o.trans (Hb7.o.mono hsW));have HSr:=hI (serial_any j 0 order g sb pb B n oc OA (bd0 j.p) w7 hlo2.out.symm h64 hole hocc Hbd.o (HJ.o w7 HB7.o).1 (by omega) (by omega) (openR_ne Hbd.o) HG.o (bd0_ok j.p) (by omega) HMe.o (fun X hX=>((HJ.o w7 HB7.o).2.sl.below (hX.below (by omega) (by omega) (by omega))).mono (by have:=hX.size;omega)));have HSt:=hI (serialGo_st j.p 0 order n (bd0 j.p)).1;obtain⟨SG,hSG⟩:=eX (serialGo j.p 0 order n (bd0 j.p));rw[hSG] at HSr HSe HSt;have HSG:=hI hSG;clear hSG;cases hs1:SG.1
 ·have HV:=hI (show serErr j.p order=9 by rw[HSe.o,hs1];rfl);rw[hs1] at HSr;go_wp2_with (go_at_call 65;refine HSr.o.mono ?_;rintro e w8 ⟨rfl,hk8,hb8⟩;have Hk8:=hI hk8;clear hk8 hb8);go_ret2;exact SerR.bad HV.o (by decide) (HU0.o _ (HB7.o.trans (Hk8.o.below (by omega) (by omega) (by omega))))
 ·have HV:=hI (show serErr j.p order=0 by rw[HSe.o,hs1];rfl);rw[hs1] at HSr;go_upto_region 10 with(go_at_call 65;refine HSr.o.mono ?_;rintro e w8 ⟨rfl,hk8,hb8⟩;have Hk8:=hI hk8;have Hb8:=hI hb8;clear hk8 hb8)
  have p2:=kC 2 Hb8.o.hg rfl;rw[Hn.o] at p2
  have HR:=hI (show SerR j order w (.returned (.tuple #[.slice (some ⟨sb,0,none⟩) n n,.int .i64 0])) w8 from by
   have hB8:=HB7.o.trans (Hk8.o.below (B:=W0.heap.size) (by omega) (by omega) (by omega));refine⟨⟨.slice (some ⟨sb,0,none⟩) n n,by rw[HV.o],?_⟩,HU0.o _ hB8⟩;rw[serV_ok HV.o,hlo2.out,HSG.o];have hl:SG.2.st.length=n:=by rw[HSt.o];simp[bd0,j.nt,Hn.o]
   refine⟨by simp[hl],.inr ⟨sb,n,_,by rw[hl],by omega,Hb8.o.hs,by rw[hl];exact zm _,by unfold maxLen;omega,by simp[hl],by rw[zG (by simp[hl])]⟩⟩)
  go_wp2;go_ret2;exact HR.o
end Go.Proofs.YtjpgnfekbojcaaaGreat
