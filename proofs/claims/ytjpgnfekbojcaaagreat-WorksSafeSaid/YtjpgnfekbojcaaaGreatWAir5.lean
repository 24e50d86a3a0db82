/-
  Stays: the rules; what is wrong with a stay. Conditions: how the stay and those ahead of it lie in memory; their times are times.
-/
import Derived.Test.YtjpgnfekbojcaaaGreatWRegS
import Derived.Lib.LazyBuf
set_option maxHeartbeats 4000000
set_option maxRecDepth 100000
namespace Go.Proofs.YtjpgnfekbojcaaaGreat
open Go.RowKit W7 W8
attribute [local go_sem] Oper.semAt_some
theorem eqF_some {P : Program} (w : World) (d : Nat) (t : TypeId) {ps rs : Array TypeId} {b : Bool} (f : Fn) (fv cs : Array Value) (h : P.underlying t = some (.func ps rs b)) : (Op.equalIn (d + 1) t (.func f fv cs) .nilFunc).run P w = .ok false w := by
 simp [Op.equalIn, run_underlying h]
theorem eqF_nil {P : Program} (w : World) (d : Nat) (t : TypeId) {ps rs : Array TypeId} {b : Bool} (h : P.underlying t = some (.func ps rs b)) : (Op.equalIn (d + 1) t .nilFunc .nilFunc).run P w = .ok true w := by
 simp [Op.equalIn, run_underlying h]
theorem neqF_some {P : Program} (w : World) (t : TypeId) {ps rs : Array TypeId} {b : Bool} (f : Fn) (fv cs : Array Value) (h : P.underlying t = some (.func ps rs b)) : (binOp .neq t (.func f fv cs) .nilFunc).run P w = .ok (.bool true) w := by
 have e : (Op.equal t (.func f fv cs) .nilFunc).run P w = .ok false w := eqF_some w 9999 t f fv cs h
 simp [binOp, e]
theorem neqF_nil {P : Program} (w : World) (t : TypeId) {ps rs : Array TypeId} {b : Bool} (h : P.underlying t = some (.func ps rs b)) : (binOp .neq t .nilFunc .nilFunc).run P w = .ok (.bool false) w := by
 have e : (Op.equal t .nilFunc .nilFunc).run P w = .ok true w := eqF_nil w 9999 t h
 simp [binOp, e]
def rulesO : Obj := .cells #[.nilFunc, .func (.func 196) #[] #[], .func (.func 197) #[] #[], .func (.func 198) #[] #[], .func (.func 199) #[] #[], .func (.func 200) #[] #[]] 220
theorem rules_any (w : World) : Calls Tryz.prog 171 #[] w fun e w' => e = .returned (.slice (some ⟨w.heap.size, 0, none⟩) 6 6) /\ w' = w.alloc rulesO := by
 go_enter Tryz.func171, Tryz.ntmps171
 go_wp2
 go_ret
 exact ⟨rfl, rfl⟩
theorem fault_any (t : Table) (d : Dive) (l : List Dive) (A : Option Addr) (n c B : Nat) (w : World) (ht : TIn w B t) (htl : t.rows.length <= 1000000000) (hn : n = l.length) (hA : Sl w B 5 encDive A l) (hz : A = none -> n = 0 /\ c = 0) (hB : B <= w.heap.size) (hd : OkDive d) (hl : ∀ x ∈ l, OkDive x) (hnl : n <= 1000000) :
  Calls Tryz.prog 107 #[stayV t d A n c] w fun e w' => e = .returned (.int .u8 (faultN t l d)) /\ Below w.heap.size w w' := by
 obtain ⟨W0, hW0⟩ : ∃ W0, W0 = w.alloc (stayO t d A n c) := ⟨_, rfl⟩
 unfold stayO at hW0
 have hs0 : W0.heap.size = w.heap.size + 1 := by rw [hW0]; simp
 have HB0 := hI (show Below w.heap.size w W0 by rw [hW0]; exact (Below.refl _ _).alloc (Nat.le_refl _) _)
 have h0 : W0.heap[w.heap.size]? = some (stayO t d A n c) := by rw [hW0]; exact heap_alloc_new _ _
 have HR := hI (rules_any W0)
 have HW0 := hI hW0
 have HQ := hI (show ∀ X : World, Below W0.heap.size W0 X -> X.heap[w.heap.size]? = some (stayO t d A n c) from fun X hX => (hX.block _ (by omega)).trans h0)
 have HT := hI (show ∀ X : World, Below W0.heap.size W0 X -> TIn X B t /\ Sl X B 5 encDive A l from fun X hX => ⟨ht.below ((HB0.out.mono hB).trans (hX.mono (by omega))), hA.below ((HB0.out.mono hB).trans (hX.mono (by omega)))⟩)
 have Hn := hI hn
 have Hd := hI hd
 have Hl := hI hl
 have Hz := hI hz
 have H1 := hI (fun X : World => inOrder_any t d A n c X)
 have H2 := hI (fun (X : World) (hX : Below W0.heap.size W0 X) => counted_any t d A n c B X (HT.out X hX).1 (by have := hX.size; omega) htl Hd.out)
 have H3 := hI (fun (X : World) (hX : Below W0.heap.size W0 X) => stayOut_any t d A n c B X (HT.out X hX).1 (by have := hX.size; omega) htl Hd.out)
 have H4 := hI (fun (X : World) (hX : Below W0.heap.size W0 X) => rested_any t d l A n c B X Hn.out (HT.out X hX).2 (by have := hX.size; omega) Hd.out Hl.out hnl)
 have H5 := hI (fun (X : World) (hX : Below W0.heap.size W0 X) => day_any t d l A n c B X Hn.out (HT.out X hX).2 Hz.out (by have := hX.size; omega) Hd.out Hl.out hnl)
 have HF := hI (show faultN t l d = if !ordB d then 1 else if !cntB t d then 2 else if !outB t d then 3 else if !restB t l d then 4 else if !dayB t l d then 5 else 0 from rfl)
 clear hW0 h0 ht hA hn hd hl hz
 have hnf := fun (w : World) (f : Fn) => neqF_some (P := Tryz.prog) w 220 f #[] #[] Tryz.underlying220
 have hnn := fun (w : World) => neqF_nil (P := Tryz.prog) w 220 Tryz.underlying220
 unfold stayV at H1 H2 H3 H4 H5
 unfold stayV
 go_enter Tryz.func107, Tryz.ntmps107
 go_wp2_with (go_at_call 171; fail)
 rw [<- HW0.out]
 refine HR.out.mono ?_
 rintro e w1 ⟨rfl, hw1⟩
 have hb1 : Below W0.heap.size W0 w1 := by rw [hw1]; exact (Below.refl _ _).alloc (Nat.le_refl _) _
 have hr1 : w1.heap[w.heap.size + 1]? = some rulesO := by rw [<- hs0, hw1]; exact heap_alloc_new _ _
 have hz1 : W0.heap.size < w1.heap.size := by rw [hw1]; simp
 have HR1 := hI hr1
 have HB1 := hI hb1
 clear hw1 hr1 hb1 HR
 go_wp2
 go_loopw [7] (fun v wr => ∃ i : Nat, i <= 6 /\ v = .int .i64 i /\ Hid (Below w1.heap.size w1 wr) /\ Hid ((2 <= i -> ordB d = true) /\ (3 <= i -> cntB t d = true) /\ (4 <= i -> outB t d = true) /\ (5 <= i -> restB t l d = true) /\ (6 <= i -> dayB t l d = true))) (fun v _ => 6 - (intOf v).toNat)
 case atStart => exact ⟨0, by omega, rfl, hI (Below.refl _ _), hI ⟨fun h => absurd h (by decide), fun h => absurd h (by decide), fun h => absurd h (by decide), fun h => absurd h (by decide), fun h => absurd h (by decide)⟩⟩
 case round =>
  obtain ⟨i, hi, rfl, Hb, Hinv⟩ := hrel
  have hsr := Hb.out.size
  have HBr := hI (HB1.out.trans (Hb.out.mono (by have := HB1.out.size; omega)))
  have HBw := hI (HB0.out.trans (HBr.out.mono (by omega)))
  have hq := HQ.out wr HBr.out
  unfold stayO at hq
  have q0 : wr.cell? ⟨w.heap.size, 0, none⟩ = some (.slice t.A t.rows.length t.c) := by simp only [World.cell?, hq]; rfl
  have q1 : wr.cell? ⟨w.heap.size, 1, none⟩ = some (.int .i64 t.rest) := by simp only [World.cell?, hq]; rfl
  have q2 : wr.cell? ⟨w.heap.size, 2, none⟩ = some (.int .i64 t.day) := by simp only [World.cell?, hq]; rfl
  have q3 : wr.cell? ⟨w.heap.size, 3, none⟩ = some (.string d.who) := by simp only [World.cell?, hq]; rfl
  have q4 : wr.cell? ⟨w.heap.size, 4, none⟩ = some (.int .i64 d.pr) := by simp only [World.cell?, hq]; rfl
  have q5 : wr.cell? ⟨w.heap.size, 5, none⟩ = some (.int .i64 d.tin) := by simp only [World.cell?, hq]; rfl
  have q6 : wr.cell? ⟨w.heap.size, 6, none⟩ = some (.int .i64 d.leave) := by simp only [World.cell?, hq]; rfl
  have q7 : wr.cell? ⟨w.heap.size, 7, none⟩ = some (.int .i64 d.out) := by simp only [World.cell?, hq]; rfl
  have q8 : wr.cell? ⟨w.heap.size, 8, none⟩ = some (.slice A n c) := by simp only [World.cell?, hq]; rfl
  have hr := (Hb.out.block (w.heap.size + 1) (by omega)).trans HR1.out
  unfold rulesO at hr
  clear hq
  rcases i with _ | _ | _ | _ | _ | _ | _ | i
  ·have r0 : wr.cell? ⟨w.heap.size + 1, 0, none⟩ = some .nilFunc := by simp only [World.cell?, hr]; rfl
   clear hr
   go_wp2
   go_roundw
   case rel => exact ⟨1, by omega, by go_num, Hb, hI ⟨fun h => absurd h (by omega), fun h => absurd h (by omega), fun h => absurd h (by omega), fun h => absurd h (by omega), fun h => absurd h (by omega)⟩⟩
   case measure => simp [intOf]
  ·have r0 : wr.cell? ⟨w.heap.size + 1, 1, none⟩ = some (.func (.func 196) #[] #[]) := by simp only [World.cell?, hr]; rfl
   clear hr
   have HK := hI (H1.out wr)
   cases hR : ordB d
   ·rw [hR] at HK
    have HE := hI (show faultN t l d = 1 by rw [HF.out, hR]; rfl)
    go_wp2_with (go_at_call 196; refine HK.out.mono ?_; rintro e w2 ⟨rfl, hb2⟩; have Hb2 := hI hb2; clear hb2)
    go_ret
    exact ⟨by rw [HE.out]; rfl, HBw.out.trans (Hb2.out.mono (by omega))⟩
   ·rw [hR] at HK
    go_wp2_with (go_at_call 196; refine HK.out.mono ?_; rintro e w2 ⟨rfl, hb2⟩; have Hb2 := hI hb2; clear hb2)
    go_roundw
    case rel => exact ⟨2, by omega, by go_num, hI (Hb.out.trans (Hb2.out.mono hsr)), hI ⟨(fun _ => by first | exact hR | trivial), fun h => absurd h (by omega), fun h => absurd h (by omega), fun h => absurd h (by omega), fun h => absurd h (by omega)⟩⟩
    case measure => simp [intOf]
  ·have r0 : wr.cell? ⟨w.heap.size + 1, 2, none⟩ = some (.func (.func 197) #[] #[]) := by simp only [World.cell?, hr]; rfl
   clear hr
   have HK := hI (H2.out wr HBr.out)
   cases hR : cntB t d
   ·rw [hR] at HK
    have HE := hI (show faultN t l d = 2 by rw [HF.out, Hinv.out.1 (by omega), hR]; rfl)
    go_wp2_with (go_at_call 197; refine HK.out.mono ?_; rintro e w2 ⟨rfl, hb2⟩; have Hb2 := hI hb2; clear hb2)
    go_ret
    exact ⟨by rw [HE.out]; rfl, HBw.out.trans (Hb2.out.mono (by omega))⟩
   ·rw [hR] at HK
    go_wp2_with (go_at_call 197; refine HK.out.mono ?_; rintro e w2 ⟨rfl, hb2⟩; have Hb2 := hI hb2; clear hb2)
    go_roundw
    case rel => exact ⟨3, by omega, by go_num, hI (Hb.out.trans (Hb2.out.mono hsr)), hI ⟨fun _ => Hinv.out.1 (by omega), (fun _ => by first | exact hR | trivial), fun h => absurd h (by omega), fun h => absurd h (by omega), fun h => absurd h (by omega)⟩⟩
    case measure => simp [intOf]
  ·have r0 : wr.cell? ⟨w.heap.size + 1, 3, none⟩ = some (.func (.func 198) #[] #[]) := by simp only [World.cell?, hr]; rfl
   clear hr
   have HK := hI (H3.out wr HBr.out)
   cases hR : outB t d
   ·rw [hR] at HK
    have HE := hI (show faultN t l d = 3 by rw [HF.out, Hinv.out.1 (by omega), Hinv.out.2.1 (by omega), hR]; rfl)
    go_wp2_with (go_at_call 198; refine HK.out.mono ?_; rintro e w2 ⟨rfl, hb2⟩; have Hb2 := hI hb2; clear hb2)
    go_ret
    exact ⟨by rw [HE.out]; rfl, HBw.out.trans (Hb2.out.mono (by omega))⟩
   ·rw [hR] at HK
    go_wp2_with (go_at_call 198; refine HK.out.mono ?_; rintro e w2 ⟨rfl, hb2⟩; have Hb2 := hI hb2; clear hb2)
    go_roundw
    case rel => exact ⟨4, by omega, by go_num, hI (Hb.out.trans (Hb2.out.mono hsr)), hI ⟨fun _ => Hinv.out.1 (by omega), fun _ => Hinv.out.2.1 (by omega), (fun _ => by first | exact hR | trivial), fun h => absurd h (by omega), fun h => absurd h (by omega)⟩⟩
    case measure => simp [intOf]
  ·have r0 : wr.cell? ⟨w.heap.size + 1, 4, none⟩ = some (.func (.func 199) #[] #[]) := by simp only [World.cell?, hr]; rfl
   clear hr
   have HK := hI (H4.out wr HBr.out)
   cases hR : restB t l d
   ·rw [hR] at HK
    have HE := hI (show faultN t l d = 4 by rw [HF.out, Hinv.out.1 (by omega), Hinv.out.2.1 (by omega), Hinv.out.2.2.1 (by omega), hR]; rfl)
    go_wp2_with (go_at_call 199; refine HK.out.mono ?_; rintro e w2 ⟨rfl, hb2⟩; have Hb2 := hI hb2; clear hb2)
    go_ret
    exact ⟨by rw [HE.out]; rfl, HBw.out.trans (Hb2.out.mono (by omega))⟩
   ·rw [hR] at HK
    go_wp2_with (go_at_call 199; refine HK.out.mono ?_; rintro e w2 ⟨rfl, hb2⟩; have Hb2 := hI hb2; clear hb2)
    go_roundw
    case rel => exact ⟨5, by omega, by go_num, hI (Hb.out.trans (Hb2.out.mono hsr)), hI ⟨fun _ => Hinv.out.1 (by omega), fun _ => Hinv.out.2.1 (by omega), fun _ => Hinv.out.2.2.1 (by omega), (fun _ => by first | exact hR | trivial), fun h => absurd h (by omega)⟩⟩
    case measure => simp [intOf]
  ·have r0 : wr.cell? ⟨w.heap.size + 1, 5, none⟩ = some (.func (.func 200) #[] #[]) := by simp only [World.cell?, hr]; rfl
   clear hr
   have HK := hI (H5.out wr HBr.out)
   cases hR : dayB t l d
   ·rw [hR] at HK
    have HE := hI (show faultN t l d = 5 by rw [HF.out, Hinv.out.1 (by omega), Hinv.out.2.1 (by omega), Hinv.out.2.2.1 (by omega), Hinv.out.2.2.2.1 (by omega), hR]; rfl)
    go_wp2_with (go_at_call 200; refine HK.out.mono ?_; rintro e w2 ⟨rfl, hb2⟩; have Hb2 := hI hb2; clear hb2)
    go_ret
    exact ⟨by rw [HE.out]; rfl, HBw.out.trans (Hb2.out.mono (by omega))⟩
   ·rw [hR] at HK
    go_wp2_with (go_at_call 200; refine HK.out.mono ?_; rintro e w2 ⟨rfl, hb2⟩; have Hb2 := hI hb2; clear hb2)
    go_roundw
    case rel => exact ⟨6, by omega, by go_num, hI (Hb.out.trans (Hb2.out.mono hsr)), hI ⟨fun _ => Hinv.out.1 (by omega), fun _ => Hinv.out.2.1 (by omega), fun _ => Hinv.out.2.2.1 (by omega), fun _ => Hinv.out.2.2.2.1 (by omega), (fun _ => by first | exact hR | trivial)⟩⟩
    case measure => simp [intOf]
  ·have HE := hI (show faultN t l d = 0 by rw [HF.out, Hinv.out.1 (by omega), Hinv.out.2.1 (by omega), Hinv.out.2.2.1 (by omega), Hinv.out.2.2.2.1 (by omega), Hinv.out.2.2.2.2 (by omega)]; rfl)
   go_wp2
   go_ret
   exact ⟨by rw [HE.out]; rfl, HBw.out⟩
  ·omega
end Go.Proofs.YtjpgnfekbojcaaaGreat
