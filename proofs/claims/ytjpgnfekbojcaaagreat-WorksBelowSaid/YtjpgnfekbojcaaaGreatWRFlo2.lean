/- The specification's least chain. -/
import Derived.Test.YtjpgnfekbojcaaaGreatWHeavy
import Derived.Test.YtjpgnfekbojcaaaGreatWFlr
namespace W8
open W7
theorem chainGo_len {j:JobP}:∀(f:Nat) (last left:Int),(chainGo j f last left).length<=f
 | 0,_,_=>Nat.le_refl _
 | f+1,last,left=>by
  simp only[chainGo];cases h:(List.range j.tasks.length).find? (nextB j last left) with
  | none=>simp
  | some n=>
   simp only[List.length_cons]
   split
   ·simp
   ·have:=chainGo_len (j:=j) f n (left-(j.tasks.getD n default).takes);omega
end W8
namespace Go.Proofs.YtjpgnfekbojcaaaGreat
open Go.RowKit W7 W8
attribute [local go_sem] Oper.semAt_some
end Go.Proofs.YtjpgnfekbojcaaaGreat
namespace W8
open W7
theorem room_mono {j:JobP} (hG:JGood j) {r:ResP} (hr:r∈j.res) {m m':Int} (h0:0<=m) (h1:m<=m') (h2:m'<=1099511627776):roomV r m<=roomV r m':=by
 have hg:=off_good hG hr;have a1:=offTo_min (m:=m) (L:=0) hg.1 hg.2;have a2:=offTo_grow (m:=m) (m':=m') (L:=0) h1 hg.1 hg.2;have a3:=hG.many r hr;unfold roomV;exact Int.mul_le_mul_of_nonneg_right (by omega) a3.1
theorem room_nn {j:JobP} (hG:JGood j) {r:ResP} (hr:r∈j.res) (m:Int):0<=roomV r m:=by
 unfold roomV;exact Int.mul_nonneg (by omega) (hG.many r hr).1
def BisOk (r:ResP) (w x:Int):Prop:= -1<=x/\x<=100000/\(∀m,0<=m->m<=x->roomV r m<w)/\∀m,x<m->m<=100000-> ¬roomV r m<w
theorem bis_ok {j:JobP} (hG:JGood j) {r:ResP} (hr:r∈j.res) {w:Int}:∀(f:Nat) (lo hi:Int), -1<=lo->lo<=hi->hi<=100000->(hi-lo).toNat<=f->(∀m,0<=m->m<=lo->roomV r m<w)->(∀m,hi<m->m<=100000-> ¬roomV r m<w)->BisOk r w (bisGo r w f lo hi)
 | 0,lo,hi,h1,h2,h3,h4,hA,hB=>by
  rw[bis_done (by omega)];exact⟨h1,by omega,hA,fun m hm=>hB m (by omega)⟩
 | f+1,lo,hi,h1,h2,h3,h4,hA,hB=>by
  by_cases hlt:lo<hi
  rotate_left
  ·rw[bis_done hlt];exact⟨h1,by omega,hA,fun m hm=>hB m (by omega)⟩
  by_cases hm:roomV r ((lo+hi+1)/2)<w
  ·rw[bis_lo hlt hm];refine bis_ok hG hr f _ _ (by omega) (by omega) h3 (by omega) (fun m h5 h6=> ?_) hB;have:=room_mono hG hr h5 h6 (by omega);omega
  ·rw[bis_hi hlt hm];refine bis_ok hG hr f _ _ h1 (by omega) (by omega) (by omega) hA (fun m h5 h6=> ?_);have:=room_mono hG hr (m:=(lo+hi+1)/2) (m':=m) (by omega) (by omega) (by omega);omega
theorem bisV_ok {j:JobP} (hG:JGood j) {r:ResP} (hr:r∈j.res) (w:Int):BisOk r w (bisV r w):=
 bis_ok hG hr _ _ _ (by omega) (by omega) (by omega) (by omega) (fun m h1 h2=>by omega) (fun m h1 h2=>by omega)
theorem fl_shape {j:JobP}:∀q,flTo j q=flTo j 0\/longV j<(flTo j q).minutes/\(flTo j q).chain=[]
 | 0=> .inl rfl
 | q+1=>by
  have h:=fl_shape (j:=j) q;simp only[flTo,flStep]
  split
  ·rename_i h2
   refine .inr ⟨?_,rfl⟩
   show longV j<bisV _ _+1
   rcases h with h | h
   ·rw[h] at h2;exact h2
   ·omega
  ·exact h
theorem fl_min {j:JobP} (hG:JGood j) (q:Nat):0<=longV j/\longV j<=(flTo j q).minutes/\longV j<=100001:=by
 have h1:=longTo_le hG j.tasks.length (Nat.le_refl _);have h2:0<=longV j/\longV j<=100001:=by unfold longV;omega
 rcases fl_shape (j:=j) q with h | h
 ·rw[h];exact⟨h2.1,Int.le_refl _,h2.2⟩
 ·omega
theorem fl_max {j:JobP} (hG:JGood j):∀q,q<=j.res.length->(flTo j q).minutes<=100001
 | 0,_=>(fl_min hG 0).2.2
 | q+1,hq=>by
  have h:=fl_max hG q (by omega);have hr:j.res.getD q default∈j.res:=by rw[getD_of (by omega)];exact List.getElem_mem _
  have h2:=(bisV_ok hG hr (workV j q)).2.1;simp only[flTo,flStep]
  split
  ·show bisV _ _+1<=_;omega
  ·exact h
end W8
namespace Go.Proofs.YtjpgnfekbojcaaaGreat
open Go.RowKit W7 W8
attribute [local go_sem] Oper.semAt_some
end Go.Proofs.YtjpgnfekbojcaaaGreat
