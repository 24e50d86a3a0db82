/- The specification's greatest floor: Least. -/
import Derived.Test.YtjpgnfekbojcaaaGreatWRFlo2
import Derived.Test.YtjpgnfekbojcaaaGreatWFlr
set_option maxHeartbeats 16000000
set_option maxRecDepth 100000
namespace W8
open W7
theorem room_mono {j : JobP} (hG : JGood j) {r : ResP} (hr : r ∈ j.res) {m m' : Int} (h0 : 0 <= m) (h1 : m <= m') (h2 : m' <= 1099511627776) : roomV r m <= roomV r m' := by
 have hg := off_good hG hr; have a1 := offTo_min (m := m) (L := 0) hg.1 hg.2; have a2 := offTo_grow (m := m) (m' := m') (L := 0) h1 hg.1 hg.2; have a3 := hG.many r hr; unfold roomV; exact Int.mul_le_mul_of_nonneg_right (by omega) a3.1
theorem room_nn {j : JobP} (hG : JGood j) {r : ResP} (hr : r ∈ j.res) (m : Int) : 0 <= roomV r m := by
 unfold roomV; exact Int.mul_nonneg (by omega) (hG.many r hr).1
def BisOk (r : ResP) (w x : Int) : Prop := -1 <= x /\ x <= 100000 /\ (∀ m,0 <= m -> m <= x -> roomV r m < w) /\ ∀ m,x < m -> m <= 100000 -> ¬ roomV r m < w
theorem bis_ok {j : JobP} (hG : JGood j) {r : ResP} (hr : r ∈ j.res) {w : Int} : ∀ (f : Nat) (lo hi : Int), -1 <= lo -> lo <= hi -> hi <= 100000 -> (hi - lo).toNat <= f -> (∀ m,0 <= m -> m <= lo -> roomV r m < w) -> (∀ m,hi < m -> m <= 100000 -> ¬ roomV r m < w) -> BisOk r w (bisGo r w f lo hi)
 | 0,lo,hi,h1,h2,h3,h4,hA,hB => by
  rw [bis_done (by omega)]; exact ⟨h1,by omega,hA,fun m hm => hB m (by omega)⟩
 | f + 1,lo,hi,h1,h2,h3,h4,hA,hB => by
  by_cases hlt : lo < hi
  rotate_left
  ·rw [bis_done hlt]; exact ⟨h1,by omega,hA,fun m hm => hB m (by omega)⟩
  by_cases hm : roomV r ((lo + hi + 1) / 2) < w
  ·rw [bis_lo hlt hm]; refine bis_ok hG hr f _ _ (by omega) (by omega) h3 (by omega) (fun m h5 h6 => ?_) hB; have := room_mono hG hr h5 h6 (by omega); omega
  ·rw [bis_hi hlt hm]; refine bis_ok hG hr f _ _ h1 (by omega) (by omega) (by omega) hA (fun m h5 h6 => ?_); have := room_mono hG hr (m := (lo + hi + 1) / 2) (m' := m) (by omega) (by omega) (by omega); omega
theorem bisV_ok {j : JobP} (hG : JGood j) {r : ResP} (hr : r ∈ j.res) (w : Int) : BisOk r w (bisV r w) :=
 bis_ok hG hr _ _ _ (by omega) (by omega) (by omega) (by omega) (fun m h1 h2 => by omega) (fun m h1 h2 => by omega)
theorem bis_first {j : JobP} (hG : JGood j) {r : ResP} (hr : r ∈ j.res) {w n : Int} (h0 : 0 <= n) (h1 : n <= 100001) (hA : ∀ m,0 <= m -> m < n -> roomV r m < w) (hB : n <= 100000 -> ¬ roomV r n < w) : n = bisV r w + 1 := by
 obtain ⟨b1,b2,b3,b4⟩ := bisV_ok hG hr w; rcases Int.lt_trichotomy n (bisV r w + 1) with h | h | h
 ·exact absurd (b3 n h0 (by omega)) (hB (by omega))
 ·exact h
 ·exact absurd (hA (bisV r w + 1) (by omega) (by omega)) (b4 _ (by omega) (by omega))
theorem bis_none {j : JobP} (hG : JGood j) {r : ResP} (hr : r ∈ j.res) {w : Int} (h : w <= 0) : bisV r w = -1 := by
 obtain ⟨b1,b2,b3,b4⟩ := bisV_ok hG hr w; rcases Int.lt_or_le (-1) (bisV r w) with h5 | h5
 ·have h6 := b3 0 (by omega) (by omega); have h7 := room_nn hG hr 0; omega
 ·omega
theorem fl_shape {j : JobP} : ∀ q,flTo j q = flTo j 0 \/ longV j < (flTo j q).minutes /\ (flTo j q).chain = []
 | 0 => .inl rfl
 | q + 1 => by
  have h := fl_shape (j := j) q; simp only [flTo,flStep]
  split
  ·rename_i h2
   refine .inr ⟨?_,rfl⟩
   show longV j < bisV _ _ + 1
   rcases h with h | h
   ·rw [h] at h2; exact h2
   ·omega
  ·exact h
theorem fl_min {j : JobP} (hG : JGood j) (q : Nat) : 0 <= longV j /\ longV j <= (flTo j q).minutes /\ longV j <= 100001 := by
 have h1 := longTo_le hG j.tasks.length (Nat.le_refl _); have h2 : 0 <= longV j /\ longV j <= 100001 := by unfold longV; omega
 rcases fl_shape (j := j) q with h | h
 ·rw [h]; exact ⟨h2.1,Int.le_refl _,h2.2⟩
 ·omega
theorem fl_max {j : JobP} (hG : JGood j) : ∀ q,q <= j.res.length -> (flTo j q).minutes <= 100001
 | 0,_ => (fl_min hG 0).2.2
 | q + 1,hq => by
  have h := fl_max hG q (by omega); have hr : j.res.getD q default ∈ j.res := by rw [getD_of (by omega)]; exact List.getElem_mem _
  have h2 := (bisV_ok hG hr (workV j q)).2.1; simp only [flTo,flStep]
  split
  ·show bisV _ _ + 1 <= _; omega
  ·exact h
end W8
namespace Go.Proofs.YtjpgnfekbojcaaaGreat
open Go.RowKit W7 W8
attribute [local go_sem] Oper.semAt_some
theorem refLeast_any (j : Job) (B : Nat) (w : World) (hj : JIn w B j) (hB : B <= w.heap.size) :
  Calls Tryz.prog 52 #[jobV j] w (FloR j w) := by
 obtain ⟨n,hn⟩ : ∃ n,j.tasks.length = n := ⟨_,rfl⟩
 obtain ⟨TA,hTA⟩ : ∃ x,j.TA = x := ⟨_,rfl⟩
 obtain ⟨RA,hRA⟩ : ∃ x,j.RA = x := ⟨_,rfl⟩
 obtain ⟨nr,hnr'⟩ : ∃ x,j.res.length = x := ⟨_,rfl⟩
 have hjv : jobV j = .agg #[.slice TA n j.tc,.slice RA nr j.rc] := by unfold jobV; rw [hn,hTA,hRA,hnr']
 obtain ⟨W0,HW0,hs0,HB0,HX00,HX01,HU0⟩ := boxes2 w (.cells #[.slice TA n j.tc,.slice RA nr j.rc] 25) (.cells #[.int .i64 0,.slice none 0 0,.int .i64 0] 92); have HJ := hI (show ∀ X : World,Bl W0 X -> JIn X B j from fun X hX => hj.below ((HU0.o X hX).mono hB)); have HC := hI (refCheck_any j B W0 (HJ.o W0 (Below.refl _ _)) (by omega)); have hlc := hj.tl; have hc2 := hj.tc; have hlr := hj.rl; have hcr := hj.rc; rw [hn] at hlc; rw [hnr'] at hlr; have Hn := hI hn; have HTA := hI hTA; have HRA := hI hRA; have Hnr := hI hnr'; have Hjv := hI hjv; rw [hjv] at HC ⊢; obtain ⟨je,hje⟩ : ∃ x,jobErr j.p = x := ⟨_,rfl⟩
 rw [hje] at HC; have Hje := hI hje; have q0 := W7.bc (j := 0) (HX00.o W0 (Below.refl _ _)) rfl; have q1 := W7.bc (j := 1) (HX00.o W0 (Below.refl _ _)) rfl; clear hj hn hjv hje hTA hRA hnr'; go_enter Tryz.func52,Tryz.ntmps52; go_upto_region 1 with fail; rw [<- HW0.o]; go_upto_region 2 with (go_at_call 38; refine HC.o.mono ?_; rintro e w1 ⟨rfl,hb1⟩; have hs1 := hb1.size; have Hb1 := hI hb1; clear hb1)
 clear q0 q1 HC; cases h0 : (je == 0)
 ·have h0' : (je != 0) = true := by simp [bne,h0]
  have hne : je ≠ 0 := fun h => by rw [h] at h0; cases h0
  have HR := hI (flo_end (j := j) (v := .slice none 0 0) (floorV_err (by rw [Hje.o]; exact hne)) Hje.o (HU0.o _ Hb1.o) (Nat.le_succ _) (HX01.o w1 Hb1.o) (World.ownsRow_nil _ _ _ _)); have q0 := W7.bc (j := 0) (HX01.o w1 Hb1.o) rfl; have q1 := W7.bc (j := 1) (HX01.o w1 Hb1.o) rfl; have q2 := W7.bc (j := 2) (HX01.o w1 Hb1.o) rfl; have f0 := W7.bf (j := 0) (HX01.o w1 Hb1.o); have f1 := W7.bf (j := 1) (HX01.o w1 Hb1.o); have f2 := W7.bf (j := 2) (HX01.o w1 Hb1.o); have hG1 := putFl_blk (HX01.o w1 Hb1.o) ⟨0,[],0⟩ (.slice none 0 0); obtain ⟨X1,hX1⟩ : ∃ X1,X1 = putFl w1 (w.heap.size + 1) ⟨0,[],0⟩ (.slice none 0 0) := ⟨_,rfl⟩
  rw [<- hX1] at hG1 HR; unfold putFl at hX1; have g0 := W7.bc (j := 0) hG1 rfl; have g1 := W7.bc (j := 1) hG1 rfl; have g2 := W7.bc (j := 2) hG1 rfl; clear hG1; go_wp2; rw [<- hX1]; clear hX1; refine bodyPost_ret (v := .tuple #[.agg (flC ⟨0,[],0⟩ (.slice none 0 0)),.int .i64 je]) (by simp [results,Tryz.results52,go_sem,g0,g1,g2,flC]) rfl ?_; exact HR.o
 have h0' : (je != 0) = false := by simp [bne,h0]
 have Hj0 := hI (show jobErr j.p = 0 by rw [Hje.o]; exact eq_of_beq h0); have HG := hI (good_of Hj0.o); have h64 : n <= 64 := by have := HG.o.nt; rw [j.nt,Hn.o] at this; exact this
 have hnr16 : nr <= 16 := by have h := HG.o.nr; rw [j.nr,Hnr.o] at h; exact h
 have q0 := W7.bc (j := 0) (HX00.o w1 Hb1.o) rfl; have q1 := W7.bc (j := 1) (HX00.o w1 Hb1.o) rfl
 by_cases hz : n = 0
 ·subst hz; have HR := hI (flo_end (j := j) (v := .slice none 0 0) (floorV_no Hj0.o (by rw [j.nt]; exact Hn.o)) Hj0.o (HU0.o _ Hb1.o) (Nat.le_succ _) (HX01.o w1 Hb1.o) (World.ownsRow_nil _ _ _ _)); have r0 := W7.bc (j := 0) (HX01.o w1 Hb1.o) rfl; have r1 := W7.bc (j := 1) (HX01.o w1 Hb1.o) rfl; have r2 := W7.bc (j := 2) (HX01.o w1 Hb1.o) rfl; have f0 := W7.bf (j := 0) (HX01.o w1 Hb1.o); have f1 := W7.bf (j := 1) (HX01.o w1 Hb1.o); have f2 := W7.bf (j := 2) (HX01.o w1 Hb1.o); have hG1 := putFl_blk (HX01.o w1 Hb1.o) ⟨0,[],0⟩ (.slice none 0 0); obtain rfl := eq_of_beq h0; obtain ⟨X1,hX1⟩ : ∃ X1,X1 = putFl w1 (w.heap.size + 1) ⟨0,[],0⟩ (.slice none 0 0) := ⟨_,rfl⟩
  rw [<- hX1] at hG1 HR; unfold putFl at hX1; have g0 := W7.bc (j := 0) hG1 rfl; have g1 := W7.bc (j := 1) hG1 rfl; have g2 := W7.bc (j := 2) hG1 rfl; clear hG1; go_wp2; rw [<- hX1]; clear hX1; refine bodyPost_ret (v := .tuple #[.agg (flC ⟨0,[],0⟩ (.slice none 0 0)),.int .i64 0]) (by simp [results,Tryz.results52,go_sem,g0,g1,g2,flC]) rfl ?_; exact HR.o
 have hz' : ((n : Int) == 0) = false := by simp; omega
 have hmx := max_run Tryz.prog; have hmn := min_run Tryz.prog
 have HAb := hI (fun (i : Nat) (hi : i < n) (X : World) (hX : Bl W0 X) => show Calls Tryz.prog 117 #[.agg #[.slice TA n j.tc,.slice RA nr j.rc],.int .i64 (i : Int)] X fun e w' => e = .returned (.int .i64 (lonV j.p i)) /\ Bl X w' from by
  have h := refAbove_any j B Hj0.o _ i (by rw [Hn.o]; exact hi) (Nat.le_refl _) X (HJ.o X hX) (by have := hX.size; omega); rw [Hjv.o] at h; exact h)
 go_wp2; clear q0 q1; go_loopw [5,6] (fun v5 v6 wr => ∃ i : Nat,i <= n /\ v6 = .int .i64 i /\ v5 = .int .i64 (longTo j.p i) /\ Hid (Bl W0 wr)) (fun _ v6 _ => n - (intOf v6).toNat); case atStart => exact ⟨0,by omega,rfl,rfl,Hb1⟩
 case round =>
  obtain ⟨i,hi,rfl,rfl,Hb⟩ := hrel; have hsr := Hb.o.size; have q0 := W7.bc (j := 0) (HX00.o wr Hb.o) rfl; have q1 := W7.bc (j := 1) (HX00.o wr Hb.o) rfl; have hlb := longTo_le HG.o i (by have := Hn.o; rw [j.nt]; omega)
  by_cases hlt : i < n
  ·have HL := hI (HAb.o i hlt wr Hb.o); have HSn := hI (show longTo j.p (i + 1) = max (longTo j.p i) (lonV j.p i) from rfl); go_wp2_with (go_at_call 117; refine HL.o.mono ?_; rintro e w2 ⟨rfl,hb2⟩; have Hb2 := hI (Hb.o.trans (hb2.mono hsr)); clear hb2); go_roundw; case rel => exact ⟨i + 1,by omega,by go_num,by rw [HSn.o],Hb2⟩
   case measure => simp [intOf]; omega
  have hin : i = n := by omega
  subst hin; have HLV := hI (show longV j.p = min (longTo j.p i) 100001 by unfold longV; rw [j.nt,Hn.o]); generalize longTo j.p i = L0 at hlb HLV; obtain ⟨LG,hLG⟩ : ∃ x,min L0 100001 = x := ⟨_,rfl⟩
  rw [hLG] at HLV; have hLb : 0 <= LG /\ LG <= 100001 := by omega
  obtain ⟨fb,hfb⟩ : ∃ fb,wr.heap.size = fb := ⟨_,rfl⟩
  obtain ⟨W4,hW4⟩ : ∃ W4,W4 = wr.alloc (.cells #[.int .i64 LG,.slice none 0 0,.int .i64 0] 92) := ⟨_,rfl⟩
  have hs4 : fb < W4.heap.size := by rw [hW4, <- hfb]; simp
  have HB4 := hI (show Bl W0 W4 by rw [hW4]; exact Hb.o.alloc (by omega) _); have HF4 := hI (show W4.heap[fb]? = some (.cells #[.int .i64 (flTo j.p 0).minutes,.slice none 0 0,.int .i64 (flTo j.p 0).res] 92 (0,0)) by rw [hW4, <- hfb,heap_alloc_new]; unfold flTo; rw [HLV.o]); have HLG := hI hLG; go_upto_region 12 with fail
  try simp only [hLG]
  rw [<- hW4]
  try rw [hfb]
  have hfbl : W0.heap.size <= fb := by omega
  clear hW4 hfb q0 q1; obtain ⟨wa,rfl⟩ : ∃ wa : World,wa = wr := ⟨_,rfl⟩
  have HWk := hI (fun (X : World) (q : Nat) (hX : Bl W0 X) => show Calls Tryz.prog 118 #[.agg #[.slice TA i j.tc,.slice RA nr j.rc],.int .i64 (q : Int)] X fun e w' => e = .returned (.int .i64 (workV j.p q)) /\ Bl X w' from by
   have h := refWork_any j (q : Int) B X (HJ.o X hX) (by have := hX.size; omega) HG.o; rw [Hjv.o] at h; exact h)
  go_wp2; go_loopw [8] (fun v8 wr => ∃ q : Nat,q <= nr /\ v8 = .int .i64 q /\ Hid (Bl W0 wr) /\ Hid (W4.heap.size <= wr.heap.size) /\ Hid (wr.heap[fb]? = some (.cells #[.int .i64 (flTo j.p q).minutes,.slice none 0 0,.int .i64 (flTo j.p q).res] 92 (0,0)))) (fun v8 _ => nr - (intOf v8).toNat); case atStart => exact ⟨0,by omega,rfl,HB4,hI (Nat.le_refl _),HF4⟩
  case round =>
   obtain ⟨q,hq,rfl,Hb,Hsz,HF⟩ := hrel; have hsz := Hsz.o; have hsb := Hb.o.size; have hfmb := fl_max HG.o q (by rw [j.nr,Hnr.o]; exact hq); have hfml := (fl_min HG.o q)
   have d0 := W7.bc (j := 0) (HX00.o wr Hb.o) rfl; have d1 := W7.bc (j := 1) (HX00.o wr Hb.o) rfl
   by_cases hlt2 : q < nr
   ·have hql : q < j.res.length := by have := Hnr.o; omega
    have hjn := HJ.o wr Hb.o; obtain ⟨rb,roff,hRb,hrb⟩ := hjn.ra (by omega); have hRe : RA = some ⟨rb,roff,none⟩ := by rw [<- HRA.o]; exact hRb
    have HRc := hI (show ∀ X : World,Bl W0 X -> X.cell? ⟨rb,roff + q * 3,none⟩ = some (.string (j.R q).p.name) /\ X.cell? ⟨rb,roff + q * 3 + 1,none⟩ = some (.int .i64 (j.R q).p.many) /\ X.cell? ⟨rb,roff + q * 3 + 2,none⟩ = some (.slice (j.R q).OA (j.R q).p.off.length (j.R q).oc) from fun X hX => (HJ.o X hX).rcells (by rw [<- hRb]) hql); have HHs := hI (fun (X : World) (m : Int) (hX : Bl W0 X) (hm : 0 <= m /\ m <= 1099511627776) => refHas_any j.p (j.R q) m B X ((HJ.o X hX).rss _ (j.R_mem hql)) (by have := hX.size; omega) HG.o (j.Rp_mem hql) hm); have HSt := hI (show flTo j.p (q + 1) = if (flTo j.p q).minutes < bisV (j.R q).p (workV j.p q) + 1 then ⟨bisV (j.R q).p (workV j.p q) + 1,[],q⟩ else flTo j.p q by rw [<- j.pR]; rfl); have HFi := hI (fun (x : Int) h1 h2 h3 h4 => bis_first HG.o (j.Rp_mem hql) (w := workV j.p q) (n := x) h1 h2 h3 h4); have HNn := hI (fun h => bis_none HG.o (j.Rp_mem hql) (w := workV j.p q) h); have HWq := hI (HWk.o wr q Hb.o)
    have hwb := workTo_le HG.o (q : Int) j.p.tasks.length (Nat.le_refl _)
    have hwb2 : 0 <= workV j.p q /\ workV j.p q <= 6400000000 := by
     unfold workV; have := HG.o.nt; omega
    generalize workV j.p q = WV at HWq HSt HFi HNn hwb2; generalize j.R q = r at HRc HHs HSt HFi HNn; obtain ⟨OA,hOA⟩ : ∃ x,r.OA = x := ⟨_,rfl⟩
    obtain ⟨no,hno⟩ : ∃ x,r.p.off.length = x := ⟨_,rfl⟩
    rw [hOA,hno] at HRc HHs; subst hRe; clear hjn hRb hOA hno hwb; go_upto_region 16 with (go_at_call 118; refine HWq.o.mono ?_; rintro e w6 ⟨rfl,hb6⟩; have hs6 := hb6.size; have Hb6 := hI (Hb.o.trans (hb6.mono hsb)); have HF6 := hI ((hb6.block _ (by omega)).trans HF.o); clear hb6)
    clear d0 d1 HWq; obtain ⟨wb,rfl⟩ : ∃ wb : World,wb = wr := ⟨_,rfl⟩
    go_wp2; go_loopw [10] (fun v10 wq => ∃ x : Int,v10 = .int .i64 x /\ 0 <= x /\ x <= 100001 /\ Hid (∀ m,0 <= m -> m < x -> roomV r.p m < WV) /\ Hid (Bl w6 wq)) (fun v10 _ => (100002 - intOf v10).toNat); case atStart => exact ⟨0,rfl,by omega,by omega,hI (fun m h1 h2 => by omega),hI (Below.refl _ _)⟩
    case round =>
     obtain ⟨x,rfl,hx0,hx1,HA,Hbq⟩ := hrel; have hsq := Hbq.o.size; have Hb9 := hI (Hb6.o.trans (Hbq.o.mono (by omega))); have hs9 := Hb9.o.size; obtain ⟨r0,r1,r2⟩ := HRc.o wr Hb9.o; have d0 := W7.bc (j := 0) (HX00.o wr Hb9.o) rfl; have d1 := W7.bc (j := 1) (HX00.o wr Hb9.o) rfl; have hg9 := (Hbq.o.block _ (by omega)).trans HF6.o; have g0 := W7.bc (j := 0) hg9 rfl; have g1 := W7.bc (j := 1) hg9 rfl; have g2 := W7.bc (j := 2) hg9 rfl; have f0 := W7.bf (j := 0) hg9; have f1 := W7.bf (j := 1) hg9; have f2 := W7.bf (j := 2) hg9; have Hg9 := hI hg9; clear hg9
     by_cases hx : x <= 100000
     ·have HRm := hI (HHs.o wr x Hb9.o (by omega)); have HBx := hI (fun h => HFi.o x hx0 hx1 HA.o h); obtain ⟨RV,hRV⟩ : ∃ z,roomV r.p x = z := ⟨_,rfl⟩
      rw [hRV] at HRm; rw [hRV] at HBx; have HRV := hI hRV; clear hRV; cases hc : decide (WV > RV); rotate_left
      ·have HA2 := hI (show ∀ m,0 <= m -> m < x + 1 -> roomV r.p m < WV from fun m h1 h2 => by
        by_cases e : m = x
        ·rw [e,HRV.o]; have := of_decide_eq_true hc; omega
        ·exact HA.o m h1 (by omega))
       clear g0 g1 g2 f0 f1 f2; go_wp2_with (go_at_call 119; refine HRm.o.mono ?_; rintro e w7 ⟨rfl,hb7⟩; have Hb7 := hI (Hbq.o.trans (hb7.mono hsq)); clear hb7); go_roundw; case rel => exact ⟨x + 1,by go_num,by omega,by omega,HA2,Hb7⟩
       case measure => simp [intOf]; omega
      have hxv := HBx.o (fun _ => by have := of_decide_eq_false hc; omega); have HxV := hI hxv; clear g0 g1 g2 f0 f1 f2 hxv; go_upto_region 19 with (go_at_call 119; refine HRm.o.mono ?_; rintro e w7 ⟨rfl,hb7⟩; have Hb7 := hI (Hbq.o.trans (hb7.mono hsq)); clear hb7)
      clear r0 r1 r2 d0 d1; have HbE := hI (Hb6.o.trans (Hb7.o.mono (by omega))); have hsE := Hb7.o.size; have HgE := hI ((Hb7.o.block _ (by omega)).trans HF6.o); have hgE := HgE.o; have g0 := W7.bc (j := 0) hgE rfl; have g1 := W7.bc (j := 1) hgE rfl; have g2 := W7.bc (j := 2) hgE rfl; have f0 := W7.bf (j := 0) hgE; have f1 := W7.bf (j := 1) hgE; have f2 := W7.bf (j := 2) hgE; clear hgE; cases hw : decide (WV > 0)
      ·have HN := hI (show flTo j.p (q + 1) = flTo j.p q by rw [HSt.o,if_neg (by rw [HNn.o (by have := of_decide_eq_false hw; omega)]; omega)]); generalize (flTo j.p q).minutes = fm at g0; go_wp2; go_roundw; case rel => exact ⟨q + 1,by omega,by go_num,HbE,hI (by omega),hI (by rw [HN.o]; exact HgE.o)⟩
       case measure => simp [intOf]; omega
      cases hm : decide (x > (flTo j.p q).minutes)
      ·have HN := hI (show flTo j.p (q + 1) = flTo j.p q by rw [HSt.o,if_neg (by rw [<- HxV.o]; have := of_decide_eq_false hm; omega)]); generalize (flTo j.p q).minutes = fm at g0 hm; go_wp2; go_roundw; case rel => exact ⟨q + 1,by omega,by go_num,HbE,hI (by omega),hI (by rw [HN.o]; exact HgE.o)⟩
       case measure => simp [intOf]; omega
      have HN := hI (show flTo j.p (q + 1) = ⟨x,[],q⟩ by rw [HSt.o,if_pos (by rw [<- HxV.o]; exact of_decide_eq_true hm), <- HxV.o]); have HP := hI (putFl_blk HgE.o ⟨x,[],q⟩ (.slice none 0 0)); obtain ⟨X1,hX1⟩ : ∃ X1,X1 = putFl w7 fb ⟨x,[],q⟩ (.slice none 0 0) := ⟨_,rfl⟩
      have HX1s := hI (show W4.heap.size <= X1.heap.size by rw [hX1,putFl_size]; omega); have HX1b := hI (show Bl W0 X1 by rw [hX1]; exact putFl_below HbE.o hfbl _ _); rw [<- hX1] at HP; unfold putFl at hX1; generalize (flTo j.p q).minutes = fm at g0 hm; go_upto_region 14 with fail; rw [<- hX1]; clear hX1 g0 g1 g2 f0 f1 f2; go_wp2; go_roundw; case rel => exact ⟨q + 1,by omega,by go_num,HX1b,HX1s,hI (by rw [HN.o]; exact HP.o)⟩
      case measure => simp [intOf]; omega
     ·have hxv := HFi.o x hx0 hx1 HA.o (fun h => absurd h hx); have HxV := hI hxv; clear g0 g1 g2 f0 f1 f2 hxv; go_upto_region 19 with fail; clear r0 r1 r2 d0 d1; have HbE := hI (Hb6.o.trans (Hbq.o.mono (by omega))); have hsE := Hbq.o.size; have HgE := hI ((Hbq.o.block _ (by omega)).trans HF6.o); have hgE := HgE.o; have g0 := W7.bc (j := 0) hgE rfl; have g1 := W7.bc (j := 1) hgE rfl; have g2 := W7.bc (j := 2) hgE rfl; have f0 := W7.bf (j := 0) hgE; have f1 := W7.bf (j := 1) hgE; have f2 := W7.bf (j := 2) hgE; clear hgE; cases hw : decide (WV > 0)
      ·have HN := hI (show flTo j.p (q + 1) = flTo j.p q by rw [HSt.o,if_neg (by rw [HNn.o (by have := of_decide_eq_false hw; omega)]; omega)]); generalize (flTo j.p q).minutes = fm at g0; go_wp2; go_roundw; case rel => exact ⟨q + 1,by omega,by go_num,HbE,hI (by omega),hI (by rw [HN.o]; exact HgE.o)⟩
       case measure => simp [intOf]; omega
      cases hm : decide (x > (flTo j.p q).minutes)
      ·have HN := hI (show flTo j.p (q + 1) = flTo j.p q by rw [HSt.o,if_neg (by rw [<- HxV.o]; have := of_decide_eq_false hm; omega)]); generalize (flTo j.p q).minutes = fm at g0 hm; go_wp2; go_roundw; case rel => exact ⟨q + 1,by omega,by go_num,HbE,hI (by omega),hI (by rw [HN.o]; exact HgE.o)⟩
       case measure => simp [intOf]; omega
      have HN := hI (show flTo j.p (q + 1) = ⟨x,[],q⟩ by rw [HSt.o,if_pos (by rw [<- HxV.o]; exact of_decide_eq_true hm), <- HxV.o]); have HP := hI (putFl_blk HgE.o ⟨x,[],q⟩ (.slice none 0 0)); obtain ⟨X1,hX1⟩ : ∃ X1,X1 = putFl wr fb ⟨x,[],q⟩ (.slice none 0 0) := ⟨_,rfl⟩
      have HX1s := hI (show W4.heap.size <= X1.heap.size by rw [hX1,putFl_size]; omega); have HX1b := hI (show Bl W0 X1 by rw [hX1]; exact putFl_below HbE.o hfbl _ _); rw [<- hX1] at HP; unfold putFl at hX1; generalize (flTo j.p q).minutes = fm at g0 hm; go_upto_region 14 with fail; rw [<- hX1]; clear hX1 g0 g1 g2 f0 f1 f2; go_wp2; go_roundw; case rel => exact ⟨q + 1,by omega,by go_num,HX1b,HX1s,hI (by rw [HN.o]; exact HP.o)⟩
      case measure => simp [intOf]; omega
   ·have HN := hI (show floorV j.p = flTo j.p q by rw [floorV_ok Hj0.o (by have := Hn.o; rw [j.nt]; omega),j.nr,Hnr.o,show nr = q by omega]); have hLG2 := HLG.o; have hsh := fl_shape (j := j.p) q; have hg9 := HF.o; have g0 := W7.bc (j := 0) hg9 rfl; have g1 := W7.bc (j := 1) hg9 rfl; have g2 := W7.bc (j := 2) hg9 rfl; have f0 := W7.bf (j := 0) hg9; have f1 := W7.bf (j := 1) hg9; have f2 := W7.bf (j := 2) hg9; rw [HLV.o] at hsh hfml; cases hmi : ((flTo j.p q).minutes == LG)
    ·have hne : ¬ (flTo j.p q).minutes = LG := fun h => by rw [h] at hmi; simp at hmi
     have HCh := hI (show (flTo j.p q).chain = [] from by
      rcases hsh with h | h
      ·exact absurd (by rw [h]; show longV j.p = LG; exact HLV.o) hne
      ·exact h.2)
     clear hne hsh; have HR := hI (flo_end (j := j) (v := .slice none 0 0) HN.o Hj0.o (HU0.o _ Hb.o) (Nat.le_succ _) (HX01.o wr Hb.o) (by rw [HCh.o]; exact World.ownsRow_nil _ _ _ _)); obtain rfl := eq_of_beq h0; have HP := hI (putFl_blk (HX01.o wr Hb.o) (flTo j.p q) (.slice none 0 0)); obtain ⟨X1,hX1⟩ : ∃ X1,X1 = putFl wr (w.heap.size + 1) (flTo j.p q) (.slice none 0 0) := ⟨_,rfl⟩
     have o0 := W7.bc (j := 0) (HX01.o wr Hb.o) rfl; have o1 := W7.bc (j := 1) (HX01.o wr Hb.o) rfl; have o2 := W7.bc (j := 2) (HX01.o wr Hb.o) rfl; have p0 := W7.bf (j := 0) (HX01.o wr Hb.o); have p1 := W7.bf (j := 1) (HX01.o wr Hb.o); have p2 := W7.bf (j := 2) (HX01.o wr Hb.o); rw [<- hX1] at HP HR; unfold putFl at hX1; have hp9 := HP.o; unfold flC at hp9; have e0 := W7.bc (j := 0) hp9 rfl; have e1 := W7.bc (j := 1) hp9 rfl; have e2 := W7.bc (j := 2) hp9 rfl; clear hg9 hp9 HF; go_wp2; rw [<- hX1]; refine bodyPost_ret (v := .tuple #[.agg (flC (flTo j.p q) (.slice none 0 0)),.int .i64 0]) (by simp [results,Tryz.results52,go_sem,e0,e1,e2,flC]) rfl ?_; exact HR.o
    ·have hme : (flTo j.p q).minutes = LG := eq_of_beq hmi
     have Hf0 := hI (show flTo j.p q = ⟨LG,chainV j.p LG,0⟩ from by
      rcases hsh with h | h
      ·rw [h]; unfold flTo; rw [HLV.o]
      ·omega)
     have Hf1 := hI (show (flTo j.p q).res = 0 by rw [Hf0.o]); rw [hme,Hf1.o] at g0 g2; rw [hme] at hmi; have Hgg := hI (show wr.heap[fb]? = some (.cells #[.int .i64 LG,.slice none 0 0,.int .i64 0] 92 (0,0)) by have h := hg9; rw [hme,Hf1.o] at h; exact h); obtain ⟨X2,hX2⟩ : ∃ X2,X2 = wr.setCell ⟨fb,2,none⟩ (.int .i64 0) := ⟨_,rfl⟩
     have HB2 := hI (show Bl W0 X2 by rw [hX2]; exact Hb.o.setCell (p := ⟨fb,2,none⟩) hfbl _); have hsX : X2.heap.size = wr.heap.size := by rw [hX2]; simp [World.setCell]
     have HG2 := hI (show X2.heap[fb]? = some (.cells #[.int .i64 LG,.slice none 0 0,.int .i64 0] 92 (0,0)) by rw [hX2,blk_set Hgg.o]; rfl); have HChn := hI (refChain_any j B Hj0.o (i + 1) (-1) LG (by omega) (.inl ⟨by omega,by have := Hn.o; omega⟩) (by omega) (by omega) X2 (HJ.o X2 HB2.o) (by have := HB2.o.size; omega)); have HCV := hI (show chainGo j.p (i + 1) (-1) LG = chainV j.p LG by unfold chainV; rw [j.nt,Hn.o]); rw [Hjv.o,HCV.o] at HChn; have HX2 := hI hX2; clear hX2 hg9 hsh HF hme; go_upto_region 23 with fail; rw [<- HX2.o]; clear g0 g1 g2 f0 f1 f2 d0 d1; have d0 := W7.bc (j := 0) (HX00.o X2 HB2.o) rfl; have d1 := W7.bc (j := 1) (HX00.o X2 HB2.o) rfl; have hgx := HG2.o; have g0 := W7.bc (j := 0) hgx rfl; have g1 := W7.bc (j := 1) hgx rfl; have g2 := W7.bc (j := 2) hgx rfl; clear hgx; go_wp2_with (go_at_call 120; fail); refine HChn.o.mono ?_; rintro e w9 ⟨v9,rfl,ho9,hb9⟩; obtain ⟨A9,c9,rfl,hq1,hq2⟩ := own_cap' ho9
     obtain ⟨CL,hCL⟩ : ∃ x,chainV j.p LG = x := ⟨_,rfl⟩
     rw [hCL] at ho9 hq1 ⊢; rw [hCL] at Hf0; obtain ⟨cl,hcl⟩ : ∃ x,CL.length = x := ⟨_,rfl⟩
     rw [hcl] at ho9 hq1; rw [hcl]; have Hcl := hI hcl; have Ho9 := hI ho9; have Hb9 := hI (HB2.o.trans (hb9.mono (by omega))); have hs9 := hb9.size; have HG9 := hI ((hb9.block _ (by omega)).trans HG2.o); clear ho9 hb9 hCL hcl g0 g1 g2 d0 d1 HChn HCV; have hg9 := HG9.o; have g0 := W7.bc (j := 0) hg9 rfl; have g1 := W7.bc (j := 1) hg9 rfl; have g2 := W7.bc (j := 2) hg9 rfl; have f0 := W7.bf (j := 0) hg9; have f1 := W7.bf (j := 1) hg9; have f2 := W7.bf (j := 2) hg9; obtain ⟨X3,hX3⟩ : ∃ X3,X3 = w9.setCell ⟨fb,1,none⟩ (.slice A9 cl c9) := ⟨_,rfl⟩
     have hG3 : X3.heap[fb]? = some (.cells #[.int .i64 LG,.slice A9 cl c9,.int .i64 0] 92 (0,0)) := by rw [hX3,blk_set hg9]; rfl
     have HB3 := hI (show Bl W0 X3 by rw [hX3]; exact Hb9.o.setCell (p := ⟨fb,1,none⟩) hfbl _); have HO3 := hI (show X3.ownsRow X2.heap.size 3 1 (.slice A9 cl c9) cl (CL.map (Value.int .i64)) by rw [hX3]; exact own_setK Ho9.o hg9 (by decide) _); clear hg9; go_upto_region 24 with fail; rw [<- hX3]; clear hX3 g0 g1 g2 f0 f1 f2; have g0 := W7.bc (j := 0) hG3 rfl; have g1 := W7.bc (j := 1) hG3 rfl; have g2 := W7.bc (j := 2) hG3 rfl; clear hG3; have HR := hI (flo_end (j := j) (v := .slice A9 cl c9) (HN.o.trans Hf0.o) Hj0.o (HU0.o _ HB3.o) (Nat.le_succ _) (HX01.o X3 HB3.o) (by show X3.ownsRow w.heap.size 3 1 _ CL.length _; rw [Hcl.o]; exact own_mono HO3.o (by omega))); obtain rfl := eq_of_beq h0; have HP := hI (putFl_blk (HX01.o X3 HB3.o) ⟨LG,CL,0⟩ (.slice A9 cl c9)); obtain ⟨X1,hX1⟩ : ∃ X1,X1 = putFl X3 (w.heap.size + 1) ⟨LG,CL,0⟩ (.slice A9 cl c9) := ⟨_,rfl⟩
     have o0 := W7.bc (j := 0) (HX01.o X3 HB3.o) rfl; have o1 := W7.bc (j := 1) (HX01.o X3 HB3.o) rfl; have o2 := W7.bc (j := 2) (HX01.o X3 HB3.o) rfl; have p0 := W7.bf (j := 0) (HX01.o X3 HB3.o); have p1 := W7.bf (j := 1) (HX01.o X3 HB3.o); have p2 := W7.bf (j := 2) (HX01.o X3 HB3.o); rw [<- hX1] at HP HR; unfold putFl at hX1; have hp9 := HP.o; unfold flC at hp9; have e0 := W7.bc (j := 0) hp9 rfl; have e1 := W7.bc (j := 1) hp9 rfl; have e2 := W7.bc (j := 2) hp9 rfl; clear hp9; go_wp2; rw [<- hX1]; refine bodyPost_ret (v := .tuple #[.agg (flC ⟨LG,CL,0⟩ (.slice A9 cl c9)),.int .i64 0]) (by simp [results,Tryz.results52,go_sem,e0,e1,e2,flC]) rfl ?_; exact HR.o
end Go.Proofs.YtjpgnfekbojcaaaGreat
