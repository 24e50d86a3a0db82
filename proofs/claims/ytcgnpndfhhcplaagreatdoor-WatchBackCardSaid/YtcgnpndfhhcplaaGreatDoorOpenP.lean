/-
  A plan opened. Conditions: it can be read.
-/
import Derived.Test.YtcgnpndfhhcplaaGreatDoorOpen
import Derived.Test.YtcgnpndfhhcplaaGreatDoorChkQ
namespace Go.Proofs.YtcgnpndfhhcplaaGreatDoor
open Go.RowKit Go.ChangeShapes Go.WideShapes Go.Deep W7
section
variable {H : Type} {enc : TypeId × Value → H} {W : World} {base : Nat} {spare : Nat → Bool} {held : Bool}
set_option maxRecDepth 100000 in
theorem open_qcells {fuel : Nat} {cs : List Value} {x : DataW H × List MemPlace} (hlen : cs.length = 7) (h : DataW.trod enc Tryz.prog W base spare held fuel 47 cs = some x) :
    ∃ q : Quantity, cs = encQ q ∧ QIn W W.heap.size q := by
  have k1 : Tryz.prog.cellsOf 9 = 1 := by kernel_rfl
  have k2 : Tryz.prog.cellsOf 44 = 2 := by kernel_rfl
  have k3 : Tryz.prog.cellsOf 3 = 1 := by kernel_rfl
  have k4 : Tryz.prog.cellsOf 45 = 1 := by kernel_rfl
  match cs, hlen with
  | [c0, c1, c2, c3, c4, c5, c6], _ =>
    obtain ⟨xs, n, _, _, _, hlen, hg⟩ := DataW.trod_struct Tryz.underlying47 h
    match xs, hlen with
    | [y0, y1, y2, y3, y4, y5], _ =>
      have g0 : DataW.trod enc Tryz.prog W base spare held n 9 (([c0, c1, c2, c3, c4, c5, c6].drop 0).take (Tryz.prog.cellsOf 9)) = some y0 := hg 0 _ rfl
      have g1 : DataW.trod enc Tryz.prog W base spare held n 44 (([c0, c1, c2, c3, c4, c5, c6].drop 1).take (Tryz.prog.cellsOf 44)) = some y1 := hg 1 _ rfl
      have g2 : DataW.trod enc Tryz.prog W base spare held n 3 (([c0, c1, c2, c3, c4, c5, c6].drop 3).take (Tryz.prog.cellsOf 3)) = some y2 := hg 2 _ rfl
      have g3 : DataW.trod enc Tryz.prog W base spare held n 3 (([c0, c1, c2, c3, c4, c5, c6].drop 4).take (Tryz.prog.cellsOf 3)) = some y3 := hg 3 _ rfl
      have g4 : DataW.trod enc Tryz.prog W base spare held n 3 (([c0, c1, c2, c3, c4, c5, c6].drop 5).take (Tryz.prog.cellsOf 3)) = some y4 := hg 4 _ rfl
      have g5 : DataW.trod enc Tryz.prog W base spare held n 45 (([c0, c1, c2, c3, c4, c5, c6].drop 6).take (Tryz.prog.cellsOf 45)) = some y5 := hg 5 _ rfl
      rw [k1] at g0
      rw [k2] at g1
      rw [k3] at g2 g3 g4
      rw [k4] at g5
      obtain ⟨s, e0, _, hs⟩ := DataW.trod_string Tryz.underlying9 g0
      obtain ⟨zs, n1, _, _, _, hzl, hz⟩ := DataW.trod_struct Tryz.underlying44 g1
      match zs, hzl with
      | [z0, z1], _ =>
        have h0 : DataW.trod enc Tryz.prog W base spare held n1 3 ((([c0, c1, c2, c3, c4, c5, c6].drop 1).take 2).drop 0 |>.take (Tryz.prog.cellsOf 3)) = some z0 := hz 0 _ rfl
        have h1 : DataW.trod enc Tryz.prog W base spare held n1 3 ((([c0, c1, c2, c3, c4, c5, c6].drop 1).take 2).drop 1 |>.take (Tryz.prog.cellsOf 3)) = some z1 := hz 1 _ rfl
        rw [k3] at h0 h1
        obtain ⟨lo, e1, _, _⟩ := DataW.trod_int Tryz.underlying3 h0
        obtain ⟨hi, e2, _, _⟩ := DataW.trod_int Tryz.underlying3 h1
        obtain ⟨ri, e3, _, _⟩ := DataW.trod_int Tryz.underlying3 g2
        obtain ⟨fa, e4, _, _⟩ := DataW.trod_int Tryz.underlying3 g3
        obtain ⟨ba, e5, _, _⟩ := DataW.trod_int Tryz.underlying3 g4
        obtain ⟨A, c, gs, e6, hsl, hl, hc, hnm⟩ := open_gs g5
        simp at e0 e1 e2 e3 e4 e5 e6
        subst e0 e1 e2 e3 e4 e5 e6
        exact ⟨⟨s, lo, hi, ri, fa, ba, A, c, gs⟩, rfl, by unfold maxLen at hs; simp only; omega, by simp only; omega, hl, hc, hsl, hnm⟩
theorem open_qs {fuel : Nat} {cs : List Value} {x : DataW H × List MemPlace} (h : DataW.trod enc Tryz.prog W base spare held fuel 22 cs = some x) :
    ∃ (A : Option Addr) (c : Nat) (l : List Quantity), cs = [.slice A l.length c] ∧ Sl W W.heap.size 7 encQ A l ∧ l.length ≤ c ∧ c ≤ 9223372036854775807 ∧ ∀ q ∈ l, QIn W W.heap.size q := by
  rcases open_slice Tryz.underlying22 h with h0 | ⟨a, len, cap, m, n, D, Pl, rfl, hb, hl, hm, hmm, hx, hi⟩
  · exact ⟨none, 0, [], h0.1, Sl.nil, by simp, by decide, by simp⟩
  · obtain ⟨xs, hx1, hx2, hx3⟩ := mk_sl (enc := encQ) (k := 7) (W := W) (Q := QIn W W.heap.size) (by decide) (fun _ => rfl) a len (fun i him => by
      obtain ⟨cs', hc, ht'⟩ := hi i (by rw [hmm]; split <;> omega)
      have k3 : Tryz.prog.cellsOf 47 = 7 := by kernel_rfl
      rw [k3] at hc
      obtain ⟨_, hcl, hat⟩ := World.cells?_some hc
      obtain ⟨q, rfl, hq⟩ := open_qcells hcl ht'
      refine ⟨q, hq, fun j v hv => ?_⟩
      have hj : j < 7 := by
        rcases Nat.lt_or_ge j 7 with h1 | h1
        · exact h1
        · rw [List.getElem?_eq_none (by simpa [encQ] using h1)] at hv; cases hv
      rw [← Go.Deep.add_add, hat j hj]
      exact hv)
    subst hx1
    exact ⟨some a, cap, xs, rfl, hx2, hl, by unfold maxLen at hm; omega, hx3⟩
theorem open_ms {fuel : Nat} {cs : List Value} {x : DataW H × List MemPlace} (h : DataW.trod enc Tryz.prog W base spare held fuel 23 cs = some x) :
    ∃ (A : Option Addr) (c : Nat) (l : List Measure), cs = [.slice A l.length c] ∧ Sl W W.heap.size 5 encM A l ∧ l.length ≤ c ∧ c ≤ 9223372036854775807 ∧ ∀ m ∈ l, m.name.size ≤ 9223372036854775807 ∧ m.crew.size ≤ 9223372036854775807 := by
  rcases open_slice_fields Tryz.underlying23 Tryz.underlying49 (by kernel_rfl) (by kernel_rfl) h with ⟨rfl, _⟩ | ⟨a, len, cap, rfl, hl, hm, hi⟩
  · exact ⟨none, 0, [], rfl, Sl.nil, by simp, by decide, by simp⟩
  · obtain ⟨xs, hx1, hx2, hx3⟩ := mk_sl (enc := encM) (k := 5) (W := W) (Q := fun m => m.name.size ≤ 9223372036854775807 ∧ m.crew.size ≤ 9223372036854775807) (by decide) (fun _ => rfl) a len (fun i hi' => by
      obtain ⟨n, hf⟩ := hi i hi'
      obtain ⟨v0, y0, c0, t0⟩ := hf 0 _ rfl
      obtain ⟨v1, y1, c1, t1⟩ := hf 1 _ rfl
      obtain ⟨v2, y2, c2, t2⟩ := hf 2 _ rfl
      obtain ⟨v3, y3, c3, t3⟩ := hf 3 _ rfl
      obtain ⟨v4, y4, c4, t4⟩ := hf 4 _ rfl
      obtain ⟨n0, e0, _, hs0⟩ := DataW.trod_string Tryz.underlying9 t0
      obtain ⟨n1, e1, _, hs1⟩ := DataW.trod_string Tryz.underlying9 t1
      obtain ⟨n2, e2, _, _⟩ := DataW.trod_int Tryz.underlying3 t2
      obtain ⟨n3, e3, _, _⟩ := DataW.trod_int Tryz.underlying3 t3
      obtain ⟨n4, e4, _, _⟩ := DataW.trod_int Tryz.underlying3 t4
      simp only [List.cons.injEq, and_true] at e0 e1 e2 e3 e4
      subst e0 e1 e2 e3 e4
      refine ⟨⟨n0, n1, n2, n3, n4⟩, ⟨by unfold maxLen at hs0; simp only; omega, by unfold maxLen at hs1; simp only; omega⟩, fun j v hv => ?_⟩
      rcases j with _ | _ | _ | _ | _ | j
      · simp [encM] at hv; subst hv; exact c0
      · simp [encM] at hv; subst hv; exact c1
      · simp [encM] at hv; subst hv; exact c2
      · simp [encM] at hv; subst hv; exact c3
      · simp [encM] at hv; subst hv; exact c4
      · simp [encM] at hv)
    subst hx1
    exact ⟨some a, cap, xs, rfl, hx2, hl, by unfold maxLen at hm; omega, hx3⟩
theorem open_as {fuel : Nat} {cs : List Value} {x : DataW H × List MemPlace} (h : DataW.trod enc Tryz.prog W base spare held fuel 24 cs = some x) :
    ∃ (A : Option Addr) (c : Nat) (l : List Alarm), cs = [.slice A l.length c] ∧ Sl W W.heap.size 4 encA A l ∧ l.length ≤ c ∧ c ≤ 9223372036854775807 := by
  rcases open_slice_fields Tryz.underlying24 Tryz.underlying75 (by kernel_rfl) (by kernel_rfl) h with ⟨rfl, _⟩ | ⟨a, len, cap, rfl, hl, hm, hi⟩
  · exact ⟨none, 0, [], rfl, Sl.nil, by simp, by decide⟩
  · obtain ⟨xs, hx1, hx2, _⟩ := mk_sl (enc := encA) (k := 4) (W := W) (Q := fun _ => True) (by decide) (fun _ => rfl) a len (fun i hi' => by
      obtain ⟨n, hf⟩ := hi i hi'
      obtain ⟨v0, y0, c0, t0⟩ := hf 0 _ rfl
      obtain ⟨v1, y1, c1, t1⟩ := hf 1 _ rfl
      obtain ⟨v2, y2, c2, t2⟩ := hf 2 _ rfl
      obtain ⟨v3, y3, c3, t3⟩ := hf 3 _ rfl
      obtain ⟨n0, e0, _, _⟩ := DataW.trod_int Tryz.underlying3 t0
      obtain ⟨n1, e1, _, _⟩ := DataW.trod_int Tryz.underlying3 t1
      obtain ⟨n2, e2, _, _⟩ := DataW.trod_int Tryz.underlying3 t2
      obtain ⟨n3, e3, _, _⟩ := DataW.trod_int Tryz.underlying3 t3
      simp only [List.cons.injEq, and_true] at e0 e1 e2 e3
      subst e0 e1 e2 e3
      refine ⟨⟨n0, n1, n2, n3⟩, trivial, fun j v hv => ?_⟩
      rcases j with _ | _ | _ | _ | j
      · simp [encA] at hv; subst hv; exact c0
      · simp [encA] at hv; subst hv; exact c1
      · simp [encA] at hv; subst hv; exact c2
      · simp [encA] at hv; subst hv; exact c3
      · simp [encA] at hv)
    subst hx1
    exact ⟨some a, cap, xs, rfl, hx2, hl, by unfold maxLen at hm; omega⟩
set_option maxRecDepth 100000 in
theorem open_plan {r : Reach} {b0 : Nat} {v : Value} {d : DataW H} {ps : List MemPlace} (hv : Value.okWide Tryz.prog W r b0 26 v) (h : DataW.Trod enc Tryz.prog W base spare held 26 v d ps) :
    ∃ p : Plan, v = .agg #[.slice p.qA p.qs.length p.qc, .slice p.mA p.ms.length p.mc, .slice p.aA p.al.length p.ac] ∧ PIn W W.heap.size p := by
  obtain ⟨cs, rfl, hsz⟩ := okWide_struct Tryz.underlying26 hv
  have hC : Tryz.prog.cellsOf 26 = 3 := by kernel_rfl
  have k1 : Tryz.prog.cellsOf 22 = 1 := by kernel_rfl
  have k2 : Tryz.prog.cellsOf 23 = 1 := by kernel_rfl
  have k3 : Tryz.prog.cellsOf 24 = 1 := by kernel_rfl
  obtain ⟨l⟩ := cs
  match l, hsz.trans hC with
  | [c0, c1, c2], _ =>
    obtain ⟨fuel, hf⟩ := h
    obtain ⟨xs, n, _, _, _, hlen, hg⟩ := DataW.trod_struct Tryz.underlying26 hf
    match xs, hlen with
    | [y0, y1, y2], _ =>
      have g0 : DataW.trod enc Tryz.prog W base spare held n 22 (([c0, c1, c2].drop 0).take (Tryz.prog.cellsOf 22)) = some y0 := hg 0 _ rfl
      have g1 : DataW.trod enc Tryz.prog W base spare held n 23 (([c0, c1, c2].drop 1).take (Tryz.prog.cellsOf 23)) = some y1 := hg 1 _ rfl
      have g2 : DataW.trod enc Tryz.prog W base spare held n 24 (([c0, c1, c2].drop 2).take (Tryz.prog.cellsOf 24)) = some y2 := hg 2 _ rfl
      rw [k1] at g0
      rw [k2] at g1
      rw [k3] at g2
      obtain ⟨qA, qc, qs, e0, q1, q2, q3, q4⟩ := open_qs g0
      obtain ⟨mA, mc, ms, e1, m1, m2, m3, m4⟩ := open_ms g1
      obtain ⟨aA, ac, al, e2, a1, a2, a3⟩ := open_as g2
      simp at e0 e1 e2
      subst e0 e1 e2
      exact ⟨⟨qA, qc, qs, mA, mc, ms, aA, ac, al⟩, rfl, q1, q4, q2, q3, m1, m4, m2, m3, a1, a2, a3⟩
end
theorem trodAll_two {H : Type} {enc : TypeId × Value → H} {P : Program} {w : World} {base : Nat} {spare : Nat → Bool} {held : Bool} {t0 t1 : TypeId} {args : Array Value} {ds : List (DataW H)} {ps : List MemPlace} (h : DataW.TrodAll enc P w base spare held [t0, t1] args.toList ds ps) :
    ∃ v0 v1 d0 d1 p0 p1, args = #[v0, v1] ∧ ds = [d0, d1] ∧ DataW.Trod enc P w base spare held t0 v0 d0 p0 ∧ DataW.Trod enc P w base spare held t1 v1 d1 p1 := by
  obtain ⟨v0, vs0, d0, ds0, p0, q0, hargs, rfl, _, h0, r0⟩ := trodAll_cons h
  obtain ⟨v1, vs1, d1, ds1, p1, q1, rfl, rfl, _, h1, r1⟩ := trodAll_cons r0
  obtain ⟨rfl, rfl, _⟩ := trodAll_nil r1
  exact ⟨v0, v1, d0, d1, p0, p1, by cases args; simp_all, rfl, h0, h1⟩
end Go.Proofs.YtcgnpndfhhcplaaGreatDoor
