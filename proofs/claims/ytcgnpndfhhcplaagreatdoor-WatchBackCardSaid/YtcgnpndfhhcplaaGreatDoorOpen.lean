/-
  The law's arguments opened: a quantity, readings. Conditions: they can be read.
-/
import Derived.Test.YtcgnpndfhhcplaaGreatDoorGood
import Derived.Deep.Slices
import Derived.Deep.Fields
import Derived.ChangeSame
import Derived.ProofKit
import Derived.OpenShut
namespace Go.Proofs.YtcgnpndfhhcplaaGreatDoor
open Go.RowKit Go.ChangeShapes Go.WideShapes Go.Deep W7
section
variable {H : Type} {enc : TypeId × Value → H} {P : Program} {w : World} {base : Nat} {spare : Nat → Bool} {held : Bool}
theorem open_slice_fields {t e : TypeId} {fs : Array Field} {fuel : Nat} {cs : List Value} {x : DataW H × List MemPlace} (ht : P.underlying t = some (.slice e)) (he : P.underlying e = some (.struct fs))
    (hone : oneCellFields P fs = true) (hC : P.cellsOf e = fs.size) (h : DataW.trod enc P w base spare held fuel t cs = some x) :
    (cs = [.slice none 0 0] ∧ x = (.nil, [])) ∨
    ∃ (a : Addr) (len cap : Nat), cs = [.slice (some a) len cap] ∧ len ≤ cap ∧ cap ≤ maxLen ∧
      ∀ i, i < len → ∃ (n : Nat), ∀ (j : Nat) (f : Field), fs[j]? = some f → ∃ (v : Value) (y : DataW H × List MemPlace), w.cell? (a.add (i * fs.size + j)) = some v ∧ DataW.trod enc P w base spare held n f.type [v] = some y := by
  rcases open_slice ht h with h0 | ⟨a, len, cap, m, n, D, Pl, hcs, hb, hl, hm, hmm, hx, hi⟩
  · exact .inl ⟨h0.1, h0.2⟩
  · refine .inr ⟨a, len, cap, hcs, hl, hm, fun i him => ?_⟩
    obtain ⟨cs', hc, ht'⟩ := hi i (by rw [hmm]; split <;> omega)
    rw [hC] at hc
    obtain ⟨ys, n', hn', hy, hlen, hyl, hf⟩ := DataW.trod_struct he ht'
    obtain ⟨_, hcl, hat⟩ := World.cells?_some hc
    refine ⟨n', fun j f hj => ?_⟩
    obtain ⟨ho, hk⟩ := hone_of hone j f hj
    have hjl : j < fs.size := (Array.getElem?_eq_some_iff.1 hj).1
    have hcell := hat j hjl
    have hv : cs'[j]? = some (cs'[j]'(by omega)) := List.getElem?_eq_getElem (by omega)
    have h1 := hf j f hj
    rw [ho, hk] at h1
    have hone' : (cs'.drop j).take 1 = [cs'[j]'(by omega)] := by
      rw [List.drop_eq_getElem_cons (by omega)]
      rfl
    rw [hone'] at h1
    have hys : ys[j]? = some (ys[j]'(by omega)) := List.getElem?_eq_getElem (by omega)
    refine ⟨_, _, ?_, h1.trans hys⟩
    rw [← Go.Deep.add_add, hcell, hv]
end
theorem mk_sl {α : Type} [Inhabited α] {enc : α → List Value} {k : Nat} (hk0 : 0 < k) (hk : ∀ x, (enc x).length = k) {W : World} {Q : α → Prop} (a : Addr) (len : Nat)
    (h : ∀ i, i < len → ∃ x : α, Q x ∧ ∀ j v, (enc x)[j]? = some v → W.cell? (a.add (i * k + j)) = some v) : ∃ xs : List α, xs.length = len ∧ Sl W W.heap.size k enc (some a) xs ∧ ∀ x ∈ xs, Q x := by
  have hf : ∃ f : Nat → α, ∀ i, i < len → Q (f i) ∧ ∀ j v, (enc (f i))[j]? = some v → W.cell? (a.add (i * k + j)) = some v := by
    refine ⟨fun i => if hi : i < len then Classical.choose (h i hi) else default, fun i hi => ?_⟩
    simp only [hi, dite_true]
    exact Classical.choose_spec (h i hi)
  obtain ⟨f, hf⟩ := hf
  refine ⟨(List.range len).map f, by simp, fun h0 => ?_, fun x hx => ?_⟩
  · have hl0 : 0 < len := by simpa using h0
    have hx0 : (enc (f 0))[0]? = some ((enc (f 0))[0]'(by rw [hk]; exact hk0)) := List.getElem?_eq_getElem _
    have hc0 := (hf 0 hl0).2 0 _ hx0
    have ha : a.add (0 * k + 0) = a := by simp [Addr.add]
    rw [ha] at hc0
    have hsp := World.cell?_spot hc0
    obtain ⟨b, off, spot⟩ := a
    simp only at hsp
    subst hsp
    refine ⟨b, off, rfl, World.block_lt_of_cell? W _ hc0, fun i hi j v hv => ?_⟩
    have hi' : i < len := by simpa using hi
    have e : ((List.range len).map f)[i] = f i := by simp
    rw [e] at hv
    have := (hf i hi').2 j v hv
    have ea : (⟨b, off, none⟩ : Addr).add (i * k + j) = ⟨b, off + i * k + j, none⟩ := by
      rw [show off + i * k + j = off + (i * k + j) by omega]
      unfold Addr.add; split <;> simp_all
    rwa [ea] at this
  · obtain ⟨i, hi, rfl⟩ := List.mem_map.1 hx
    exact (hf i (by simpa using hi)).1
section
variable {H : Type} {enc : TypeId × Value → H} {W : World} {base : Nat} {spare : Nat → Bool} {held : Bool}
theorem open_rs {fuel : Nat} {cs : List Value} {x : DataW H × List MemPlace} (h : DataW.trod enc Tryz.prog W base spare held fuel 56 cs = some x) :
    ∃ (A : Option Addr) (c : Nat) (l : List Reading), cs = [.slice A l.length c] ∧ Sl W W.heap.size 3 encR A l ∧ l.length ≤ c ∧ c ≤ 9223372036854775807 := by
  rcases open_slice_fields Tryz.underlying56 Tryz.underlying55 (by kernel_rfl) (by kernel_rfl) h with ⟨rfl, _⟩ | ⟨a, len, cap, rfl, hl, hm, hi⟩
  · exact ⟨none, 0, [], rfl, Sl.nil, by simp, by decide⟩
  · obtain ⟨xs, hx1, hx2, _⟩ := mk_sl (enc := encR) (k := 3) (W := W) (Q := fun _ => True) (by decide) (fun _ => rfl) a len (fun i hi' => by
      obtain ⟨n, hf⟩ := hi i hi'
      obtain ⟨v0, y0, c0, t0⟩ := hf 0 _ rfl
      obtain ⟨v1, y1, c1, t1⟩ := hf 1 _ rfl
      obtain ⟨v2, y2, c2, t2⟩ := hf 2 _ rfl
      obtain ⟨n0, e0, _, _⟩ := DataW.trod_int Tryz.underlying3 t0
      obtain ⟨n1, e1, _, _⟩ := DataW.trod_int Tryz.underlying3 t1
      obtain ⟨n2, e2, _, _⟩ := DataW.trod_int Tryz.underlying3 t2
      simp only [List.cons.injEq, and_true] at e0 e1 e2
      subst e0 e1 e2
      refine ⟨⟨n0, n1, n2⟩, trivial, fun j v hv => ?_⟩
      rcases j with _ | _ | _ | j
      · simp [encR] at hv; subst hv; exact c0
      · simp [encR] at hv; subst hv; exact c1
      · simp [encR] at hv; subst hv; exact c2
      · simp [encR] at hv)
    subst hx1
    exact ⟨some a, cap, xs, rfl, hx2, hl, by unfold maxLen at hm; omega⟩
theorem open_gs {fuel : Nat} {cs : List Value} {x : DataW H × List MemPlace} (h : DataW.trod enc Tryz.prog W base spare held fuel 45 cs = some x) :
    ∃ (A : Option Addr) (c : Nat) (l : List Gauge), cs = [.slice A l.length c] ∧ Sl W W.heap.size 4 encG A l ∧ l.length ≤ c ∧ c ≤ 9223372036854775807 ∧ ∀ g ∈ l, g.name.size ≤ 9223372036854775807 := by
  rcases open_slice_fields Tryz.underlying45 Tryz.underlying28 (by kernel_rfl) (by kernel_rfl) h with ⟨rfl, _⟩ | ⟨a, len, cap, rfl, hl, hm, hi⟩
  · exact ⟨none, 0, [], rfl, Sl.nil, by simp, by decide, by simp⟩
  · obtain ⟨xs, hx1, hx2, hx3⟩ := mk_sl (enc := encG) (k := 4) (W := W) (Q := fun g => g.name.size ≤ 9223372036854775807) (by decide) (fun _ => rfl) a len (fun i hi' => by
      obtain ⟨n, hf⟩ := hi i hi'
      obtain ⟨v0, y0, c0, t0⟩ := hf 0 _ rfl
      obtain ⟨v1, y1, c1, t1⟩ := hf 1 _ rfl
      obtain ⟨v2, y2, c2, t2⟩ := hf 2 _ rfl
      obtain ⟨v3, y3, c3, t3⟩ := hf 3 _ rfl
      obtain ⟨n0, e0, _, hs0⟩ := DataW.trod_string Tryz.underlying9 t0
      obtain ⟨n1, e1, _, _⟩ := DataW.trod_int Tryz.underlying3 t1
      obtain ⟨n2, e2, _, _⟩ := DataW.trod_int Tryz.underlying3 t2
      obtain ⟨n3, e3, _, _⟩ := DataW.trod_int Tryz.underlying3 t3
      simp only [List.cons.injEq, and_true] at e0 e1 e2 e3
      subst e0 e1 e2 e3
      refine ⟨⟨n0, n1, n2, n3⟩, by unfold maxLen at hs0; simp only; omega, fun j v hv => ?_⟩
      rcases j with _ | _ | _ | _ | j
      · simp [encG] at hv; subst hv; exact c0
      · simp [encG] at hv; subst hv; exact c1
      · simp [encG] at hv; subst hv; exact c2
      · simp [encG] at hv; subst hv; exact c3
      · simp [encG] at hv)
    subst hx1
    exact ⟨some a, cap, xs, rfl, hx2, hl, by unfold maxLen at hm; omega, hx3⟩
set_option maxRecDepth 100000 in
theorem open_q {r : Reach} {b0 : Nat} {v : Value} {d : DataW H} {p : List MemPlace} (hv : Value.okWide Tryz.prog W r b0 47 v) (h : DataW.Trod enc Tryz.prog W base spare held 47 v d p) :
    ∃ q : Quantity, v = .agg #[.string q.name, .int .i64 q.lo, .int .i64 q.hi, .int .i64 q.rise, .int .i64 q.fall, .int .i64 q.bad, .slice q.gA q.gs.length q.gc] ∧ QIn W W.heap.size q := by
  obtain ⟨cs, rfl, hsz⟩ := okWide_struct Tryz.underlying47 hv
  have hC : Tryz.prog.cellsOf 47 = 7 := by kernel_rfl
  have k1 : Tryz.prog.cellsOf 9 = 1 := by kernel_rfl
  have k2 : Tryz.prog.cellsOf 44 = 2 := by kernel_rfl
  have k3 : Tryz.prog.cellsOf 3 = 1 := by kernel_rfl
  have k4 : Tryz.prog.cellsOf 45 = 1 := by kernel_rfl
  obtain ⟨l⟩ := cs
  match l, hsz.trans hC with
  | [c0, c1, c2, c3, c4, c5, c6], _ =>
    obtain ⟨fuel, hf⟩ := h
    obtain ⟨xs, n, _, _, _, hlen, hg⟩ := DataW.trod_struct Tryz.underlying47 hf
    match xs, hlen with
    | [y0, y1, y2, y3, y4, y5], _ =>
      have g0 : DataW.trod enc Tryz.prog W base spare held n 9 (([c0, c1, c2, c3, c4, c5, c6].drop 0).take (Tryz.prog.cellsOf 9)) = some y0 := hg 0 _ rfl
      have g1 : DataW.trod enc Tryz.prog W base spare held n 44 (([c0, c1, c2, c3, c4, c5, c6].drop 1).take (Tryz.prog.cellsOf 44)) = some y1 := hg 1 _ rfl
      have g2 : DataW.trod enc Tryz.prog W base spare held n 3 (([c0, c1, c2, c3, c4, c5, c6].drop 3).take (Tryz.prog.cellsOf 3)) = some y2 := hg 2 _ rfl
      have g3 : DataW.trod enc Tryz.prog W base spare held n 3 (([c0, c1, c2, c3, c4, c5, c6].drop 4).take (Tryz.prog.cellsOf 3)) = some y3 := hg 3 _ rfl
      have g4 : DataW.trod enc Tryz.prog W base spare held n 3 (([c0, c1, c2, c3, c4, c5, c6].drop 5).take (Tryz.prog.cellsOf 3)) = some y4 := hg 4 _ rfl
      have g5 : DataW.trod enc Tryz.prog W base spare held n 45 (([c0, c1, c2, c3, c4, c5, c6].drop 6).take (Tryz.prog.cellsOf 45)) = some y5 := hg 5 _ rfl
      rw [k1] at g0
      rw [k2] at g1
      rw [k3] at g2 g3 g4
      rw [k4] at g5
      obtain ⟨s, e0, _, hs⟩ := DataW.trod_string Tryz.underlying9 g0
      obtain ⟨zs, n1, _, _, _, hzl, hz⟩ := DataW.trod_struct Tryz.underlying44 g1
      match zs, hzl with
      | [z0, z1], _ =>
        have h0 : DataW.trod enc Tryz.prog W base spare held n1 3 ((([c0, c1, c2, c3, c4, c5, c6].drop 1).take 2).drop 0 |>.take (Tryz.prog.cellsOf 3)) = some z0 := hz 0 _ rfl
        have h1 : DataW.trod enc Tryz.prog W base spare held n1 3 ((([c0, c1, c2, c3, c4, c5, c6].drop 1).take 2).drop 1 |>.take (Tryz.prog.cellsOf 3)) = some z1 := hz 1 _ rfl
        rw [k3] at h0 h1
        obtain ⟨lo, e1, _, _⟩ := DataW.trod_int Tryz.underlying3 h0
        obtain ⟨hi, e2, _, _⟩ := DataW.trod_int Tryz.underlying3 h1
        obtain ⟨ri, e3, _, _⟩ := DataW.trod_int Tryz.underlying3 g2
        obtain ⟨fa, e4, _, _⟩ := DataW.trod_int Tryz.underlying3 g3
        obtain ⟨ba, e5, _, _⟩ := DataW.trod_int Tryz.underlying3 g4
        obtain ⟨A, c, gs, e6, hsl, hl, hc, hnm⟩ := open_gs g5
        simp at e0 e1 e2 e3 e4 e5 e6
        subst e0 e1 e2 e3 e4 e5 e6
        exact ⟨⟨s, lo, hi, ri, fa, ba, A, c, gs⟩, rfl, by unfold maxLen at hs; simp only; omega, by simp only; omega, hl, hc, hsl, hnm⟩
end
section
variable {H : Type} {enc : TypeId × Value → H} {P : Program}
theorem post_of_below {f : Func} {s : ChangeSpec} {apart fresh handsOn again : Bool} {W W' : World} {args : Array Value} {v : Value} {ds gs : List (DataW H)} {before pa pv : List MemPlace}
    (hW : DataW.Whole enc P f.params.toList s.vars apart W args.toList ds gs before)
    (hres : ∀ (b : Nat) (sp : Nat → Bool) (hd : Bool), DataW.TrodAll enc P W' b sp hd f.resultTypes.toList (v.resultList f.resultTypes.size) (s.fn H (ds ++ gs)).results [])
    (hargs : ∀ sp : Nat → Bool, (∀ p ∈ before, sp p.block = true) → DataW.TrodAll enc P W' 0 sp true f.params.toList args.toList (s.fn H (ds ++ gs)).args pa)
    (hvars : ∀ sp : Nat → Bool, (∀ p ∈ before, sp p.block = true) → DataW.TrodVars enc P W' sp s.vars (s.fn H (ds ++ gs)).vars pv)
    (hps : before = pa ++ pv) (hb : Below W.heap.size W W')
    (hok : ∀ (j : Nat) (t : TypeId) (r : Value), f.resultTypes[j]? = some t → (v.resultList f.resultTypes.size)[j]? = some r → Value.okWide P W' .any 0 t r) :
    s.post enc P f apart fresh handsOn again W args v W' := by
  have hlt : ∀ p ∈ before, p.block < W.heap.size := fun p hp => hW.lt p hp
  have hold : ∀ p ∈ before, (fun b => decide (b < W.heap.size)) p.block = true := fun p hp => by simpa using hlt p hp
  refine ⟨ds, gs, before, [], pa, pv, hW, hres _ _ _, hargs _ hold, hvars _ hold, World.keptBut_mono (fun p hp => ⟨hp, ?_⟩) (hb.frame (· ∈ before)), fun _ => ?_⟩
  · rw [hps, List.mem_append] at hp
    exact Or.inr hp
  · obtain ⟨_, _, _, _, _, hz, hn⟩ := hW
    refine ⟨hok, _, _, ([] ++ pa) ++ pv, ⟨[] ++ pa, pv, trodAll_append (hargs _ (fun _ _ => rfl)) (hres _ _ _), hvars _ (fun _ _ => rfl), rfl, ?_, ?_⟩, ?_⟩
    · intro b off hp
      have hin : MemPlace.cell b off ∈ before := by rw [hps]; simpa using hp
      rw [hb.frozen (hlt _ hin)]
      exact hz b off hin
    · intro ha
      have := hn ha
      rw [hps] at this
      simpa using this
    · intro p hp _
      rw [hps]
      simpa using hp
/-- all arguments read behind the call as before it -/
theorem all_stay (hl : laidOutB P = true) {W W' : World} {sp : Nat → Bool} : ∀ (ts : List TypeId) (vs : List Value) (ds : List (DataW H)) (ps : List MemPlace), (∀ t ∈ ts, P.readableRec t = true ∧ t < P.types.size) →
    DataW.TrodAll enc P W 0 (fun _ => true) true ts vs ds ps → (∀ x ∈ ps, W.sameAt W' x) → (∀ x ∈ ps, sp x.block = true) → DataW.TrodAll enc P W' 0 sp true ts vs ds ps
  | [], vs, ds, ps, _, h, _, _ => by
    obtain ⟨rfl, rfl, rfl⟩ := trodAll_nil h
    exact trodAll_mk0
  | t :: ts, vs, ds, ps, hr, h, h1, h2 => by
    obtain ⟨v, vs', d, ds', p, q, rfl, rfl, rfl, hd, hrest⟩ := trodAll_cons h
    exact trodAll_cons_mk (WideElems.Trod_stays hl (hr t (by simp)).1 (hr t (by simp)).2 hd (fun x hx => h1 x (by simp [hx])) (fun x hx => h2 x (by simp [hx])))
      (all_stay hl ts vs' ds' q (fun t ht => hr t (by simp [ht])) hrest (fun x hx => h1 x (by simp [hx])) (fun x hx => h2 x (by simp [hx])))
end
theorem Tryz.own : ownKnob Tryz.prog.godebug = none := by kernel_rfl
theorem Tryz.laidOut : laidOutB Tryz.prog = true := by kernel_rfl
end Go.Proofs.YtcgnpndfhhcplaaGreatDoor
