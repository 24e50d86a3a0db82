/-
  What the condition of WatchParses and WatchBack gives the walks: the tables and errors of Go's library read as the program's text lays them; one variable holds some number. Over any row with that list.
-/
import Derived.Test.YtcgnpndfhhcplaaGreatDoorLines
import Derived.Test.YtcgnpndfhhcplaaGreatDoorRows
import Derived.ProofKit
import Derived.LaidMore
import Derived.Lib.LaidTab
import Derived.Stop.LaidErr
import Derived.Shelf.Vars
import Derived.HandedShaped
namespace Go.Proofs.YtcgnpndfhhcplaaGreatDoor
open Go.RowKit W7
theorem var_below {P : Program} {W X : World} {n : String} {cs : Array Value} (h : W.var? P n = some cs) (hb : Below W.heap.size W X) : X.var? P n = some cs := by
  unfold World.var? at h ⊢
  cases hg : P.globalNamed n with
  | none => rw [hg] at h; cases h
  | some g =>
    rw [hg] at h
    simp only [Option.bind_some] at h ⊢
    by_cases hl : g < W.heap.size
    · rw [hb.block g hl]; exact h
    · rw [Array.getElem?_eq_none (by omega)] at h; cases h
theorem lt_of_cell {w : World} {b o : Nat} {v : Value} (h : w.cell? ⟨b, o, none⟩ = some v) : b < w.heap.size := by
  refine Nat.lt_of_not_le fun hge => ?_
  unfold World.cell? at h
  rw [Array.getElem?_eq_none hge] at h
  cases h
theorem gPowT : Tryz.prog.globalNamed "internal/strconv.uint64pow10" = some 1 := by kernel_rfl
theorem tPowT : (Tryz.prog.globals[1]?).map (·.type) = some 188 := by kernel_rfl
theorem gRng : Tryz.prog.globalNamed "strconv.ErrRange" = some 7 := by kernel_rfl
theorem tRng : (Tryz.prog.globals[7]?).map (·.type) = some 69 := by kernel_rfl
theorem gSyn : Tryz.prog.globalNamed "strconv.ErrSyntax" = some 6 := by kernel_rfl
theorem tSyn : (Tryz.prog.globals[6]?).map (·.type) = some 69 := by kernel_rfl
theorem starE : "*" ++ "errors.errorString" = "*errors.errorString" := by decide
theorem rowE (u : TypeId) (h : Tryz.prog.typeName? 3 u = some "*errors.errorString") : u = 225 :=
  typeName_ptr_named (nm := "errors.errorString") (by rw [starE]; kernel_rfl) (by kernel_rfl) (by decide) u (by rw [starE]; exact h)
theorem cellE : Tryz.prog.cellsOf 227 = 1 := by kernel_rfl
theorem cellS : Tryz.prog.cellsOf 9 = 1 := by kernel_rfl
theorem env_of {W : World} (h : laidMetH Tryz.prog Rows.watchParsesRow.laid W) (hsh : W.ShapedOpen Tryz.prog) : Env W.heap.size W := by
  rw [MakeChecks.laidMetH_plain _ _ _ (by kernel_rfl)] at h
  have h3 : laidMet Tryz.prog _ W := h.tail.tail.tail.tail
  obtain ⟨a0, s0, hv0, _, _, _⟩ := laid_sentinel h3 gRng tRng Tryz.underlying69 rowE Tryz.underlying225 Tryz.underlying227 rfl rfl Tryz.underlying9 cellE cellS
  obtain ⟨a1, s1, hv1, _, _, _⟩ := laid_sentinel h3.tail gSyn tSyn Tryz.underlying69 rowE Tryz.underlying225 Tryz.underlying227 rfl rfl Tryz.underlying9 cellE cellS
  obtain ⟨m, hm⟩ := cell_of_shapedOpen_int (P := Tryz.prog) (g := 0) (t := 3) (zero := #[.int .i64 0]) hsh (of_decide_eq_true (by kernel_rfl)) (by kernel_rfl) rfl (by kernel_rfl) (by kernel_rfl) Tryz.underlying3
  have hg : 0 < W.heap.size := lt_of_cell hm
  exact ⟨Lib.tabBelow_of_tabIs (Lib.tabIs_of_head (n := 20) gPowT tPowT Tryz.underlying188 Tryz.underlying165 (by kernel_rfl) (by kernel_rfl) h.tail.tail),
    ⟨m, fun X hX => (hX.cell (p := ⟨0, 0, none⟩) hg).trans hm⟩,
    ⟨_, _, fun X hX => var_below hv1 hX⟩, ⟨_, _, fun X hX => var_below hv0 hX⟩⟩
/-- the wrap of a row with a list, the world's shape kept -/
theorem returns_and_shaped {H : Type} {enc : TypeId × Value → H} {a : Assume} {C : Checked} {os : Os} {f : FuncId} {fn : Func} {s : ChangeSpec} {conds : List PathCond} {apart fresh handsOn again : Bool} {X : World → Array Value → Prop}
    (hX : ∀ (w w' : World) (args : Array Value), w.heap = w'.heap → X w args → X w' args) (own : ownKnob C.prog.godebug = none) (started : os.Started) (noInit : C.prog.inits.idxOf? f = none) (hfn : C.prog.funcs[f]? = some fn)
    (witness : ∃ (w : World) (tape : Tape) (i : Input), w.os = os ∧ (w.forCall tape i).Shaped C.prog ∧ i.vars = [] ∧ Input.okWide C.prog (w.forCall tape i) .any w.heap.size f i ∧
      ((s.pre enc C.prog fn conds apart (w.forCall tape i).memory i.args ∧ X (w.forCall tape i).memory i.args) ∧ sizedMet enc C.prog fn (OpenSpec.ofChange s) apart (w.forCall tape i).memory i.args) ∧ a.holds C.prog (lone (Frame.enter C.prog f i.args .normal) [] (w.forCall tape i)))
    (contract : ∀ (W : World) (base : Nat) (args : Array Value) (ds gs : List (DataW H)) (before : List MemPlace),
      (∀ (j : Nat) t v, fn.params[j]? = some t → args[j]? = some v → Value.okWide C.prog W .any base t v) → DataW.Whole enc C.prog fn.params.toList s.vars apart W args.toList ds gs before →
      X W args → W.ShapedOpen C.prog → Calls C.prog f args W fun e W' => ∃ v, e = .returned v ∧ s.post enc C.prog fn apart fresh handsOn again W args v W') :
    ReturnsInHanded a C os f .any (fun w args => (s.pre enc C.prog fn conds apart w args ∧ X w args) ∧ sizedMet enc C.prog fn (OpenSpec.ofChange s) apart w args) (s.post enc C.prog fn apart fresh handsOn again) := by
  refine returnsInHanded_of_calls own started noInit witness ?_
  intro w tape i _ hsh _ hok hpre _
  obtain ⟨_, _, _, fn', hfn', _, _, _, _, hval⟩ := hok
  obtain rfl : fn' = fn := Option.some.inj (hfn'.symm.trans hfn)
  obtain ⟨⟨⟨ds, gs, before, hw, _⟩, hx⟩, _⟩ := hpre
  refine (contract (w.forCall tape i) w.heap.size i.args ds gs before hval (DataW.Whole.of_heap (w' := w.forCall tape i) (by rfl) hw) (hX _ _ _ (by rfl) hx) hsh).mono fun e W' ⟨v, he, hp⟩ => ?_
  subst he
  exact ChangeSpec.post_blind hp
end Go.Proofs.YtcgnpndfhhcplaaGreatDoor
