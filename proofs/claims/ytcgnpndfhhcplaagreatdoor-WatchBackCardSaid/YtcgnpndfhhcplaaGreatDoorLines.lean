/-
  The library's functions that a text is read with, at this program; package watch's demand, number, numbers: they panic with the line's error or give the numbers. Conditions: texts are short; the tables and errors of Go's library read as their initialisers lay them.
  Over any program: worlds that have grown by new blocks and, at most, in one row; what stands in them.
  Package watch's reader of a plan's lines: where its parts lie, and its method that reads a quantity. Conditions: the parts are the call's own; texts are short; package-level variables read as their initialisers lay them.
  Package watch's reader of a plan's lines: a plan's rows when its last quantity gets a gauge. Conditions: the rows are the call's own.
  slices.IndexFunc over quantities and measures, by a word of a line. Condition: how the slices and the words lie in memory.
  Package watch's reader of a plan's lines: the closure that catches a line's error, called for a frame that panics and for one that returns. Conditions: where the named result lies.
-/
import Derived.Test.YtcgnpndfhhcplaaGreatDoorLine
import Derived.Test.YtcgnpndfhhcplaaGreatDoorTxt
import Derived.Test.YtcgnpndfhhcplaaGreatDoorParsePlain
import Derived.Test.YtcgnpndfhhcplaaGreatDoorClone
import Derived.Test.YtcgnpndfhhcplaaGreatDoorRegion
import Derived.Test.YtcgnpndfhhcplaaGreatDoorRange
import Derived.Deep.CutRange
import Derived.Laws.OwnMore
import Derived.BigQuiet
import Derived.Recover
namespace Go.Proofs.YtcgnpndfhhcplaaGreatDoor
open Go.RowKit W7
/-- what the walks ask of package-level variables, whatever is done at blocks from B on -/
structure Env (B : Nat) (w : World) : Prop where
  tab : Tab B w
  max : ∃ m : Int, ∀ X, Below B w X → X.cell? ⟨0, 0, none⟩ = some (.int .i64 m)
  syn : ∃ (tp : TypeId) (p : Value), ∀ X, Below B w X → X.var? Tryz.prog "strconv.ErrSyntax" = some #[.iface tp p]
  rng : ∃ (tp : TypeId) (p : Value), ∀ X, Below B w X → X.var? Tryz.prog "strconv.ErrRange" = some #[.iface tp p]
theorem Env.on {B B' : Nat} {w w' : World} (h : Env B w) (hb : Below B w w') (hB : B ≤ B') : Env B' w' :=
  ⟨fun X hX => h.tab X (hb.trans (hX.mono hB)), h.max.imp fun _ k X hX => k X (hb.trans (hX.mono hB)),
    h.syn.imp fun _ k => k.imp fun _ k X hX => k X (hb.trans (hX.mono hB)), h.rng.imp fun _ k => k.imp fun _ k X hX => k X (hb.trans (hX.mono hB))⟩
theorem below_drewN' (w : World) (n : Nat) : Below w.heap.size w (w.drewN n) := below_drewN (Below.refl _ _) n
theorem cut_lib (s : ByteArray) (B : Nat) (w : World) (hs : s.size ≤ 1000000) (hE : Env B w) :
    Calls Tryz.prog 52 #[.string s, .string ⟨#[10]⟩] w fun e w' => e = .returned (.tuple #[.string (bst (Go.Lib.cut s.data.toList [10]).1), .string (bst (Go.Lib.cut s.data.toList [10]).2.1), .bool (Go.Lib.cut s.data.toList [10]).2.2]) ∧ Below w.heap.size w w' := by
  obtain ⟨m, hm⟩ := hE.max
  exact (Any.strings_Cut Tryz.layCut s ⟨#[10]⟩ m w (by omega) (hm w (Below.refl _ _))).mono fun _ _ ⟨he, n, hw⟩ => ⟨he, hw ▸ below_drewN' w n⟩
theorem split_lib (s : ByteArray) (B : Nat) (w : World) (hs : s.size ≤ 1000000) (hE : Env B w) :
    Calls Tryz.prog 77 #[.string s, .string ⟨#[32]⟩] w fun e w' => ∃ ws : List ByteArray, ws.map (·.data.toList) = parts 32 s.data.toList ∧ e = .returned (.slice (some ⟨w.heap.size, 0, none⟩) ws.length ws.length) ∧ w' = w.alloc (.cells (ws.map Value.string).toArray 9) := by
  obtain ⟨m, hm⟩ := hE.max
  refine (Any.strings_Split Tryz.laySplit (by kernel_rfl) s ⟨#[32]⟩ m w (by omega) (hm w (Below.refl _ _)) (by decide)).mono fun _ _ ⟨he, hw⟩ => ⟨_, split_parts s 32, ?_, hw⟩
  rw [he, Lib.splitB_all ⟨#[32]⟩ (by decide) 0 _ s rfl]
theorem trim_lib (s : ByteArray) (w : World) : Calls Tryz.prog 154 #[.string s, .string ⟨#[45]⟩] w fun e w' => e = .returned (.string (bst (Go.Lib.trimPrefix s.data.toList [45]))) ∧ Below w.heap.size w w' :=
  (Any.strings_TrimPrefix Tryz.layTrim s ⟨#[45]⟩ w).mono fun _ _ ⟨he, hw⟩ => ⟨he, hw ▸ Below.refl _ _⟩
theorem atoi_lib (s : ByteArray) (B : Nat) (w : World) (hs : s.size ≤ 1000000) (hE : Env B w) :
    Calls Tryz.prog 153 #[.string s] w fun e w' => Below w.heap.size w w' ∧ ((∃ v, Go.Lib.atoiAll s.data.toList = .ok v ∧ e = .returned (.tuple #[.int .i64 v, .nilIface])) ∨ ((∀ v, Go.Lib.atoiAll s.data.toList ≠ .ok v) ∧ ∃ (x : Int) (T : TypeId) (p : Value), e = .returned (.tuple #[.int .i64 x, .iface T p]))) := by
  rcases h : Go.Lib.atoiAll s.data.toList with v | _ | _
  · refine (Any.strconv_Atoi_ok Tryz.layAtoi s (by omega) v h w).mono fun _ _ ⟨he, hw⟩ => ⟨?_, .inl ⟨v, rfl, he⟩⟩
    rcases hw with hw | ⟨t, hw⟩
    · rw [hw]; exact Below.refl _ _
    · rw [hw]; exact ⟨rfl, rfl, rfl, by rw [Lib.bytesWorld_size]; omega, fun j hj => Lib.bytesWorld_at_old w _ t j hj⟩
  · obtain ⟨tp, p, hv⟩ := hE.syn
    exact (Any.strconv_Atoi_syntax_var Tryz.layAtoi s (by omega) h tp p w (hv w (Below.refl _ _))).mono fun _ _ ⟨N, he, _, _, hb⟩ => ⟨hb, .inr ⟨(fun v hv => by cases hv), _, _, _, he⟩⟩
  · obtain ⟨tp, p, hv⟩ := hE.rng
    exact (Any.strconv_Atoi_range_var Tryz.layAtoi s (by omega) h tp p w (hv w (Below.refl _ _))).mono fun _ _ ⟨N, he, _, _, hb⟩ => ⟨hb, .inr ⟨(fun v hv => by cases hv), _, _, _, he⟩⟩
theorem itoaA_lib (n : Int) (B : Nat) (w : World) (h0 : -9223372036854775808 ≤ n) (h1 : n ≤ 9223372036854775807) (hE : Env B w) :
    Calls Tryz.prog 24 #[.int .i64 n] w fun e w' => e = .returned (.string (itB n)) ∧ Below w.heap.size w w' :=
  (Any.strconv_Itoa Tryz.layItoa n h0 h1 w hE.tab.here).mono fun _ _ ⟨he, k, os, hw⟩ => ⟨he, hw ▸ below_grow k os⟩
/-- the panic with a line's error -/
def pnc (k : Int) : List PanicEntry := [{ v := .iface 121 (.agg #[.int .i64 k]), recovered := false }]
theorem demand_ok (k : Int) (w : World) : Calls Tryz.prog 78 #[.bool true, .int .i64 k] w fun e w' => e = .returned (.tuple #[]) ∧ Below w.heap.size w w' := by
  go_enter Tryz.func78, Tryz.ntmps78
  go_wp2
  go_end0
  exact ⟨rfl, Below.refl _ _⟩
theorem demand_no (k : Int) (w : World) : Calls Tryz.prog 78 #[.bool false, .int .i64 k] w fun e w' => e = .panicked (pnc k) ∧ Below w.heap.size w w' := by
  go_enter Tryz.func78, Tryz.ntmps78
  go_wp2
  exact ⟨rfl, rfl, Below.refl _ _⟩
/-- how package watch's number ends: the number, or the panic of a line that is not in form -/
theorem number_any (s : ByteArray) (B : Nat) (w : World) (hs : s.size ≤ 1000000) (hE : Env B w) (hB : B ≤ w.heap.size) :
    Calls Tryz.prog 131 #[.string s] w fun e w' => Below w.heap.size w w' ∧ ((∃ n, numB s.data.toList = some n ∧ e = .returned (.int .i64 n)) ∨ (numB s.data.toList = none ∧ e = .panicked (pnc 4))) := by
  have HA := Lib.hid (atoi_lib s B w hs hE)
  have HE := Lib.hid hE
  clear hE
  go_enter Tryz.func131, Tryz.ntmps131
  go_wp2_with (go_at_call 153; fail)
  refine HA.out.mono ?_
  rintro r w1 ⟨hb1, (⟨v, hv, rfl⟩ | ⟨hno, x, T, p, rfl⟩)⟩
  rotate_left
  · have hs1 := hb1.size
    have HN := Lib.hid (num_none_err hno)
    have Hb1 := Lib.hid hb1
    have HD := Lib.hid (demand_no 4 w1)
    clear hno hb1 HA
    go_wp2_with (go_at_call 78; refine HD.out.mono ?_; rintro r w2 ⟨rfl, hb2⟩)
    exact ⟨rfl, Hb1.out.trans (hb2.mono hs1), .inr ⟨HN.out, rfl⟩⟩
  · have hs1 := hb1.size
    have Hb1 := Lib.hid hb1
    have Hv := Lib.hid hv
    have hbv := Lib.atoiAll_bounds hv
    have HI := Lib.hid (itoaA_lib v B w1 (by omega) (by omega) (HE.out.on (hb1.mono hB) (Nat.le_refl _)))
    have HEq := Lib.hid (show ((itB v).toList == s.toList) = true → s.data.toList = Go.Lib.itoa v from fun h => by
      rw [ByteArray.toList_eq, ByteArray.toList_eq] at h
      have := eq_of_beq h
      rw [← this]
      simp [itB])
    have HNe := Lib.hid (show s.data.toList = Go.Lib.itoa v → ((itB v).toList == s.toList) = true from fun h => by
      rw [ByteArray.toList_eq, ByteArray.toList_eq, h]
      simp [itB])
    clear hv hb1 HA
    cases he : ((itB v).toList == s.toList)
    · have HN := Lib.hid (show numB s.data.toList = none from num_none_ne Hv.out (fun h => by have := HNe.out h.1.symm; rw [he] at this; cases this))
      have HD := Lib.hid (fun X => demand_no 4 X)
      go_wp2_with (first | (go_at_call 24; refine HI.out.mono ?_; rintro r w2 ⟨rfl, hb2⟩) | (go_at_call 78; refine (HD.out _).mono ?_; rintro r w3 ⟨rfl, hb3⟩))
      have := hb2.size
      exact ⟨rfl, (Hb1.out.trans (hb2.mono hs1)).trans (hb3.mono (by omega)), .inr ⟨HN.out, rfl⟩⟩
    · have Hl := Lib.hid (HEq.out he)
      have HT := Lib.hid (fun X => trim_lib s X)
      have Hlen := Lib.hid (show (bst (Go.Lib.trimPrefix s.data.toList [45])).size ≤ 10 ↔ (-10000000000 < v ∧ v < 10000000000) by
        rw [← trim_len v, ← Hl.out]
        show (List.toArray _).size ≤ 10 ↔ _
        rw [List.size_toArray])
      obtain ⟨T, hT⟩ : ∃ T, T = bst (Go.Lib.trimPrefix s.data.toList [45]) := ⟨_, rfl⟩
      rw [← hT] at Hlen
      simp only [← hT] at HT
      clear hT
      by_cases h10 : T.size ≤ 10
      · have HN := Lib.hid (show numB s.data.toList = some v from num_of.1 ⟨Hl.out.symm, Hlen.out.1 h10⟩)
        have hd : decide ((T.size : Int) ≤ 10) = true := by simp; omega
        have HD := Lib.hid (fun X => demand_ok 4 X)
        go_wp2_with (first | (go_at_call 24; refine HI.out.mono ?_; rintro r w2 ⟨rfl, hb2⟩) | (go_at_call 154; refine (HT.out _).mono ?_; rintro r w3 ⟨rfl, hb3⟩) | (go_at_call 78; refine (HD.out _).mono ?_; rintro r w4 ⟨rfl, hb4⟩))
        go_ret
        have := hb2.size
        have := hb3.size
        exact ⟨((Hb1.out.trans (hb2.mono hs1)).trans (hb3.mono (by omega))).trans (hb4.mono (by omega)), .inl ⟨v, HN.out, rfl⟩⟩
      · have HN := Lib.hid (show numB s.data.toList = none from num_none_ne Hv.out (fun h => h10 (Hlen.out.2 h.2)))
        have hd : decide ((T.size : Int) ≤ 10) = false := by simp; omega
        have HD := Lib.hid (fun X => demand_no 4 X)
        go_wp2_with (first | (go_at_call 24; refine HI.out.mono ?_; rintro r w2 ⟨rfl, hb2⟩) | (go_at_call 154; refine (HT.out _).mono ?_; rintro r w3 ⟨rfl, hb3⟩) | (go_at_call 78; refine (HD.out _).mono ?_; rintro r w4 ⟨rfl, hb4⟩))
        have := hb2.size
        have := hb3.size
        exact ⟨rfl, ((Hb1.out.trans (hb2.mono hs1)).trans (hb3.mono (by omega))).trans (hb4.mono (by omega)), .inr ⟨HN.out, rfl⟩⟩
set_option maxHeartbeats 1000000 in
set_option maxRecDepth 100000 in
theorem numbers_any (ws : List ByteArray) (A : Option Addr) (n c B : Nat) (w : World) (hn : n = ws.length) (hA : Sl w w.heap.size 1 encS1 A ws) (hs : ∀ s ∈ ws, s.size ≤ 1000000) (hl : n ≤ 1000000) (hE : Env B w) (hB : B ≤ w.heap.size) :
    Calls Tryz.prog 108 #[.slice A n c] w fun e w' => Below w.heap.size w w' ∧ ((∃ ns v, numsB (ws.map (·.data.toList)) = some ns ∧ e = .returned v ∧ w'.ownsRow w.heap.size 3 1 v ns.length (ns.map (Value.int .i64))) ∨ (numsB (ws.map (·.data.toList)) = none ∧ e = .panicked (pnc 4))) := by
  have HA := Lib.hid hA
  have Hs := Lib.hid hs
  have HE := Lib.hid hE
  have Hn := Lib.hid hn
  clear hA hs hE hn
  go_enter Tryz.func108, Tryz.ntmps108
  go_wp2
  go_loopw [3, 8] (fun v3 v8 wr => ∃ (i : Nat) (ns : List Int), i ≤ n ∧ v8 = .int .i64 i ∧ Hid (numsB ((ws.take i).map (·.data.toList)) = some ns) ∧ Hid (wr.ownsRow w.heap.size 3 1 v3 ns.length (ns.map (Value.int .i64))) ∧ Hid (Below w.heap.size w wr)) (fun _ v8 _ => n - (intOf v8).toNat)
  case atStart => exact ⟨0, [], by omega, rfl, Lib.hid rfl, Lib.hid (World.ownsRow_nil _ _ _ _), Lib.hid (Below.refl _ _)⟩
  case round =>
    obtain ⟨i, ns, hi, rfl, HN, HO, Hb⟩ := hrel
    have hsz := Hb.out.size
    by_cases hlt : i < n
    · have hin : i < ws.length := by have := Hn.out; omega
      obtain ⟨b, off, rfl, hb, hcell⟩ := HA.out (by omega)
      have hbw : b < wr.heap.size := by omega
      obtain ⟨s, hs⟩ : ∃ s, s = ws[i] := ⟨_, rfl⟩
      have c0 : wr.cell? ⟨b, off + i, none⟩ = some (.string s) := by
        have h := (Hb.out.cell (p := ⟨b, off + i * 1 + 0, none⟩) hb).trans (hcell i hin 0 _ rfl)
        rw [Nat.mul_one, Nat.add_zero] at h
        rw [hs]; exact h
      have Hmem := Lib.hid (show s.data.toList ∈ ws.map (·.data.toList) by rw [hs]; exact List.mem_map.2 ⟨_, List.getElem_mem hin, rfl⟩)
      have Hsn := Lib.hid (show ∀ x, numB s.data.toList = some x → numsB ((ws.take (i + 1)).map (·.data.toList)) = some (ns ++ [x]) from fun x hx => by
        rw [List.take_succ_eq_append_getElem hin, List.map_append, ← hs]
        exact numsB_snoc HN.out hx)
      have HC := Lib.hid (number_any s B wr (by rw [hs]; exact Hs.out _ (List.getElem_mem hin)) (HE.out.on (Hb.out.mono hB) (Nat.le_refl _)) (by omega))
      have hnl : ns.length = i := by
        have := numsB_len HN.out
        rw [List.length_map, List.length_take] at this
        omega
      clear hs hcell
      go_wp2_with (go_at_call 131; fail)
      refine HC.out.mono ?_
      rintro r w1 ⟨hb1, (⟨x, hx, rfl⟩ | ⟨hno, rfl⟩)⟩
      · have hs1 := hb1.size
        have HO1 := Lib.hid (own_below HO.out hb1)
        have Hb1 := Lib.hid (Hb.out.trans (hb1.mono hsz))
        have Hx := Lib.hid (Hsn.out x hx)
        clear hb1 hx HC c0 HO
        have hbase : w.heap.size ≤ w1.heap.size := by omega
        go_wp2_with (at_builtin; refine wpList_append1 rfl _ _ 57 rfl w.heap.size 3 _ 1 8 elemInt _ _ _ rfl HO1.out #[.int .i64 x] 1 _ rfl (by simp) rfl (by simp [Value.oneCell']) (by omega) (by omega) ?_; intro v6 w6 hown6 hb6 hsz6 hg6 hblk6; have Ho6 := Lib.hid hown6; have Hb6 := Lib.hid hb6; clear hown6 hb6 hsz6 hg6 hblk6)
        go_roundw
        case rel => exact ⟨i + 1, ns ++ [x], by omega, by go_num, Hx, Lib.hid (by rw [List.length_append, List.map_append]; exact Ho6.out), Lib.hid (Hb1.out.trans Hb6.out)⟩
        case measure => simp [intOf]; omega
      · exact ⟨rfl, Hb.out.trans (hb1.mono hsz), .inr ⟨numsB_no Hmem.out hno, rfl⟩⟩
    · obtain rfl : i = n := by omega
      have HF := Lib.hid (show numsB (ws.map (·.data.toList)) = some ns by have h := HN.out; rwa [Hn.out, List.take_length] at h)
      go_wp2
      go_ret
      exact ⟨Hb.out, .inl ⟨ns, _, HF.out, rfl, HO.out⟩⟩
end Go.Proofs.YtcgnpndfhhcplaaGreatDoor
namespace W7
open Go Go.RowKit
theorem grown_refl (w : World) (row : Option Nat) : w.grownBy w row := ⟨rfl, rfl, rfl, Nat.le_refl _, fun _ _ _ => rfl⟩
theorem grown_trans {a b c : World} {row : Option Nat} (h : a.grownBy b row) (k : b.grownBy c row) : a.grownBy c row :=
  ⟨k.os.trans h.os, k.tape.trans h.tape, k.output.trans h.output, Nat.le_trans h.size k.size, fun i hi hn => (k.block i (Nat.lt_of_lt_of_le hi h.size) hn).trans (h.block i hi hn)⟩
theorem grown_alloc {a b : World} {row : Option Nat} (h : a.grownBy b row) (o : Obj) : a.grownBy (b.alloc o) row :=
  grown_trans h ⟨rfl, rfl, rfl, by simp, fun i hi _ => Below.heap_alloc b o i hi⟩
theorem grown_below' {a b : World} {row : Option Nat} (h : Below a.heap.size a b) : a.grownBy b row := ⟨h.os, h.tape, h.output, h.size, fun i hi _ => h.block i hi⟩
/-- a world that has come of w so -/
def GLater (w : World) (row : Option Nat) : Type := { W : World // w.grownBy W row }
def GLater.w {w : World} {row : Option Nat} (e : GLater w row) : World := e.1
theorem GLater.g {w : World} {row : Option Nat} (e : GLater w row) : w.grownBy e.w row := e.2
theorem glater_cell {w : World} {row : Option Nat} {b o : Nat} {v : Value} (h : w.cell? ⟨b, o, none⟩ = some v) (hb : b < w.heap.size) (hr : some b ≠ row) : ∀ e : GLater w row, e.w.cell? ⟨b, o, none⟩ = some v := fun e => by
  rw [← h]
  exact World.cell?_of_block (a := ⟨b, o, none⟩) (e.g.block b hb hr)
/-- a block that is new since w -/
def NewBlk (w X : World) (g : Nat) (cs : Array Value) (e : TypeId) : Prop := w.heap.size ≤ g ∧ X.heap[g]? = some (.cells cs e (0, 0))
theorem NewBlk.lt {w X : World} {g : Nat} {cs : Array Value} {e : TypeId} (h : NewBlk w X g cs e) : g < X.heap.size := (Array.getElem?_eq_some_iff.1 h.2).1
theorem NewBlk.below {w X Y : World} {g : Nat} {cs : Array Value} {e : TypeId} (h : NewBlk w X g cs e) (hb : Below X.heap.size X Y) : NewBlk w Y g cs e := ⟨h.1, (hb.block g h.lt).trans h.2⟩
theorem NewBlk.new {w X : World} {cs : Array Value} {e : TypeId} (h : w.heap.size ≤ X.heap.size) : NewBlk w (X.alloc (.cells cs e)) X.heap.size cs e := ⟨h, heap_alloc_new X _⟩
theorem NewBlk.src {w X : World} {g : Nat} {cs : Array Value} {e : TypeId} {size : Nat} (h : NewBlk w X g cs e) (hs : cs.size = size) : Src X size (some ⟨g, 0, none⟩) 1 cs.toList := by
  refine .inr ⟨_, rfl, by simp [hs], fun j u hu => ?_⟩
  have hadd : (⟨g, 0, none⟩ : Addr).add j = ⟨g, j, none⟩ := by unfold Addr.add; split <;> simp_all
  rw [hadd]
  simp only [World.cell?, h.2]
  simpa using hu
/-- a row of another kind stands -/
theorem own_kind {w w' : World} {base base' e e' size size' n m : Nat} {v u : Value} {xs ys : List Value} (h : w.ownsRow base e size v n xs) (hr : w.ownsRow base' e' size' u m ys) (hg : w.grownBy w' u.ownBlock) (hne : e ≠ e') : w'.ownsRow base e size v n xs :=
  h.kept hg (by
    cases hv : v.ownBlock with
    | none => exact .inl rfl
    | some k =>
      refine .inr fun hk => ?_
      obtain ⟨cs, hc⟩ := owns_block h k hv
      obtain ⟨cs', hc'⟩ := owns_block hr k hk.symm
      rw [hc] at hc'
      simp only [Option.some.injEq, Obj.cells.injEq] at hc'
      exact hne hc'.2.1)
/-- a block of another kind, or none of the row's, stands -/
theorem row_ne {w : World} {base e size n k : Nat} {v : Value} {xs : List Value} {o : Obj} (h : w.ownsRow base e size v n xs) (hk : w.heap[k]? = some o) (ho : ∀ cs, o ≠ .cells cs e (0, 0)) : some k ≠ v.ownBlock := fun hv => by
  obtain ⟨cs, hc⟩ := owns_block h k hv.symm
  rw [hk] at hc
  exact ho cs (Option.some.inj hc)
theorem own_cap' {w : World} {base e size n : Nat} {v : Value} {xs : List Value} (h : w.ownsRow base e size v n xs) : ∃ A c, v = .slice A n c ∧ n ≤ c ∧ c ≤ 9223372036854775807 := by
  rcases h.2 with ⟨rfl, rfl⟩ | ⟨g, cap, cur, rfl, _, _, h1, h2, _⟩
  · exact ⟨_, _, rfl, Nat.le_refl _, by decide⟩
  · exact ⟨_, _, rfl, h1, by unfold maxLen at h2; omega⟩
end W7
namespace Go.Proofs.YtcgnpndfhhcplaaGreatDoor
open Go.RowKit W7
attribute [local go_sem] Oper.semAt_some
/-- a plan whose rows are the call's own, from block B on -/
structure OwnP (B : Nat) (w : World) (p : Plan) : Prop where
  q : w.ownsRow B 47 7 (.slice p.qA p.qs.length p.qc) p.qs.length (p.qs.flatMap encQ)
  g : ∀ i (h : i < p.qs.length), w.ownsRow B 28 4 (.slice p.qs[i].gA p.qs[i].gs.length p.qs[i].gc) p.qs[i].gs.length (p.qs[i].gs.flatMap encG)
  sep : ∀ i j (hi : i < p.qs.length) (hj : j < p.qs.length), i ≠ j → ∀ k, (Value.slice p.qs[i].gA p.qs[i].gs.length p.qs[i].gc).ownBlock = some k → (Value.slice p.qs[j].gA p.qs[j].gs.length p.qs[j].gc).ownBlock ≠ some k
  m : w.ownsRow B 49 5 (.slice p.mA p.ms.length p.mc) p.ms.length (p.ms.flatMap encM)
  a : w.ownsRow B 75 4 (.slice p.aA p.al.length p.ac) p.al.length (p.al.flatMap encA)
/-- a plan as a value -/
def planV (p : Plan) : Value := .agg #[.slice p.qA p.qs.length p.qc, .slice p.mA p.ms.length p.mc, .slice p.aA p.al.length p.ac]
/-- the reader's own block -/
def LinesAt (w : World) (lb : Nat) (p : Plan) (last : ByteArray) : Prop := w.heap[lb]? = some (.cells #[.slice p.qA p.qs.length p.qc, .slice p.mA p.ms.length p.mc, .slice p.aA p.al.length p.ac, .string last] 96 (0, 0))
theorem elemQu : Elem Tryz.prog 22 47 (.agg #[.string ByteArray.empty, .int .i64 0, .int .i64 0, .int .i64 0, .int .i64 0, .int .i64 0, .slice none 0 0]) 7 80 := Elem.mk' Tryz.underlying22 (by kernel_rfl) rfl (by decide) (by decide)
theorem LinesAt.cells {w : World} {lb : Nat} {p : Plan} {last : ByteArray} (h : LinesAt w lb p last) : w.cell? ⟨lb, 0, none⟩ = some (.slice p.qA p.qs.length p.qc) ∧ w.cell? ⟨lb, 1, none⟩ = some (.slice p.mA p.ms.length p.mc) ∧ w.cell? ⟨lb, 2, none⟩ = some (.slice p.aA p.al.length p.ac) ∧ w.cell? ⟨lb, 3, none⟩ = some (.string last) := by
  unfold LinesAt at h
  simp only [World.cell?, h]
  exact ⟨rfl, rfl, rfl, rfl⟩
/-- where words lie -/
def WordsAt (w : World) (b : Nat) (ws : List ByteArray) : Prop := w.heap[b]? = some (.cells (ws.map Value.string).toArray 9 (0, 0))
theorem WordsAt.lt {w : World} {b : Nat} {ws : List ByteArray} (h : WordsAt w b ws) : b < w.heap.size := (Array.getElem?_eq_some_iff.1 h).1
theorem WordsAt.cell {w : World} {b : Nat} {ws : List ByteArray} (h : WordsAt w b ws) {j : Nat} (hj : j < ws.length) : w.cell? ⟨b, j, none⟩ = some (.string ws[j]) := by
  unfold WordsAt at h
  simp only [World.cell?, h]
  simp [hj]
theorem WordsAt.sl {w : World} {b k : Nat} {ws : List ByteArray} (h : WordsAt w b ws) : Sl w w.heap.size 1 encS1 (some ⟨b, k, none⟩) (ws.drop k) := fun _ => by
  refine ⟨b, k, rfl, h.lt, fun i hi j v hv => ?_⟩
  rw [List.length_drop] at hi
  have hj : j = 0 := by
    cases j with
    | zero => rfl
    | succ j => simp [encS1] at hv
  subst hj
  rw [List.getElem_drop] at hv
  have h1 := h.cell (j := k + i) (by omega)
  rw [Nat.mul_one, Nat.add_zero, h1]
  simpa [encS1] using hv
/-- a store into a block of another kind leaves a row -/
theorem own_setK {w : World} {base e e' size n lb j : Nat} {v : Value} {xs : List Value} {cs : Array Value} {fz : Nat × Nat} (h : w.ownsRow base e size v n xs) (hL : w.heap[lb]? = some (.cells cs e' fz)) (hne : e' ≠ e) (u : Value) : (w.setCell ⟨lb, j, none⟩ u).ownsRow base e size v n xs := by
  refine h.kept (row := some lb) ⟨rfl, rfl, rfl, by simp [World.setCell], fun k _ hk => Below.heap_setCell _ _ _ _ (fun e => hk (by simp [e]))⟩ ?_
  cases hv : v.ownBlock with
  | none => exact .inl rfl
  | some k =>
    refine .inr fun hk => ?_
    obtain rfl := Option.some.inj hk
    obtain ⟨cs', hc⟩ := owns_block h k hv
    rw [hL] at hc
    simp only [Option.some.injEq, Obj.cells.injEq] at hc
    exact hne hc.2.1
/-- the kinds of rows of a plan -/
def PKind (e : TypeId) : Prop := e = 47 ∨ e = 28 ∨ e = 49 ∨ e = 75
theorem PKind.ne {e : TypeId} (h : PKind e) : 96 ≠ e := by rcases h with rfl | rfl | rfl | rfl <;> decide
theorem OwnP.below {B : Nat} {w w' : World} {p : Plan} (h : OwnP B w p) (hb : Below w.heap.size w w') : OwnP B w' p :=
  ⟨own_below h.q hb, fun i hi => own_below (h.g i hi) hb, h.sep, own_below h.m hb, own_below h.a hb⟩
theorem OwnP.addQ {B : Nat} {w w' : World} {p : Plan} {A' : Option Addr} {c' : Nat} {q : Quantity} (hO : OwnP B w p) (hq : q.gs = [] ∧ q.gA = none ∧ q.gc = 0)
    (hoN : w'.ownsRow B 47 7 (.slice A' (p.qs.length + 1) c') (p.qs.length + 1) (p.qs.flatMap encQ ++ encQ q))
    (hx : ∀ (e size : Nat) (v : Value) (n : Nat) (xs : List Value), PKind e → e ≠ 47 → w.ownsRow B e size v n xs → w'.ownsRow B e size v n xs) : OwnP B w' { p with qA := A', qc := c', qs := p.qs ++ [q] } := by
  obtain ⟨h1, h2, h3⟩ := hq
  have hat : ∀ i (h : i < p.qs.length), (p.qs ++ [q])[i]'(by simp; omega) = p.qs[i] := fun i h => List.getElem_append_left h
  have hlast : (p.qs ++ [q])[p.qs.length]'(by simp) = q := by simp
  refine ⟨by simpa using hoN, fun i h => ?_, fun i j hi hj hij k hk => ?_, hx _ _ _ _ _ (.inr (.inr (.inl rfl))) (by decide) hO.m, hx _ _ _ _ _ (.inr (.inr (.inr rfl))) (by decide) hO.a⟩
  · have hi : i < p.qs.length + 1 := by simpa using h
    rcases Nat.lt_or_ge i p.qs.length with hlt | hge
    · have := hx _ _ _ _ _ (.inr (.inl rfl)) (by decide) (hO.g i hlt)
      simp only [hat i hlt]
      exact this
    · obtain rfl : i = p.qs.length := by omega
      simp only [hlast, h1, h2, h3]
      exact World.ownsRow_nil _ _ _ _
  · have hi' : i < p.qs.length + 1 := by simpa using hi
    have hj' : j < p.qs.length + 1 := by simpa using hj
    rcases Nat.lt_or_ge i p.qs.length with hlt | hge
    · rcases Nat.lt_or_ge j p.qs.length with hlt2 | hge2
      · simp only [hat i hlt, hat j hlt2] at hk ⊢
        exact hO.sep i j hlt hlt2 hij k hk
      · obtain rfl : j = p.qs.length := by omega
        simp only [hlast, h1, h2]
        intro h; cases h
    · obtain rfl : i = p.qs.length := by omega
      simp only [hlast, h1, h2] at hk
      cases hk
theorem five {l : List Int} (h : l.length = 5) : ∃ a b c d e, l = [a, b, c, d, e] := by
  match l, h with
  | [a, b, c, d, e], _ => exact ⟨a, b, c, d, e, rfl⟩
theorem OwnP.addM {B : Nat} {w w' : World} {p : Plan} {A' : Option Addr} {c' : Nat} {m : Measure} (hO : OwnP B w p)
    (hoN : w'.ownsRow B 49 5 (.slice A' (p.ms.length + 1) c') (p.ms.length + 1) (p.ms.flatMap encM ++ encM m))
    (hx : ∀ (e size : Nat) (v : Value) (n : Nat) (xs : List Value), PKind e → e ≠ 49 → w.ownsRow B e size v n xs → w'.ownsRow B e size v n xs) : OwnP B w' { p with mA := A', mc := c', ms := p.ms ++ [m] } :=
  ⟨hx _ _ _ _ _ (.inl rfl) (by decide) hO.q, fun i h => hx _ _ _ _ _ (.inr (.inl rfl)) (by decide) (hO.g i h), hO.sep, by simpa using hoN, hx _ _ _ _ _ (.inr (.inr (.inr rfl))) (by decide) hO.a⟩
theorem OwnP.addA {B : Nat} {w w' : World} {p : Plan} {A' : Option Addr} {c' : Nat} {a : Alarm} (hO : OwnP B w p)
    (hoN : w'.ownsRow B 75 4 (.slice A' (p.al.length + 1) c') (p.al.length + 1) (p.al.flatMap encA ++ encA a))
    (hx : ∀ (e size : Nat) (v : Value) (n : Nat) (xs : List Value), PKind e → e ≠ 75 → w.ownsRow B e size v n xs → w'.ownsRow B e size v n xs) : OwnP B w' { p with aA := A', ac := c', al := p.al ++ [a] } :=
  ⟨hx _ _ _ _ _ (.inl rfl) (by decide) hO.q, fun i h => hx _ _ _ _ _ (.inr (.inl rfl)) (by decide) (hO.g i h), hO.sep, hx _ _ _ _ _ (.inr (.inr (.inl rfl))) (by decide) hO.m, by simpa using hoN⟩
theorem three {l : List Int} (h : l.length = 3) : ∃ a b c, l = [a, b, c] := by
  match l, h with
  | [a, b, c], _ => exact ⟨a, b, c, rfl⟩
theorem two {l : List Int} (h : l.length = 2) : ∃ a b, l = [a, b] := by
  match l, h with
  | [a, b], _ => exact ⟨a, b, rfl⟩
theorem elemMe : Elem Tryz.prog 23 49 (.agg #[.string ByteArray.empty, .string ByteArray.empty, .int .i64 0, .int .i64 0, .int .i64 0]) 5 56 := Elem.mk' Tryz.underlying23 (by kernel_rfl) rfl (by decide) (by decide)
theorem elemAl : Elem Tryz.prog 24 75 (.agg #[.int .i64 0, .int .i64 0, .int .i64 0, .int .i64 0]) 4 32 := Elem.mk' Tryz.underlying24 (by kernel_rfl) rfl (by decide) (by decide)
theorem elemGa : Elem Tryz.prog 45 28 (.agg #[.string ByteArray.empty, .int .i64 0, .int .i64 0, .int .i64 0]) 4 40 := Elem.mk' Tryz.underlying45 (by kernel_rfl) rfl (by decide) (by decide)
/-- all but the reader's own block and the plan's rows stands -/
def KeepO (lb : Nat) (w w' : World) : Prop := ∀ (k : Nat) (o : Obj), k < w.heap.size → k ≠ lb → w.heap[k]? = some o → (∀ cs e, o = .cells cs e (0, 0) → ¬ PKind e) → w'.heap[k]? = some o
theorem KeepO.of_below {lb : Nat} {w w' : World} (h : Below w.heap.size w w') : KeepO lb w w' := fun k _ hk _ ho _ => (h.block k hk).trans ho
theorem KeepO.fin {lb b' j B e size n : Nat} {w w2 W : World} {v u : Value} {xs : List Value} (hb : Below w.heap.size w w2) (ho : w2.ownsRow B e size v n xs) (he : PKind e) (hg : w2.grownBy W v.ownBlock) (hs : b' = lb ∨ ∃ cs e', w2.heap[b']? = some (.cells cs e' (0, 0)) ∧ PKind e') : KeepO lb w (W.setCell ⟨b', j, none⟩ u) := fun k o hk hne hko hnp => by
  have h2 : w2.heap[k]? = some o := (hb.block k hk).trans hko
  have hkb : k ≠ b' := by
    rcases hs with rfl | ⟨cs, e', hc, hp⟩
    · exact hne
    · rintro rfl
      rw [h2] at hc
      exact hnp cs e' (Option.some.inj hc) hp
  rw [Below.heap_setCell _ _ _ _ (fun h => hkb h)]
  refine (hg.block k (Nat.lt_of_lt_of_le hk hb.size) (fun hr => ?_)).trans h2
  obtain ⟨cs, hc⟩ := owns_block ho k hr.symm
  rw [h2] at hc
  exact hnp cs e (Option.some.inj hc) he
theorem OwnP.setK {B lb j e' : Nat} {w : World} {p : Plan} {cs : Array Value} {fz : Nat × Nat} (h : OwnP B w p) (hL : w.heap[lb]? = some (.cells cs e' fz)) (hne : ∀ e, PKind e → e' ≠ e) (u : Value) : OwnP B (w.setCell ⟨lb, j, none⟩ u) p :=
  ⟨own_setK h.q hL (hne _ (.inl rfl)) u, fun i hi => own_setK (h.g i hi) hL (hne _ (.inr (.inl rfl))) u, h.sep, own_setK h.m hL (hne _ (.inr (.inr (.inl rfl)))) u, own_setK h.a hL (hne _ (.inr (.inr (.inr rfl)))) u⟩
def zeroC : Obj := .cells #[.slice none 0 0, .slice none 0 0, .slice none 0 0] 26
theorem plan_ne (e : TypeId) (h : PKind e) : 26 ≠ e := by rcases h with rfl | rfl | rfl | rfl <;> decide
theorem res_set {w : World} {b : Nat} (h : w.heap[b]? = some zeroC) (x y z : Value) (hx : x = .slice none 0 0 := by rfl) (hy : y = .slice none 0 0 := by rfl) (hz : z = .slice none 0 0 := by rfl) : (((w.setCell ⟨b, 0, none⟩ x).setCell ⟨b, 1, none⟩ y).setCell ⟨b, 2, none⟩ z).heap[b]? = some zeroC := by
  subst hx hy hz
  simp [World.setCell, Array.getElem?_modify, h, zeroC]
theorem res_cells {w : World} {b : Nat} (h : w.heap[b]? = some zeroC) : w.cell? ⟨b, 0, none⟩ = some (.slice none 0 0) ∧ w.cell? ⟨b, 1, none⟩ = some (.slice none 0 0) ∧ w.cell? ⟨b, 2, none⟩ = some (.slice none 0 0) := by
  simp only [World.cell?, h]
  exact ⟨rfl, rfl, rfl⟩
theorem res_plan {w : World} {b : Nat} (h : w.heap[b]? = some zeroC) (p : Plan) :
    ((w.setCell ⟨b, 0, none⟩ (.slice p.qA p.qs.length p.qc)).heap[b]? = some (.cells #[.slice p.qA p.qs.length p.qc, .slice none 0 0, .slice none 0 0] 26 (0, 0)) ∧
     ((w.setCell ⟨b, 0, none⟩ (.slice p.qA p.qs.length p.qc)).setCell ⟨b, 1, none⟩ (.slice p.mA p.ms.length p.mc)).heap[b]? = some (.cells #[.slice p.qA p.qs.length p.qc, .slice p.mA p.ms.length p.mc, .slice none 0 0] 26 (0, 0))) ∧
    (((w.setCell ⟨b, 0, none⟩ (.slice p.qA p.qs.length p.qc)).setCell ⟨b, 1, none⟩ (.slice p.mA p.ms.length p.mc)).setCell ⟨b, 2, none⟩ (.slice p.aA p.al.length p.ac)).cell? ⟨b, 0, none⟩ = some (.slice p.qA p.qs.length p.qc) ∧
    (((w.setCell ⟨b, 0, none⟩ (.slice p.qA p.qs.length p.qc)).setCell ⟨b, 1, none⟩ (.slice p.mA p.ms.length p.mc)).setCell ⟨b, 2, none⟩ (.slice p.aA p.al.length p.ac)).cell? ⟨b, 1, none⟩ = some (.slice p.mA p.ms.length p.mc) ∧
    (((w.setCell ⟨b, 0, none⟩ (.slice p.qA p.qs.length p.qc)).setCell ⟨b, 1, none⟩ (.slice p.mA p.ms.length p.mc)).setCell ⟨b, 2, none⟩ (.slice p.aA p.al.length p.ac)).cell? ⟨b, 2, none⟩ = some (.slice p.aA p.al.length p.ac) := by
  have h1 : (w.setCell ⟨b, 0, none⟩ (.slice p.qA p.qs.length p.qc)).heap[b]? = some (.cells #[.slice p.qA p.qs.length p.qc, .slice none 0 0, .slice none 0 0] 26 (0, 0)) := by
    simp [World.setCell, Array.getElem?_modify, h, zeroC]
  have h2 : ((w.setCell ⟨b, 0, none⟩ (.slice p.qA p.qs.length p.qc)).setCell ⟨b, 1, none⟩ (.slice p.mA p.ms.length p.mc)).heap[b]? = some (.cells #[.slice p.qA p.qs.length p.qc, .slice p.mA p.ms.length p.mc, .slice none 0 0] 26 (0, 0)) := by
    generalize w.setCell ⟨b, 0, none⟩ (.slice p.qA p.qs.length p.qc) = w1 at h1
    simp [World.setCell, Array.getElem?_modify, h1]
  have h3 : (((w.setCell ⟨b, 0, none⟩ (.slice p.qA p.qs.length p.qc)).setCell ⟨b, 1, none⟩ (.slice p.mA p.ms.length p.mc)).setCell ⟨b, 2, none⟩ (.slice p.aA p.al.length p.ac)).heap[b]? = some (.cells #[.slice p.qA p.qs.length p.qc, .slice p.mA p.ms.length p.mc, .slice p.aA p.al.length p.ac] 26 (0, 0)) := by
    generalize (w.setCell ⟨b, 0, none⟩ (.slice p.qA p.qs.length p.qc)).setCell ⟨b, 1, none⟩ (.slice p.mA p.ms.length p.mc) = w1 at h2
    simp [World.setCell, Array.getElem?_modify, h2]
  refine ⟨⟨h1, h2⟩, ?_⟩
  simp only [World.cell?, h3]
  exact ⟨rfl, rfl, rfl⟩
end Go.Proofs.YtcgnpndfhhcplaaGreatDoor
namespace Go.Proofs.YtcgnpndfhhcplaaGreatDoor
open Go.RowKit W7
theorem owns_cellsN {w : World} {base e size n : Nat} {v : Value} {xs : List Value} (h : w.ownsRow base e size v n xs) (hn : 0 < n) :
    ∃ g cap, v = .slice (some ⟨g, 0, none⟩) n cap ∧ base ≤ g ∧ g < w.heap.size ∧ n ≤ cap ∧ cap ≤ 9223372036854775807 ∧ ∀ (j : Nat) (u : Value), xs[j]? = some u → w.cell? ⟨g, j, none⟩ = some u := by
  rcases h.2 with ⟨_, h0⟩ | ⟨g, cap, cur, rfl, hb, hg, h1, h2, h3, h4⟩
  · omega
  · refine ⟨g, cap, rfl, hb, (Array.getElem?_eq_some_iff.1 hg).1, h1, by unfold maxLen at h2; omega, fun j u hu => ?_⟩
    rw [← h4] at hu
    have hj : j < n * size := by
      have := (List.getElem?_eq_some_iff.1 hu).1
      rw [List.length_take] at this
      omega
    rw [List.getElem?_take, if_pos hj] at hu
    simp only [World.cell?, hg]
    simpa using hu
theorem flat_len {α : Type} (f : α → List Value) (k : Nat) (hf : ∀ x, (f x).length = k) : ∀ xs : List α, (xs.flatMap f).length = k * xs.length
  | [] => rfl
  | x :: r => by simp [flat_len f k hf r, hf, Nat.mul_add]; omega
theorem lenQ (q : Quantity) : (encQ q).length = 7 := rfl
theorem lastQ (qi : List Quantity) (q : Quantity) (j : Nat) : ((qi ++ [q]).flatMap encQ)[7 * qi.length + j]? = (encQ q)[j]? := by
  rw [List.flatMap_append, List.getElem?_append_right (by rw [flat_len encQ 7 lenQ]; omega), flat_len encQ 7 lenQ]
  simp
theorem setQ (qi : List Quantity) (q : Quantity) (A : Option Addr) (c : Nat) (gs : List Gauge) : ((qi ++ [q]).flatMap encQ).set (7 * qi.length + 6) (.slice A gs.length c) = (qi ++ [{ q with gA := A, gc := c, gs := gs }]).flatMap encQ := by
  rw [List.flatMap_append, List.flatMap_append, List.set_append_right _ _ (by rw [flat_len encQ 7 lenQ]; omega), flat_len encQ 7 lenQ]
  simp [encQ]
theorem OwnP.addG {B : Nat} {w w' : World} {p : Plan} {A' : Option Addr} {c' : Nat} {qi : List Quantity} {q : Quantity} {gs : List Gauge} (hO : OwnP B w p) (hp : p.qs = qi ++ [q])
    (hqN : w'.ownsRow B 47 7 (.slice p.qA p.qs.length p.qc) p.qs.length ((qi ++ [{ q with gA := A', gc := c', gs := gs }]).flatMap encQ))
    (hgN : w'.ownsRow B 28 4 (.slice A' gs.length c') gs.length (gs.flatMap encG))
    (hbN : (Value.slice A' gs.length c').ownBlock = (Value.slice q.gA q.gs.length q.gc).ownBlock ∨ ∃ k, (Value.slice A' gs.length c').ownBlock = some k ∧ w.heap.size ≤ k)
    (hx : ∀ (e size : Nat) (v : Value) (n : Nat) (xs : List Value), PKind e → e ≠ 47 → (∀ k, v.ownBlock = some k → (Value.slice q.gA q.gs.length q.gc).ownBlock ≠ some k) → w.ownsRow B e size v n xs → w'.ownsRow B e size v n xs)
    (hk : ∀ (e size : Nat) (v : Value) (n : Nat) (xs : List Value), PKind e → e ≠ 47 → e ≠ 28 → w.ownsRow B e size v n xs → w'.ownsRow B e size v n xs) :
    OwnP B w' { p with qs := qi ++ [{ q with gA := A', gc := c', gs := gs }] } := by
  have hlen : p.qs.length = qi.length + 1 := by rw [hp]; simp
  have hpi : ∀ i (h : i < qi.length), p.qs[i]'(by omega) = qi[i] := fun i h => by simp only [hp]; exact List.getElem_append_left h
  have hpl : p.qs[qi.length]'(by omega) = q := by simp [hp]
  have hat : ∀ i (h : i < qi.length), (qi ++ [({ q with gA := A', gc := c', gs := gs } : Quantity)])[i]'(by simp; omega) = qi[i] := fun i h => List.getElem_append_left h
  have hlast : (qi ++ [({ q with gA := A', gc := c', gs := gs } : Quantity)])[qi.length]'(by simp) = { q with gA := A', gc := c', gs := gs } := by simp
  have hsep : ∀ i (h : i < qi.length), ∀ k, (Value.slice qi[i].gA qi[i].gs.length qi[i].gc).ownBlock = some k → (Value.slice q.gA q.gs.length q.gc).ownBlock ≠ some k := fun i h k hk => by
    have := hO.sep i qi.length (by omega) (by omega) (by omega) k (by rw [hpi i h]; exact hk)
    rwa [hpl] at this
  have hgi : ∀ i (h : i < qi.length), w.ownsRow B 28 4 (.slice qi[i].gA qi[i].gs.length qi[i].gc) qi[i].gs.length (qi[i].gs.flatMap encG) := fun i h => by
    have := hO.g i (by omega)
    rwa [hpi i h] at this
  have hnew : ∀ i (h : i < qi.length), ∀ k, (Value.slice qi[i].gA qi[i].gs.length qi[i].gc).ownBlock = some k → (Value.slice A' gs.length c').ownBlock ≠ some k := fun i h k hk => by
    rcases hbN with h1 | ⟨k', h1, h2⟩
    · rw [h1]; exact hsep i h k hk
    · rw [h1]
      intro h3
      obtain rfl := Option.some.inj h3
      have := ((hgi i h).lt k' hk).2
      omega
  refine ⟨?_, fun i h => ?_, fun i j hi hj hij k hk' => ?_, hk _ _ _ _ _ (.inr (.inr (.inl rfl))) (by decide) (by decide) hO.m, hk _ _ _ _ _ (.inr (.inr (.inr rfl))) (by decide) (by decide) hO.a⟩
  · have e : (qi ++ [({ q with gA := A', gc := c', gs := gs } : Quantity)]).length = p.qs.length := by rw [hlen]; simp
    show w'.ownsRow B 47 7 (.slice p.qA (qi ++ [({ q with gA := A', gc := c', gs := gs } : Quantity)]).length p.qc) _ _
    rw [e]
    exact hqN
  · have hi : i < qi.length + 1 := by simpa using h
    rcases Nat.lt_or_ge i qi.length with hlt | hge
    · simp only [hat i hlt]
      exact hx _ _ _ _ _ (.inr (.inl rfl)) (by decide) (hsep i hlt) (hgi i hlt)
    · obtain rfl : i = qi.length := by omega
      simp only [hlast]
      exact hgN
  · have hi' : i < qi.length + 1 := by simpa using hi
    have hj' : j < qi.length + 1 := by simpa using hj
    rcases Nat.lt_or_ge i qi.length with hlt | hge
    · rcases Nat.lt_or_ge j qi.length with hlt2 | hge2
      · simp only [hat i hlt, hat j hlt2] at hk' ⊢
        have := hO.sep i j (by omega) (by omega) hij k (by rw [hpi i hlt]; exact hk')
        rwa [hpi j hlt2] at this
      · obtain rfl : j = qi.length := by omega
        simp only [hlast, hat i hlt] at hk' ⊢
        exact hnew i hlt k hk'
    · obtain rfl : i = qi.length := by omega
      rcases Nat.lt_or_ge j qi.length with hlt2 | hge2
      · simp only [hlast, hat j hlt2] at hk' ⊢
        intro h
        exact hnew j hlt2 k h hk'
      · exact absurd (by omega) hij
end Go.Proofs.YtcgnpndfhhcplaaGreatDoor
namespace Go.Proofs.YtcgnpndfhhcplaaGreatDoor
open Go.RowKit W7
theorem flat_get {α : Type} {enc : α → List Value} {k : Nat} (hk : ∀ x, (enc x).length = k) : ∀ (xs : List α) (i j : Nat) (hi : i < xs.length), j < k → (xs.flatMap enc)[i * k + j]? = (enc xs[i])[j]?
  | x :: r, 0, j, _, hj => by
    show (enc x ++ r.flatMap enc)[0 * k + j]? = _
    rw [Nat.zero_mul, Nat.zero_add, List.getElem?_append_left (by rw [hk]; exact hj)]
    rfl
  | x :: r, i + 1, j, hi, hj => by
    show (enc x ++ r.flatMap enc)[(i + 1) * k + j]? = _
    rw [List.getElem?_append_right (by rw [hk, Nat.add_mul]; omega), hk, show (i + 1) * k + j - k = i * k + j by rw [Nat.add_mul]; omega, flat_get hk r i j (by simpa using hi) hj]
    rfl
theorem sl_own2 {α : Type} {enc : α → List Value} {k : Nat} (hk : ∀ x, (enc x).length = k) {w : World} {base e : Nat} {A : Option Addr} {c : Nat} {xs : List α} (h : w.ownsRow base e k (.slice A xs.length c) xs.length (xs.flatMap enc)) : Sl w w.heap.size k enc A xs := fun h0 => by
  obtain ⟨g, cap, e1, _, hgw, _, _, hc⟩ := owns_cellsN h h0
  cases e1
  refine ⟨g, 0, rfl, hgw, fun i hi j v hv => ?_⟩
  have hj : j < k := by
    rcases Nat.lt_or_ge j k with h1 | h1
    · exact h1
    · rw [List.getElem?_eq_none (by rw [hk]; exact h1)] at hv; cases hv
  have := hc (i * k + j) v ((flat_get hk xs i j hi hj).trans hv)
  simpa using this
theorem lenM (m : Measure) : (encM m).length = 5 := rfl
theorem alarm1_any (x : Quantity) (nm : ByteArray) (bw bg : Nat) (w : World) (hc0 : w.cell? ⟨bg, 0, none⟩ = some (.slice (some ⟨bw, 0, none⟩) 5 5)) (hc1 : w.cell? ⟨bw, 1, none⟩ = some (.string nm)) (hbw : bw < w.heap.size) (hbg : bg < w.heap.size) :
    Calls Tryz.prog 109 #[.agg #[.string x.name, .int .i64 x.lo, .int .i64 x.hi, .int .i64 x.rise, .int .i64 x.fall, .int .i64 x.bad, .slice x.gA x.gs.length x.gc], .pointer (some ⟨bg, 0, none⟩)] w fun e w' => e = .returned (.bool (strEq x.name nm)) ∧ Below w.heap.size w w' := by
  go_enter Tryz.func109, Tryz.ntmps109
  go_wp2
  go_quiet (fail)
  go_wp2
  go_ret
  exact ⟨rfl, below_drewN (Below.alloc (Below.refl _ _) (by simp) _) _⟩
set_option maxHeartbeats 1000000 in
theorem idxAlQ_any (xs : List Quantity) (nm : ByteArray) (bw : Nat) (n : Nat) (hn : n = xs.length) (A : Option Addr) (c B bg : Nat) (w : World) (hA : Sl w B 7 encQ A xs) (hB : B ≤ w.heap.size) (hl : xs.length ≤ 1000000000)
    (hc0 : w.cell? ⟨bg, 0, none⟩ = some (.slice (some ⟨bw, 0, none⟩) 5 5)) (hc1 : w.cell? ⟨bw, 1, none⟩ = some (.string nm)) (hbw : bw < w.heap.size) (hbg : bg < w.heap.size) :
    Calls Tryz.prog 101 #[.slice A n c, .func (.func 109) #[] #[.pointer (some ⟨bg, 0, none⟩)]] w fun e w' =>
      e = .returned (.int .i64 (idxB (fun x : Quantity => strEq x.name nm) xs)) ∧ Below w.heap.size w w' := by
  subst hn
  have HA := Lib.hid hA
  clear hA
  have Hc0 := Lib.hid hc0; clear hc0
  have Hc1 := Lib.hid hc1; clear hc1
  go_enter Tryz.func101, Tryz.ntmps101
  go_wp2
  go_loopw [8] (fun i wr => ∃ k : Nat, k ≤ xs.length ∧ i = .int .i64 k ∧ Hid ((xs.take k).any (fun x : Quantity => strEq x.name nm) = false) ∧ Below w.heap.size w wr) (fun i _ => xs.length - (intOf i).toNat)
  case atStart => exact ⟨0, by omega, rfl, Lib.hid (by simp), Below.refl _ _⟩
  case round =>
    obtain ⟨k, hk, rfl, Hno, hb⟩ := hrel
    by_cases hlt : k < xs.length
    · obtain ⟨b, off, rfl, hbB, hcells⟩ := HA.out (by omega)
      have h0 := hcells k hlt
      clear hcells
      have c0 : wr.cell? ⟨b, off + k * 7, none⟩ = some (.string xs[k].name) := (hb.cell (p := ⟨b, _, none⟩) (by simp; omega)).trans (h0 0 _ rfl)
      have c1 : wr.cell? ⟨b, off + k * 7 + 1, none⟩ = some (.int .i64 xs[k].lo) := (hb.cell (p := ⟨b, _, none⟩) (by simp; omega)).trans (h0 1 _ rfl)
      have c2 : wr.cell? ⟨b, off + k * 7 + 2, none⟩ = some (.int .i64 xs[k].hi) := (hb.cell (p := ⟨b, _, none⟩) (by simp; omega)).trans (h0 2 _ rfl)
      have c3 : wr.cell? ⟨b, off + k * 7 + 3, none⟩ = some (.int .i64 xs[k].rise) := (hb.cell (p := ⟨b, _, none⟩) (by simp; omega)).trans (h0 3 _ rfl)
      have c4 : wr.cell? ⟨b, off + k * 7 + 4, none⟩ = some (.int .i64 xs[k].fall) := (hb.cell (p := ⟨b, _, none⟩) (by simp; omega)).trans (h0 4 _ rfl)
      have c5 : wr.cell? ⟨b, off + k * 7 + 5, none⟩ = some (.int .i64 xs[k].bad) := (hb.cell (p := ⟨b, _, none⟩) (by simp; omega)).trans (h0 5 _ rfl)
      have c6 : wr.cell? ⟨b, off + k * 7 + 6, none⟩ = some (.slice xs[k].gA xs[k].gs.length xs[k].gc) := (hb.cell (p := ⟨b, _, none⟩) (by simp; omega)).trans (h0 6 _ rfl)
      have hcg0 : wr.cell? ⟨bg, 0, none⟩ = some (.slice (some ⟨bw, 0, none⟩) 5 5) := (hb.cell (p := ⟨bg, 0, none⟩) hbg).trans Hc0.out
      have hcg1 : wr.cell? ⟨bw, 1, none⟩ = some (.string nm) := (hb.cell (p := ⟨bw, 1, none⟩) hbw).trans Hc1.out
      have Hs := Lib.hid (any_take_succ (p := fun x : Quantity => strEq x.name nm) hlt Hno.out)
      have Hh := Lib.hid (idxB_hit (p := fun x : Quantity => strEq x.name nm) hlt Hno.out)
      have hsz := hb.size
      clear h0
      cases hp : (fun x : Quantity => strEq x.name nm) xs[k]
      · go_wp2_with (go_at_call 109; refine (alarm1_any xs[k] nm bw bg _ (by assumption) (by assumption) (by omega) (by omega)).mono ?_; rintro e w1 ⟨rfl, hb1⟩)
        go_roundw
        case rel => exact ⟨k + 1, by omega, by go_num, Lib.hid (Hs.out (by assumption)), hb.trans (hb1.mono hsz)⟩
        case measure => simp [intOf]; omega
      · go_wp2_with (go_at_call 109; refine (alarm1_any xs[k] nm bw bg _ (by assumption) (by assumption) (by omega) (by omega)).mono ?_; rintro e w1 ⟨rfl, hb1⟩)
        go_ret
        exact ⟨ret_int (Hh.out (by assumption)).symm, hb.trans (hb1.mono hsz)⟩
    · have HN := Lib.hid (idxB_none (p := fun x : Quantity => strEq x.name nm) (xs := xs) (by rw [← Hno.out, List.take_of_length_le (by omega)]))
      go_wp2
      go_ret
      exact ⟨ret_int HN.out.symm, hb⟩

theorem alarm2_any (x : Measure) (nm : ByteArray) (bw bg : Nat) (w : World) (hc0 : w.cell? ⟨bg, 0, none⟩ = some (.slice (some ⟨bw, 0, none⟩) 5 5)) (hc1 : w.cell? ⟨bw, 4, none⟩ = some (.string nm)) (hbw : bw < w.heap.size) (hbg : bg < w.heap.size) :
    Calls Tryz.prog 110 #[.agg #[.string x.name, .string x.crew, .int .i64 x.rank, .int .i64 x.lag, .int .i64 x.takes], .pointer (some ⟨bg, 0, none⟩)] w fun e w' => e = .returned (.bool (strEq x.name nm)) ∧ Below w.heap.size w w' := by
  go_enter Tryz.func110, Tryz.ntmps110
  go_wp2
  go_quiet (fail)
  go_wp2
  go_ret
  exact ⟨rfl, below_drewN (Below.alloc (Below.refl _ _) (by simp) _) _⟩
set_option maxHeartbeats 1000000 in
theorem idxAlM_any (xs : List Measure) (nm : ByteArray) (bw : Nat) (n : Nat) (hn : n = xs.length) (A : Option Addr) (c B bg : Nat) (w : World) (hA : Sl w B 5 encM A xs) (hB : B ≤ w.heap.size) (hl : xs.length ≤ 1000000000)
    (hc0 : w.cell? ⟨bg, 0, none⟩ = some (.slice (some ⟨bw, 0, none⟩) 5 5)) (hc1 : w.cell? ⟨bw, 4, none⟩ = some (.string nm)) (hbw : bw < w.heap.size) (hbg : bg < w.heap.size) :
    Calls Tryz.prog 104 #[.slice A n c, .func (.func 110) #[] #[.pointer (some ⟨bg, 0, none⟩)]] w fun e w' =>
      e = .returned (.int .i64 (idxB (fun x : Measure => strEq x.name nm) xs)) ∧ Below w.heap.size w w' := by
  subst hn
  have HA := Lib.hid hA
  clear hA
  have Hc0 := Lib.hid hc0; clear hc0
  have Hc1 := Lib.hid hc1; clear hc1
  go_enter Tryz.func104, Tryz.ntmps104
  go_wp2
  go_loopw [8] (fun i wr => ∃ k : Nat, k ≤ xs.length ∧ i = .int .i64 k ∧ Hid ((xs.take k).any (fun x : Measure => strEq x.name nm) = false) ∧ Below w.heap.size w wr) (fun i _ => xs.length - (intOf i).toNat)
  case atStart => exact ⟨0, by omega, rfl, Lib.hid (by simp), Below.refl _ _⟩
  case round =>
    obtain ⟨k, hk, rfl, Hno, hb⟩ := hrel
    by_cases hlt : k < xs.length
    · obtain ⟨b, off, rfl, hbB, hcells⟩ := HA.out (by omega)
      have h0 := hcells k hlt
      clear hcells
      have c0 : wr.cell? ⟨b, off + k * 5, none⟩ = some (.string xs[k].name) := (hb.cell (p := ⟨b, _, none⟩) (by simp; omega)).trans (h0 0 _ rfl)
      have c1 : wr.cell? ⟨b, off + k * 5 + 1, none⟩ = some (.string xs[k].crew) := (hb.cell (p := ⟨b, _, none⟩) (by simp; omega)).trans (h0 1 _ rfl)
      have c2 : wr.cell? ⟨b, off + k * 5 + 2, none⟩ = some (.int .i64 xs[k].rank) := (hb.cell (p := ⟨b, _, none⟩) (by simp; omega)).trans (h0 2 _ rfl)
      have c3 : wr.cell? ⟨b, off + k * 5 + 3, none⟩ = some (.int .i64 xs[k].lag) := (hb.cell (p := ⟨b, _, none⟩) (by simp; omega)).trans (h0 3 _ rfl)
      have c4 : wr.cell? ⟨b, off + k * 5 + 4, none⟩ = some (.int .i64 xs[k].takes) := (hb.cell (p := ⟨b, _, none⟩) (by simp; omega)).trans (h0 4 _ rfl)
      have hcg0 : wr.cell? ⟨bg, 0, none⟩ = some (.slice (some ⟨bw, 0, none⟩) 5 5) := (hb.cell (p := ⟨bg, 0, none⟩) hbg).trans Hc0.out
      have hcg1 : wr.cell? ⟨bw, 4, none⟩ = some (.string nm) := (hb.cell (p := ⟨bw, 4, none⟩) hbw).trans Hc1.out
      have Hs := Lib.hid (any_take_succ (p := fun x : Measure => strEq x.name nm) hlt Hno.out)
      have Hh := Lib.hid (idxB_hit (p := fun x : Measure => strEq x.name nm) hlt Hno.out)
      have hsz := hb.size
      clear h0
      cases hp : (fun x : Measure => strEq x.name nm) xs[k]
      · go_wp2_with (go_at_call 110; refine (alarm2_any xs[k] nm bw bg _ (by assumption) (by assumption) (by omega) (by omega)).mono ?_; rintro e w1 ⟨rfl, hb1⟩)
        go_roundw
        case rel => exact ⟨k + 1, by omega, by go_num, Lib.hid (Hs.out (by assumption)), hb.trans (hb1.mono hsz)⟩
        case measure => simp [intOf]; omega
      · go_wp2_with (go_at_call 110; refine (alarm2_any xs[k] nm bw bg _ (by assumption) (by assumption) (by omega) (by omega)).mono ?_; rintro e w1 ⟨rfl, hb1⟩)
        go_ret
        exact ⟨ret_int (Hh.out (by assumption)).symm, hb.trans (hb1.mono hsz)⟩
    · have HN := Lib.hid (idxB_none (p := fun x : Measure => strEq x.name nm) (xs := xs) (by rw [← Hno.out, List.take_of_length_le (by omega)]))
      go_wp2
      go_ret
      exact ⟨ret_int HN.out.symm, hb⟩

end Go.Proofs.YtcgnpndfhhcplaaGreatDoor
namespace Go.Proofs.YtcgnpndfhhcplaaGreatDoor
open Go.RowKit W7
theorem assert_stray (W : World) (v : Value) : (Instr.typeAssert (.iface 121 v) 20 121 true).run Tryz.prog W = .ok (.tuple #[v, .bool true]) W := by kernel_rfl
theorem twelve : Array.replicate 11 undef = (#[undef, undef, undef, undef, undef, undef, undef, undef, undef, undef, undef] : Array Value) := rfl
set_option maxRecDepth 100000 in
theorem catch_stray (b : Nat) (k x : Int) (older : List PanicEntry) (w : World) (hc : w.cell? ⟨b, 0, none⟩ = some (.int .i64 x)) (hz : w.frozen? ⟨b, 0, none⟩ = false) (hb : b < w.heap.size) :
    CallsD Tryz.prog 76 #[.pointer (some ⟨b, 0, none⟩)] (.panicking ({ v := .iface 121 (.agg #[.int .i64 k]), recovered := false } :: older)) w fun e u' w' =>
      e = .returned (.tuple #[]) ∧ u' = .panicking ({ v := .iface 121 (.agg #[.int .i64 k]), recovered := true } :: older) ∧ w' = (w.setCell ⟨b, 0, none⟩ (.int .i64 k)).alloc (.cells #[.int .i64 k] 121) := by
  have hta := assert_stray
  refine callsD_of_wpS Tryz.func76 rfl fun c₀ cs hu => ?_
  apply wpS_seq
  apply wpS_region
  simp [wpOpsS, go_sem, recoverD, hu, Tryz.ntmps76, Exit.thenS]
  refine wpS_of_wp ?_
  rw [twelve]
  go_wp2
  exact ⟨rfl, _, rfl, _, results_none rfl _ _ _, rfl, rfl, rfl⟩
set_option maxRecDepth 100000 in
theorem catch_none (b : Nat) (w : World) :
    CallsD Tryz.prog 76 #[.pointer (some ⟨b, 0, none⟩)] .returning w fun e u' w' => e = .returned (.tuple #[]) ∧ u' = .returning ∧ w' = w := by
  refine callsD_of_wpS Tryz.func76 rfl fun c₀ cs hu => ?_
  apply wpS_seq
  apply wpS_region
  simp [wpOpsS, go_sem, recoverD, hu, Tryz.ntmps76, Exit.thenS]
  refine wpS_of_wp ?_
  rw [twelve]
  go_wp2
  exact ⟨rfl, .returning, by cases c₀; simp_all, _, results_none rfl _ _ _, rfl, rfl, rfl⟩
theorem door_stray {T : Array Value} {b : Nat} {k x : Int} {w : World} {R : Ending → World → Prop} (h4 : T[4]? = some (.pointer (some ⟨b, 0, none⟩))) (hc : w.cell? ⟨b, 0, none⟩ = some (.int .i64 x)) (hz : w.frozen? ⟨b, 0, none⟩ = false) (hb : b < w.heap.size)
    (hR : R (.returned (.int .i64 k)) ((w.setCell ⟨b, 0, none⟩ (.int .i64 k)).alloc (.cells #[.int .i64 k] 121))) :
    Leaves Tryz.prog Tryz.f53 T R [{ target := .fn (.func 76) #[.pointer (some ⟨b, 0, none⟩)], args := #[] }] (.panicking (pnc k)) w := by
  refine leaves_cons (f := 76) (args := #[.pointer (some ⟨b, 0, none⟩)]) (by simp) (by simp [go_sem]) ?_
  refine (catch_stray b k x [] w hc hz hb).mono ?_
  rintro e u' w'' ⟨rfl, rfl, rfl⟩
  have h1 : ((w.setCell ⟨b, 0, none⟩ (.int .i64 k)).alloc (.cells #[.int .i64 k] 121)).cell? ⟨b, 0, none⟩ = some (.int .i64 k) := by
    have hb2 : Below (w.setCell ⟨b, 0, none⟩ (.int .i64 k)).heap.size (w.setCell ⟨b, 0, none⟩ (.int .i64 k)) ((w.setCell ⟨b, 0, none⟩ (.int .i64 k)).alloc (.cells #[.int .i64 k] 121)) := Below.alloc (Below.refl _ _) (Nat.le_refl _) _
    rw [World.cell?_of_block (a := ⟨b, 0, none⟩) (hb2.block b (by simpa using hb))]
    simp [go_sem, hc]
  simp [Leaves, settle, results, Tryz.results53, go_sem, h4, h1]
  exact hR
theorem door_none {T : Array Value} {b : Nat} {k : Int} {w : World} {R : Ending → World → Prop} (h4 : T[4]? = some (.pointer (some ⟨b, 0, none⟩))) (hc : w.cell? ⟨b, 0, none⟩ = some (.int .i64 k))
    (hR : R (.returned (.int .i64 k)) w) :
    Leaves Tryz.prog Tryz.f53 T R [{ target := .fn (.func 76) #[.pointer (some ⟨b, 0, none⟩)], args := #[] }] .returning w := by
  refine leaves_cons (f := 76) (args := #[.pointer (some ⟨b, 0, none⟩)]) (by simp) (by simp [go_sem]) ?_
  refine (catch_none b w).mono ?_
  rintro e u' w'' ⟨rfl, rfl, rfl⟩
  simp [Leaves, settle, results, Tryz.results53, go_sem, h4, hc]
  exact hR
end Go.Proofs.YtcgnpndfhhcplaaGreatDoor
