/-
  Plain words on a strings.Builder of the call's own: what other calls and appends leave of it. Of no program.
  The library's text functions at this program: strings.Join, strconv.Itoa, strings.Builder's methods, as the shelf proves them; and what they leave. Conditions: lengths of at most 2^47 bytes; the table of powers of ten reads as its initialiser lays it.
  One line of a plan's text: Print's own function joins words and numbers and writes them to the builder. Conditions: the words' and the numbers' rows are the caller's own, the builder is one, all is short.
-/
import Derived.Test.YtcgnpndfhhcplaaGreatDoorBase
import Derived.Lib.FrozenHead
import Derived.Lib.OthersKept
import Derived.Test.YtcgnpndfhhcplaaGreatDoorTxt
import Derived.Test.YtcgnpndfhhcplaaGreatDoorTextPlain
import Derived.Lib.AppendIntMem
namespace W7
open Go Go.RowKit Go.Lib
theorem owns_block {w : World} {base e size n : Nat} {v : Value} {xs : List Value} (h : w.ownsRow base e size v n xs) : ∀ k, v.ownBlock = some k → ∃ cs, w.heap[k]? = some (.cells cs e (0, 0)) := by
  intro k hk
  rcases h.2 with ⟨rfl, _⟩ | ⟨g, cap, cur, rfl, _, hc, _⟩
  · simp [Value.ownBlock] at hk
  · simp [Value.ownBlock] at hk
    exact ⟨cur, hk ▸ hc⟩
theorem ownsF_block {w : World} {base e size n : Nat} {v : Value} {xs : List Value} (h : w.ownsRowF base e size v n xs) : ∀ k, v.ownBlock = some k → ∃ cs fz, w.heap[k]? = some (.cells cs e fz) := by
  intro k hk
  rcases h.2 with ⟨rfl, _⟩ | ⟨g, cap, cur, fz, rfl, _, hc, _⟩
  · simp [Value.ownBlock] at hk
  · simp [Value.ownBlock] at hk
    exact ⟨cur, fz, hk ▸ hc⟩
theorem bldAt_kept {T e : TypeId} {B b : Nat} {p : Value} {bs : List Value} {w w' : World} {row : Option Nat} (h : BuilderAtF T e B b p bs w) (hg : w.grownBy w' row)
    (hr : ∀ k, row = some k → ∃ cs e' fz, w.heap[k]? = some (.cells cs e' fz) ∧ T ≠ e' ∧ e ≠ e') : BuilderAtF T e B b p bs w' := by
  have hlt := h.lt
  obtain ⟨hB, v, hb, ho, hne⟩ := h
  refine ⟨hB, v, (hg.block b hlt ?_).trans hb, ho.kept hg ?_, hne⟩
  · intro hk
    obtain ⟨cs, e', fz, hc, h1, _⟩ := hr b hk.symm
    rw [hb] at hc
    simp only [Option.some.injEq, Obj.cells.injEq] at hc
    exact h1 hc.2.1
  · cases hv : v.ownBlock with
    | none => exact .inl rfl
    | some g =>
      refine .inr fun hk => ?_
      obtain ⟨cs, e', fz, hc, _, h2⟩ := hr g hk.symm
      obtain ⟨cs', fz', hc'⟩ := ownsF_block ho g hv
      rw [hc'] at hc
      simp only [Option.some.injEq, Obj.cells.injEq] at hc
      exact h2 hc.2.1
theorem bld_kept {T e : TypeId} {B b : Nat} {bs : List Value} {w w' : World} {row : Option Nat} (h : IsBuilderF T e B b bs w) (hg : w.grownBy w' row)
    (hr : ∀ k, row = some k → ∃ cs e' fz, w.heap[k]? = some (.cells cs e' fz) ∧ T ≠ e' ∧ e ≠ e') : IsBuilderF T e B b bs w' :=
  h.elim (fun x => .inl (bldAt_kept x hg hr)) (fun x => .inr (bldAt_kept x hg hr))
/-- behind a call that leaves all that was there -/
theorem bld_below {T e : TypeId} {B b : Nat} {bs : List Value} {w w' : World} (h : IsBuilderF T e B b bs w) (hb : Below w.heap.size w w') : IsBuilderF T e B b bs w' :=
  bld_kept h (row := none) ⟨hb.os, hb.tape, hb.output, hb.size, fun i hi _ => hb.block i hi⟩ (fun k hk => by cases hk)
/-- behind an append to a row of another kind -/
theorem bld_own {T e e' : TypeId} {B b base size n : Nat} {bs xs : List Value} {v : Value} {w w' : World} (h : IsBuilderF T e B b bs w) (ho : w.ownsRow base e' size v n xs) (hg : w.grownBy w' v.ownBlock) (h1 : T ≠ e') (h2 : e ≠ e') : IsBuilderF T e B b bs w' :=
  bld_kept h hg (fun k hk => by obtain ⟨cs, hc⟩ := owns_block ho k hk; exact ⟨cs, e', (0, 0), hc, h1, h2⟩)
theorem bld_alloc {T e : TypeId} {B b : Nat} {bs : List Value} {w : World} (h : IsBuilderF T e B b bs w) (o : Obj) : IsBuilderF T e B b bs (w.alloc o) := bld_below h ((Below.refl _ _).alloc (Nat.le_refl _) o)
theorem bld_lt {T e : TypeId} {B b : Nat} {bs : List Value} {w : World} (h : IsBuilderF T e B b bs w) : b < w.heap.size := h.elim (fun x => x.lt) (fun x => x.lt)
theorem owns_cells {w : World} {base e n : Nat} {v : Value} {xs : List Value} (h : w.ownsRow base e 1 v n xs) (hn : 0 < n) :
    ∃ g cap, v = .slice (some ⟨g, 0, none⟩) n cap ∧ base ≤ g ∧ g < w.heap.size ∧ n ≤ cap ∧ cap ≤ 9223372036854775807 ∧ ∀ (j : Nat) (u : Value), xs[j]? = some u → w.cell? ⟨g, 0 + j, none⟩ = some u := by
  rcases h.2 with ⟨_, h0⟩ | ⟨g, cap, cur, rfl, hb, hg, h1, h2, h3, h4⟩
  · omega
  · refine ⟨g, cap, rfl, hb, (Array.getElem?_eq_some_iff.1 hg).1, h1, by unfold maxLen at h2; omega, fun j u hu => ?_⟩
    rw [← h4] at hu
    have hj : j < n := by
      have := (List.getElem?_eq_some_iff.1 hu).1
      rw [List.length_take] at this
      omega
    rw [List.getElem?_take, if_pos (by omega)] at hu
    simp only [World.cell?, hg, Nat.zero_add]
    simpa using hu
theorem owns_new {w : World} {base e : Nat} {cs : Array Value} {n : Nat} (hb : base ≤ w.heap.size) (hn : cs.size = n) (h1 : n ≤ 1000) : (w.alloc (.cells cs e)).ownsRow base e 1 (.slice (some ⟨w.heap.size, 0, none⟩) n n) n cs.toList := by
  refine ⟨by simp [hn], .inr ⟨w.heap.size, n, cs, rfl, hb, heap_alloc_new w _, Nat.le_refl _, by unfold maxLen; omega, by simp [hn], ?_⟩⟩
  rw [Nat.mul_one, List.take_of_length_le (by simp [hn])]
theorem heap3 {w : World} {a b c : Obj} : (((w.alloc a).alloc b).alloc c).heap[w.heap.size]? = some a := by
  rw [Go.Lib.alloc_old _ _ _ (by simp; omega), Go.Lib.alloc_old _ _ _ (by simp), heap_alloc_new]
theorem heap3b {w : World} {a b c : Obj} : (((w.alloc a).alloc b).alloc c).heap[w.heap.size + 1]? = some b := by
  have h : (((w.alloc a).alloc b)).heap[(w.alloc a).heap.size]? = some b := heap_alloc_new _ _
  rw [Go.Lib.alloc_old _ _ _ (by simp), ← h]
  simp
theorem heap3c {w : World} {a b c : Obj} : (((w.alloc a).alloc b).alloc c).heap[w.heap.size + 2]? = some c := by
  have h : (((w.alloc a).alloc b).alloc c).heap[((w.alloc a).alloc b).heap.size]? = some c := heap_alloc_new _ _
  rw [← h]
  simp
theorem below3 {w : World} {a b c : Obj} : Below w.heap.size w (((w.alloc a).alloc b).alloc c) := (((Below.refl _ _).alloc (Nat.le_refl _) _).alloc (by simp) _).alloc (by simp; omega) _
/-- all stands as it stood, but one block and rows of two kinds -/
def KeptW (e1 e2 : TypeId) (b : Nat) (w w' : World) : Prop := ∀ (k : Nat) (o : Obj), w.heap[k]? = some o → k ≠ b → (∀ c fz, o ≠ .cells c e1 fz) → (∀ c fz, o ≠ .cells c e2 fz) → w'.heap[k]? = some o
section
variable {e1 e2 : TypeId} {b : Nat} {w w1 w2 : World}
theorem KeptW.refl : KeptW e1 e2 b w w := fun _ _ h _ _ _ => h
theorem KeptW.trans (h : KeptW e1 e2 b w w1) (h2 : KeptW e1 e2 b w1 w2) : KeptW e1 e2 b w w2 := fun k o a1 a2 a3 a4 => h2 k o (h k o a1 a2 a3 a4) a2 a3 a4
theorem KeptW.below (h : KeptW e1 e2 b w w1) (hb : Below w1.heap.size w1 w2) : KeptW e1 e2 b w w2 := fun k o a1 a2 a3 a4 => by
  have h3 := h k o a1 a2 a3 a4
  exact (hb.block k (Array.getElem?_eq_some_iff.1 h3).1).trans h3
theorem KeptW.others (h : KeptW e1 e2 b w w1) (ho : Go.Lib.OthersKept e1 (some b) w1 w2) : KeptW e1 e2 b w w2 := fun k o a1 a2 a3 a4 => ho k o (h k o a1 a2 a3 a4) (by simpa using a2) a3
theorem KeptW.grown {base size n : Nat} {v : Value} {xs : List Value} (h : KeptW e1 e2 b w w1) (hr : w1.ownsRow base e2 size v n xs) (hg : w1.grownBy w2 v.ownBlock) : KeptW e1 e2 b w w2 := fun k o a1 a2 a3 a4 => by
  have h3 := h k o a1 a2 a3 a4
  refine (hg.block k (Array.getElem?_eq_some_iff.1 h3).1 (fun hk => ?_)).trans h3
  obtain ⟨cs, hc⟩ := owns_block hr k hk.symm
  rw [hc] at h3
  exact a4 cs (0, 0) (Option.some.inj h3).symm
theorem KeptW.cell (h : KeptW e1 e2 b w w1) {k j : Nat} {cs : Array Value} {e : TypeId} {fz : Nat × Nat} {u : Value} (hk : w.heap[k]? = some (.cells cs e fz)) (hb : k ≠ b) (h1 : e ≠ e1) (h2 : e ≠ e2) (hu : cs[j]? = some u) : w1.cell? ⟨k, j, none⟩ = some u := by
  have h3 := h k _ hk hb (fun c fz hc => by simp only [Obj.cells.injEq] at hc; exact h1 hc.2.1) (fun c fz hc => by simp only [Obj.cells.injEq] at hc; exact h2 hc.2.1)
  simp only [World.cell?, h3]
  exact hu
theorem KeptW.blk (h : KeptW e1 e2 b w w1) {k : Nat} {cs : Array Value} {e : TypeId} {fz : Nat × Nat} (hk : w.heap[k]? = some (.cells cs e fz)) (hb : k ≠ b) (h1 : e ≠ e1) (h2 : e ≠ e2) : w1.heap[k]? = some (.cells cs e fz) :=
  h k _ hk hb (fun c fz hc => by simp only [Obj.cells.injEq] at hc; exact h1 hc.2.1) (fun c fz hc => by simp only [Obj.cells.injEq] at hc; exact h2 hc.2.1)
theorem KeptW.own {base e size n : Nat} {v : Value} {xs : List Value} (h : KeptW e1 e2 b w w1) (ho : w.ownsRow base e size v n xs) (h1 : e ≠ e1) (h2 : e ≠ e2) (hb : ∀ k, v.ownBlock = some k → k ≠ b) : w1.ownsRow base e size v n xs := by
  refine ⟨ho.1, ?_⟩
  rcases ho.2 with hn | ⟨g, cap, cur, rfl, hbg, hg, rest⟩
  · exact .inl hn
  · exact .inr ⟨g, cap, cur, rfl, hbg, h.blk hg (hb g rfl) h1 h2, rest⟩
end
end W7
namespace Go.Proofs.YtcgnpndfhhcplaaGreatDoor
open Go.RowKit W7
theorem below_grow {w : World} (k : Nat) (os : Array Obj) : Below w.heap.size w (Sort.grow (w.drewN k) os) :=
  ⟨rfl, rfl, rfl, by simp [Sort.grow], fun i hi => by simp only [Sort.grow]; exact Array.getElem?_append_left hi⟩
/-- the table of powers of ten reads as laid, whatever is done at blocks from B on -/
def Tab (B : Nat) (w : World) : Prop := Lib.TabBelow Tryz.prog B w "internal/strconv.uint64pow10" .u64 Lib.pow10Tab
theorem itoa_lib (n : Int) (B : Nat) (w : World) (h0 : -1000000000 ≤ n) (h1 : n ≤ 1000000000) (hT : Tab B w) :
    Calls Tryz.prog 24 #[.int .i64 n] w fun e w' => e = .returned (.string (itB n)) ∧ Below w.heap.size w w' :=
  (Any.strconv_Itoa Tryz.layItoa n (by omega) (by omega) w hT.here).mono fun e w' ⟨he, k, os, hw⟩ => ⟨he, hw ▸ below_grow k os⟩
theorem join_lib (bk o c n : Nat) (xs : List ByteArray) (hn : n = xs.length) (w : World) (hcells : ∀ (j : Nat) x, xs[j]? = some x → w.cell? ⟨bk, o + j, none⟩ = some (.string x))
    (hbk : bk < w.heap.size) (hN : xs.length ≤ 1000) (hcap : xs.length ≤ c) (hs : ∀ x ∈ xs, x.size ≤ 16) :
    Calls Tryz.prog 26 #[.slice (some ⟨bk, o, none⟩) n c, .string sp1] w fun e w' => e = .returned (.string ⟨(Go.Lib.join (xs.map (·.data.toList)) sp1.data.toList).toArray⟩) ∧ Below w.heap.size w w' := by
  subst hn
  refine Any.strings_Join Tryz.layJoin Tryz.extraJoin bk o c xs sp1 w hcells hbk (by omega) hcap ?_
  have := lineT_le xs xs.length (Nat.le_refl _) hs
  unfold lineT at this
  rw [List.length_append] at this
  omega
theorem write_lib (B b : Nat) (bs : List UInt8) (s : ByteArray) (w : World) (h : Lib.IsBuilderF 65 5 B b (Lib.byteCells bs) w) (hlen : bs.length + s.size ≤ 1000000) (hBw : B ≤ w.heap.size) :
    Calls Tryz.prog 25 #[.pointer (some ⟨b, 0, none⟩), .string s] w fun e w' => e = .returned (.tuple #[.int .i64 s.size, .nilIface]) ∧ Lib.IsBuilderF 65 5 B b (Lib.byteCells (bs ++ s.data.toList)) w' ∧ Below B w w' ∧ Lib.OthersKept 5 (some b) w w' :=
  (Any.Builder_WriteString_k { Tryz.layJoin with } Tryz.extraJoin B b (Lib.byteCells bs) s w h (by rw [Lib.byteCells_length]; omega) hBw).mono fun _ _ ⟨he, hb, h2, h3⟩ => ⟨he, by rw [Lib.byteCells_append]; exact .inr hb, h2, h3⟩
theorem string_lib (B b : Nat) (bs : List UInt8) (w : World) (h : Lib.IsBuilderF 65 5 B b (Lib.byteCells bs) w) (hBw : B ≤ w.heap.size) :
    Calls Tryz.prog 28 #[.pointer (some ⟨b, 0, none⟩)] w fun e w' => e = .returned (.string ⟨bs.toArray⟩) ∧ Below B w w' :=
  (Any.Builder_String_any_k Tryz.layString Tryz.extraString B b bs w h hBw).mono fun _ _ ⟨he, _, h2, _⟩ => ⟨he, h2⟩
theorem len_lib (B b : Nat) (bs : List UInt8) (w : World) (h : Lib.IsBuilderF 65 5 B b (Lib.byteCells bs) w) :
    Calls Tryz.prog 27 #[.pointer (some ⟨b, 0, none⟩)] w fun e w' => e = .returned (.int .i64 bs.length) ∧ w = w' :=
  (Any.Builder_Len_f Tryz.layLen B b (Lib.byteCells bs) w h).mono fun e w' ⟨he, h2⟩ => ⟨by rw [he, Lib.byteCells_length], h2.symm⟩
end Go.Proofs.YtcgnpndfhhcplaaGreatDoor
namespace Go.Proofs.YtcgnpndfhhcplaaGreatDoor
open Go.RowKit W7
theorem elemStr : Elem Tryz.prog 66 9 (.string ByteArray.empty) 1 16 := Elem.mk' Tryz.underlying66 (by kernel_rfl) rfl (by decide) (by decide)
def encS1 (s : ByteArray) : List Value := [.string s]
theorem encS_get {l : List ByteArray} {j : Nat} {x : ByteArray} (h : l[j]? = some x) : (l.map Value.string)[j]? = some (.string x) := by rw [List.getElem?_map, h]; rfl
theorem encI_get {l : List Int} {j : Nat} {x : Int} (h : l[j]? = some x) : (l.map (Value.int .i64))[j]? = some (.int .i64 x) := by rw [List.getElem?_map, h]; rfl
theorem neBS : 65 ≠ 9 := by decide
theorem neUS : 5 ≠ 9 := by decide
set_option maxHeartbeats 2000000 in
set_option maxRecDepth 100000 in
theorem line_any (ws : List ByteArray) (ns : List Int) (v vN : Value) (n m B b : Nat) (acc : List UInt8) (w : World) (hn : n = ws.length) (hm : m = ns.length) (h0 : 0 < n) (hn2 : n ≤ 10) (hm2 : m ≤ 10) (hacc : acc.length ≤ 100000)
    (hW : w.ownsRow B 9 1 v n (ws.map Value.string)) (hI : w.ownsRow B 3 1 vN m (ns.map (Value.int .i64))) (hb : Lib.IsBuilderF 65 5 B b (Lib.byteCells acc) w) (hB : B ≤ w.heap.size) (hT : Tab B w)
    (hs : ∀ x ∈ ws, x.size ≤ 16) (hr : ∀ x ∈ ns, -1000000000 ≤ x ∧ x ≤ 1000000000) :
    Calls Tryz.prog 23 #[v, vN, .pointer (some ⟨b, 0, none⟩)] w fun e w' => e = .returned (.tuple #[]) ∧ Lib.IsBuilderF 65 5 B b (Lib.byteCells (acc ++ lineT (ws ++ ns.map itB))) w' ∧ Below B w w' ∧ KeptW 5 9 b w w' := by
  obtain ⟨AN, cN, rfl, hvN⟩ : ∃ A c, vN = .slice A m c ∧ True := by
    rcases hI.2 with ⟨rfl, rfl⟩ | ⟨g, cap, cur, rfl, _⟩
    · exact ⟨_, _, rfl, trivial⟩
    · exact ⟨_, _, rfl, trivial⟩
  have HW := Lib.hid hW
  have HI := Lib.hid hI
  have Hb := Lib.hid hb
  have HT := Lib.hid hT
  have Hs := Lib.hid hs
  have Hr := Lib.hid hr
  have Hn := Lib.hid hn
  have Hm := Lib.hid hm
  have Hacc := Lib.hid hacc
  clear hW hI hb hT hs hr hn hm hvN hacc
  go_enter Tryz.func23, Tryz.ntmps23
  go_wp2
  go_loopw [0, 9] (fun v0 v9 wr => ∃ i : Nat, i ≤ m ∧ v9 = .int .i64 i ∧ Hid (wr.ownsRow B 9 1 v0 (n + i) ((ws ++ (ns.take i).map itB).map Value.string)) ∧ Hid (wr.ownsRow B 3 1 (.slice AN m cN) m (ns.map (Value.int .i64))) ∧ Hid (Lib.IsBuilderF 65 5 B b (Lib.byteCells acc) wr) ∧ Hid (Below B w wr) ∧ Hid (KeptW 5 9 b w wr)) (fun _ v9 _ => m - (intOf v9).toNat)
  case atStart => exact ⟨0, by omega, rfl, Lib.hid (by simpa using HW.out), HI, Hb, Lib.hid (Below.refl _ _), Lib.hid KeptW.refl⟩
  case round =>
    obtain ⟨i, hi, rfl, HO, HN, HB, Hbl, HK⟩ := hrel
    have hsz := Hbl.out.size
    by_cases hlt : i < m
    · obtain ⟨g, cap, e1, hg, hgw, hc1, hc2, hcell⟩ := owns_cells HN.out (by omega)
      cases e1
      have hin : i < ns.length := by have := Hm.out; omega
      obtain ⟨x, hx⟩ : ∃ x, x = ns[i] := ⟨_, rfl⟩
      have hc : wr.cell? ⟨g, i, none⟩ = some (.int .i64 x) := by
        have := hcell i _ (encI_get (List.getElem?_eq_getElem hin))
        rw [Nat.zero_add] at this
        rw [hx]; exact this
      have hxr := Hr.out ns[i] (List.getElem_mem hin)
      rw [← hx] at hxr
      have Hnew := Lib.hid (show ((ws ++ (ns.take i).map itB).map Value.string) ++ [Value.string (itB x)] = ((ws ++ (ns.take (i + 1)).map itB).map Value.string) by
        rw [List.take_succ_eq_append_getElem hin, hx]; simp only [List.map_append, List.map_cons, List.map_nil, List.append_assoc])
      clear hcell hx
      have HI2 := Lib.hid (itoa_lib x B wr hxr.1 hxr.2 (HT.out.on Hbl.out))
      go_wp2_with (go_at_call 24; fail)
      refine HI2.out.mono ?_
      rintro r w1 ⟨rfl, hb1⟩
      have HO1 := Lib.hid (own_below HO.out hb1)
      have HN1 := Lib.hid (own_below HN.out hb1)
      have HB1 := Lib.hid (bld_below HB.out hb1)
      have Hbl1 := Lib.hid (Hbl.out.trans (hb1.mono (by omega)))
      have HK1 := Lib.hid (HK.out.below hb1)
      have hs1 := hb1.size
      clear hb1 HI2 hc
      have hsz1 : B ≤ w1.heap.size := by omega
      go_wp2_with (at_builtin; refine wpList_append1 rfl _ _ 66 rfl B 9 _ 1 16 elemStr _ _ _ rfl HO1.out #[.string (itB x)] 1 _ rfl (by simp) rfl (by simp [Value.oneCell']) (by omega) (by omega) ?_; intro v6 w6 hown6 hb6 hsz6 hg6 hblk6; have Ho6 := Lib.hid hown6; have Hb6 := Lib.hid hb6; have Hg6 := Lib.hid hg6; clear hown6 hb6 hsz6 hg6 hblk6)
      go_roundw
      case rel =>
        refine ⟨i + 1, by omega, by go_num, Lib.hid (by rw [← Hnew.out]; exact Ho6.out), Lib.hid (HN1.out.kept Hg6.out ?_), Lib.hid (bld_own HB1.out HO1.out Hg6.out neBS neUS), Lib.hid (Hbl1.out.trans Hb6.out), Lib.hid (HK1.out.grown HO1.out Hg6.out)⟩
        refine .inr fun hk => ?_
        obtain ⟨cs, hcs⟩ := owns_block HN1.out g rfl
        obtain ⟨cs', hcs'⟩ := owns_block HO1.out g hk.symm
        rw [hcs] at hcs'
        simp only [Option.some.injEq, Obj.cells.injEq] at hcs'
        exact absurd hcs'.2.1 (by decide)
      case measure => simp [intOf]; omega
    · obtain rfl : i = m := by omega
      obtain ⟨g, cap, e1, hg, hgw, hc1, hc2, hcell⟩ := owns_cells HO.out (by omega)
      subst e1
      obtain ⟨xs, hxs⟩ : ∃ xs, xs = ws ++ ns.map itB := ⟨_, rfl⟩
      have hxl : xs.length = n + i := by rw [hxs, List.length_append, List.length_map, ← Hn.out, ← Hm.out]
      have hns : ns.take i = ns := List.take_of_length_le (by have := Hm.out; omega)
      rw [hns, ← hxs] at hcell
      have Hx16 := Lib.hid (show ∀ x ∈ xs, x.size ≤ 16 from fun x hx => by
        rw [hxs, List.mem_append] at hx
        rcases hx with hx | hx
        · exact Hs.out x hx
        · obtain ⟨k, hk, rfl⟩ := List.mem_map.1 hx
          exact itB_size k (Hr.out k hk).1 (Hr.out k hk).2)
      have HJ := Lib.hid (join_lib g 0 cap (n + i) xs hxl.symm wr (fun j x hj => hcell j _ (encS_get hj)) hgw (by omega) (by omega) Hx16.out)
      have hjl : (⟨(Go.Lib.join (xs.map (·.data.toList)) sp1.data.toList).toArray⟩ : ByteArray).size ≤ 500 := by
        have := lineT_le xs 20 (by omega) Hx16.out
        unfold lineT at this
        rw [List.length_append] at this
        show (List.toArray _).size ≤ 500
        rw [List.size_toArray]
        simp only [List.length_cons, List.length_nil] at this
        omega
      have HL := Lib.hid (show lineT (ws ++ ns.map itB) = Go.Lib.join (xs.map (·.data.toList)) sp1.data.toList ++ [10] by rw [← hxs]; rfl)
      obtain ⟨S, hS⟩ : ∃ S : ByteArray, S = ⟨(Go.Lib.join (xs.map (·.data.toList)) sp1.data.toList).toArray⟩ := ⟨_, rfl⟩
      rw [← hS] at HJ hjl
      have HS := Lib.hid hS
      clear hcell hS hxs
      go_wp2_with (go_at_call 26; fail)
      refine HJ.out.mono ?_
      rintro r w1 ⟨rfl, hb1⟩
      have hs1 := hb1.size
      have HWr := Lib.hid (write_lib B b acc (S ++ ⟨#[10]⟩) w1 (bld_below HB.out hb1) (by have := Hacc.out; rw [ByteArray.size_append]; show _ + (S.size + 1) ≤ _; omega) (by omega))
      have Hb1 := Lib.hid (Hbl.out.trans (hb1.mono (by omega)))
      have HK1 := Lib.hid (HK.out.below hb1)
      clear hb1 HJ
      go_wp2_with (go_at_call 25; refine HWr.out.mono ?_; rintro r w2 ⟨rfl, hi2, hb2, hk2⟩)
      go_end0
      refine ⟨rfl, ?_, Hb1.out.trans hb2, HK1.out.others hk2⟩
      have he : (S ++ ⟨#[10]⟩ : ByteArray).data.toList = lineT (ws ++ ns.map itB) := by rw [HL.out, HS.out]; simp
      rw [← he]
      exact hi2
end Go.Proofs.YtcgnpndfhhcplaaGreatDoor
