/-
  Package watch's subsets: what its iterator owes. Conditions: at most 20 gauges.
-/
import Derived.Test.YtcgnpndfhhcplaaGreatDoorFrom
import Derived.Laws.EntriesVeiled
namespace Go.Proofs.YtcgnpndfhhcplaaGreatDoor
open Go.RowKit W7
set_option maxHeartbeats 1000000 in
set_option maxRecDepth 100000 in
theorem subsets_any (n many : Nat) (w : World) : Calls Tryz.prog 59 #[.int .i64 n, .int .i64 many] w fun e w' =>
    e = .returned (.func (.func 90) #[] #[.pointer (some ⟨w.heap.size + 1, 0, none⟩), .pointer (some ⟨w.heap.size, 0, none⟩)]) ∧ w' = (w.alloc (.cells #[.int .i64 n] 3)).alloc (.cells #[.int .i64 many] 3) := by
  go_enter Tryz.func59, Tryz.ntmps59
  go_wp2
  go_ret
  exact ⟨by simp, rfl⟩
set_option maxHeartbeats 1000000 in
set_option maxRecDepth 100000 in
theorem subsets_seq (n many B0 mb nb : Nat) (w0 : World) (hn : n ≤ 20) (hm : many ≤ 20) (hmb : B0 ≤ mb ∧ w0.heap[mb]? = some (.cells #[.int .i64 many] 3 (0, 0))) (hnb : B0 ≤ nb ∧ w0.heap[nb]? = some (.cells #[.int .i64 n] 3 (0, 0))) :
    SeqR Tryz.prog 90 #[.pointer (some ⟨mb, 0, none⟩), .pointer (some ⟨nb, 0, none⟩)] (fun x : List Int × Value => #[x.2]) (RY B0 many n) (KeepI B0)
      (fun ys => ys.map Prod.fst = subsN many n 0 []) (fun ys => ys.map Prod.fst <+: subsN many n 0 []) (subsN many n 0 []).length w0 := by
  intro l J Jx W hW hJ hJx hY h0
  obtain ⟨W1, hW1⟩ : ∃ W1, W1 = (W.alloc (.cells #[.func (.yield l) #[] #[]] 136)).alloc (.cells #[.func (.func 91) #[] #[.pointer (some ⟨mb, 0, none⟩), .pointer (some ⟨W.heap.size, 0, none⟩), .pointer (some ⟨nb, 0, none⟩), .pointer (some ⟨W.heap.size + 1, 0, none⟩)]] 137) := ⟨_, rfl⟩
  have hs1 := hW.size
  have hb : Below W.heap.size W W1 := by rw [hW1]; exact ((Below.refl _ _).alloc (Nat.le_refl _) _).alloc (by simp) _
  have lt1 := (Array.getElem?_eq_some_iff.1 hmb.2).1
  have lt2 := (Array.getElem?_eq_some_iff.1 hnb.2).1
  have hc : HC B0 l many n mb W.heap.size nb (W.heap.size + 1) W1 := by
    refine ⟨⟨hmb.1, (hb.block _ (by omega)).trans ((hW.block _ lt1).trans hmb.2)⟩, ⟨by omega, ?_⟩, ⟨hnb.1, (hb.block _ (by omega)).trans ((hW.block _ lt2).trans hnb.2)⟩, ⟨by omega, ?_⟩⟩
    · rw [hW1]; exact (Below.heap_alloc _ _ _ (by simp)).trans (World.alloc_heap_new W _)
    · rw [hW1]
      have := World.alloc_heap_new (W.alloc (.cells #[.func (.yield l) #[] #[]] 136)) (.cells #[.func (.func 91) #[] #[.pointer (some ⟨mb, 0, none⟩), .pointer (some ⟨W.heap.size, 0, none⟩), .pointer (some ⟨nb, 0, none⟩), .pointer (some ⟨W.heap.size + 1, 0, none⟩)]] 137)
      rwa [World.size_alloc] at this
  have H := Lib.hid (from_any l many n (subsN many n 0 []).length B0 mb W.heap.size nb (W.heap.size + 1) J Jx hn hm hJ hY n 0 [] none 0 [] W1 (by omega) (by simp) (by simp) (by have := hb.size; omega) (fun h => absurd h (by simp)) (.inl ⟨rfl, rfl, rfl⟩) hc (hJ _ _ _ h0 hb) (by simp))
  have HW1 := Lib.hid hW1
  clear hJ hJx hY h0 hb hc hW1 hmb hnb hW
  show Calls Tryz.prog 90 #[.func (.yield l) #[] #[], .pointer (some ⟨mb, 0, none⟩), .pointer (some ⟨nb, 0, none⟩)] W _
  go_enter Tryz.func90, Tryz.ntmps90
  go_wp2_with (go_at_call 91; go_loud (rw [← HW1.out]); refine H.out.mono ?_; rintro r w2 (⟨rfl, ys2, q1, q2, q3⟩ | ⟨rfl, ys2, q1, q2⟩))
  · go_end0
    exact ⟨⟨_, rfl⟩, .inl ⟨ys2, q1, by simpa using q2⟩⟩
  · go_end0
    exact ⟨⟨_, rfl⟩, .inr ⟨ys2, q1, by simpa using q2⟩⟩
end Go.Proofs.YtcgnpndfhhcplaaGreatDoor
