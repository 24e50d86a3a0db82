/-
  The law WatchBack answers true. Conditions: how the plan lies in memory; package-level variables of Go's library read as their initialisers lay them.
-/
import Derived.Test.YtcgnpndfhhcplaaGreatDoorBack2
import Derived.Test.YtcgnpndfhhcplaaGreatDoorBack3
import Derived.Test.YtcgnpndfhhcplaaGreatDoorPars
import Derived.Test.YtcgnpndfhhcplaaGreatDoorRLn0
import Derived.Test.YtcgnpndfhhcplaaGreatDoorPrint
import Derived.Test.YtcgnpndfhhcplaaGreatDoorSame
import Derived.Test.YtcgnpndfhhcplaaGreatDoorVast
import Derived.Test.YtcgnpndfhhcplaaGreatDoorWakes
namespace Go.Proofs.YtcgnpndfhhcplaaGreatDoor
open Go.RowKit W7
theorem txt_abs (p : Plan) : txt (absP p) = txt p := by
  have h1 : qsTxt (p.qs.map absQ) = qsTxt p.qs := by
    unfold qsTxt
    rw [List.map_map]
    rfl
  have h2 : asTxt (absP p) p.al = asTxt p p.al := by
    unfold asTxt
    refine congrArg _ (List.map_congr_left fun a _ => ?_)
    have h3 : (absP p).qs.getD a.q.toNat default = absQ (p.qs.getD a.q.toNat default) := by
      rw [List.getD_eq_getElem?_getD, List.getD_eq_getElem?_getD, show (absP p).qs = p.qs.map absQ from rfl, List.getElem?_map]
      cases p.qs[a.q.toNat]? <;> rfl
    unfold aWs
    rw [h3]
    rfl
  show qsTxt (p.qs.map absQ) ++ msTxt p.ms ++ asTxt (absP p) p.al = _
  rw [h1, h2]
  rfl
theorem bytes_data (l : List UInt8) : (⟨l.toArray⟩ : ByteArray).data.toList = l := by simp
set_option maxHeartbeats 4000000 in
set_option maxRecDepth 100000 in
theorem LawBack_any (p : Plan) (s : ByteArray) (w : World) (hp : PIn w w.heap.size p) (hE : Env w.heap.size w) : Calls Tryz.prog 5 #[planV p, .string s] w fun e w' => e = .returned (.bool true) ∧ Below w.heap.size w w' := by
  obtain ⟨W0, hW0⟩ : ∃ W0, W0 = w.alloc (.cells #[.slice p.qA p.qs.length p.qc, .slice p.mA p.ms.length p.mc, .slice p.aA p.al.length p.ac] 26) := ⟨_, rfl⟩
  have hs0 : W0.heap.size = w.heap.size + 1 := by rw [hW0]; simp
  have HB0 := Lib.hid (show Below w.heap.size w W0 by rw [hW0]; exact (Below.refl _ _).alloc (Nat.le_refl _) _)
  have HX0 := Lib.hid (show BoxAt W0 w.heap.size p by rw [hW0]; exact heap_alloc_new _ _)
  have HP := Lib.hid (fun (X : World) (hX : Below w.heap.size w X) => show PIn X w.heap.size p from hp.below hX)
  have HE := Lib.hid hE
  have HV := Lib.hid (vast_any p w.heap.size W0 (HP.out _ HB0.out) (by omega))
  obtain ⟨l0, l1, l2⟩ := HX0.out.cells
  have HW0 := Lib.hid hW0
  clear hW0 hp hE
  unfold planV
  go_enter Tryz.func5, Tryz.ntmps5
  go_wp2_with (go_at_call 6; fail)
  rw [← HW0.out]
  refine HV.out.mono ?_
  rintro r w1 ⟨b, rfl, hb1⟩
  have hs1 := hb1.size
  have Hb1 := Lib.hid (HB0.out.trans (hb1.mono (by omega)))
  have HX1 := Lib.hid (show BoxAt w1 w.heap.size p from (hb1.block _ (by omega)).trans HX0.out)
  clear hb1 HV l0 l1 l2
  cases b
  rotate_left
  · go_wp2_with (go_at_call 7; refine (wakes_any _).mono ?_; rintro r w8 ⟨rfl, hb8⟩)
    go_ret
    exact ⟨rfl, Hb1.out.trans (hb8.mono (by omega))⟩
  cases hc : decide ((s.size : Int) > 2000)
  rotate_left
  · go_wp2_with (go_at_call 7; refine (wakes_any _).mono ?_; rintro r w8 ⟨rfl, hb8⟩)
    go_ret
    exact ⟨rfl, Hb1.out.trans (hb8.mono (by omega))⟩
  have hl : s.size ≤ 2000 := by have := of_decide_eq_false hc; omega
  have HPr := Lib.hid (Print_any p w.heap.size w1 (HP.out _ Hb1.out) (by omega) (HE.out.tab.up Hb1.out (by omega)))
  obtain ⟨l0, l1, l2⟩ := HX1.out.cells
  obtain ⟨pe, hpe⟩ : ∃ x, x = planErr p := ⟨_, rfl⟩
  rw [← hpe] at HPr
  obtain ⟨T, hT⟩ : ∃ x, x = txtS p := ⟨_, rfl⟩
  rw [← hT] at HPr
  have Hpe := Lib.hid hpe
  have HT := Lib.hid hT
  clear hpe hT
  go_wp2_with (go_at_call 8; fail)
  refine HPr.out.mono ?_
  rintro r w2 ⟨rfl, hb2⟩
  have hs2 := hb2.size
  have Hb2 := Lib.hid (Hb1.out.trans (hb2.mono (by omega)))
  have HX2 := Lib.hid (show BoxAt w2 w.heap.size p from (hb2.block _ (by omega)).trans HX1.out)
  clear hb2 HPr l0 l1 l2
  cases hp0 : (pe == 0)
  case' false =>
    clear HX2
    go_upto_region 8 with fail
    obtain ⟨w4, hw4⟩ : ∃ w4, w4 = w2 := ⟨_, rfl⟩
    rw [← hw4]
    have Hb4 := Lib.hid (show Below w.heap.size w w4 by rw [hw4]; exact Hb2.out)
    have hs4 : w.heap.size < w4.heap.size := by rw [hw4]; omega
    clear hw4 Hb2 hs2 w2
  case' true =>
    have hpz : planErr p = 0 := by rw [← Hpe.out]; exact eq_of_beq hp0
    have HTe := Lib.hid (show T = ⟨(txt p).toArray⟩ by rw [HT.out]; unfold txtS; rw [if_pos hpz])
    have hTs : T.size ≤ 65536 := by
      have h1 := (planFull hpz).txt_le
      rw [Lib.size_eq, HTe.out, bytes_data]
      omega
    have Hpt := Lib.hid (parse_txt hpz)
    have H3 := Lib.hid (Parse_any T w2 hTs (HE.out.on Hb2.out (by omega)))
    have HTd := Lib.hid (show T.data.toList = txt p by rw [HTe.out, bytes_data])
    clear hpz hTs
    go_wp2_with (go_at_call 16; fail)
    refine H3.out.mono ?_
    rintro r w3 ⟨hb3, o, rfl, ho, hO, hoin⟩
    unfold planV
    rw [HTd.out, Hpt.out.2.2] at ho
    rw [HTd.out, Hpt.out.1, Hpt.out.2.1]
    have Ho := Lib.hid ho
    have Hoin := Lib.hid hoin
    have hs3 := hb3.size
    have Hb3 := Lib.hid (Hb2.out.trans (hb3.mono (by omega)))
    have HX3 := Lib.hid (show BoxAt w3 w.heap.size p from (hb3.block _ (by omega)).trans HX2.out)
    clear ho hO hoin hb3 H3
    go_upto_region 6 with fail
    obtain ⟨W3, hW3⟩ : ∃ W3, W3 = w3.alloc (.cells #[.slice o.qA o.qs.length o.qc, .slice o.mA o.ms.length o.mc, .slice o.aA o.al.length o.ac] 26) := ⟨_, rfl⟩
    rw [← hW3]
    have hz3 : W3.heap.size = w3.heap.size + 1 := by rw [hW3]; simp
    have HA3 := Lib.hid (show Below w3.heap.size w3 W3 by rw [hW3]; exact (Below.refl _ _).alloc (Nat.le_refl _) _)
    have HY3 := Lib.hid (show BoxAt W3 w3.heap.size o by rw [hW3]; exact heap_alloc_new _ _)
    clear hW3
    have HX4 := Lib.hid (show BoxAt W3 w.heap.size p from (HA3.out.block _ (by omega)).trans HX3.out)
    have HB3 := Lib.hid (Hb3.out.trans (HA3.out.mono (by omega)))
    have HPp := Lib.hid (show PIn W3 W3.heap.size p from (HP.out _ HB3.out).mono (by omega))
    have HPo := Lib.hid (show PIn W3 W3.heap.size o from (Hoin.out.below HA3.out).mono (by omega))
    have HS := Lib.hid (refSame_any o p W3.heap.size W3 HPo.out HPp.out (Nat.le_refl _))
    rw [sameP_abs Ho.out] at HS
    obtain ⟨l0, l1, l2⟩ := HX4.out.cells
    obtain ⟨m0, m1, m2⟩ := HY3.out.cells
    go_wp2_with (go_at_call 13; fail)
    refine HS.out.mono ?_
    rintro r w4 ⟨rfl, hb4⟩
    have Hb4 := Lib.hid (HB3.out.trans (hb4.mono (by omega)))
    have hs4 : w.heap.size < w4.heap.size := by have := hb4.size; omega
    clear hb4 HS l0 l1 l2 m0 m1 m2
    go_upto_region 8 with fail
  all_goals
    have H5 := Lib.hid (Parse_any s w4 (by omega) (HE.out.on Hb4.out (by omega)))
    go_wp2_with (go_at_call 16; fail)
    refine H5.out.mono ?_
    rintro r w5 ⟨hb5, o2, rfl, ho2, hO2, ho2in⟩
    unfold planV
    have Ho2 := Lib.hid ho2
    have Ho2in := Lib.hid ho2in
    have hs5 := hb5.size
    have Hb5 := Lib.hid (Hb4.out.trans (hb5.mono (by omega)))
    obtain ⟨E, hE⟩ : ∃ x, x = parE s.data.toList := ⟨_, rfl⟩
    rw [← hE]
    have HEq := Lib.hid hE
    generalize parN s.data.toList = N
    clear ho2 hO2 ho2in hb5 H5 hE
    go_upto_region 9 with fail
    obtain ⟨W5, hW5⟩ : ∃ W5, W5 = w5.alloc (.cells #[.slice o2.qA o2.qs.length o2.qc, .slice o2.mA o2.ms.length o2.mc, .slice o2.aA o2.al.length o2.ac] 26) := ⟨_, rfl⟩
    rw [← hW5]
    have hz5 : W5.heap.size = w5.heap.size + 1 := by rw [hW5]; simp
    have HA5 := Lib.hid (show Below w5.heap.size w5 W5 by rw [hW5]; exact (Below.refl _ _).alloc (Nat.le_refl _) _)
    have HY5 := Lib.hid (show BoxAt W5 w5.heap.size o2 by rw [hW5]; exact heap_alloc_new _ _)
    clear hW5
    have HB5 := Lib.hid (Hb5.out.trans (HA5.out.mono (by omega)))
    obtain ⟨l0, l1, l2⟩ := HY5.out.cells
    cases hE0 : (E == 0)
    · have hne : (E != 0) = true := by simp [bne, hE0]
      have hem : absP o2 = emptyP := by
        rw [Ho2.out]
        unfold parP
        rw [if_neg (by rw [← HEq.out]; intro h; rw [h] at hE0; cases hE0)]
      have z0 : o2.qs.length = 0 := by have e := congrArg (fun x : Plan => x.qs.length) hem; simpa [absP, emptyP] using e
      have z1 : o2.ms.length = 0 := by have e := congrArg (fun x : Plan => x.ms.length) hem; simpa [absP, emptyP] using e
      have z2 : o2.al.length = 0 := by have e := congrArg (fun x : Plan => x.al.length) hem; simpa [absP, emptyP] using e
      rw [z0] at l0
      rw [z1] at l1
      rw [z2] at l2
      clear z0 z1 z2 hem
      go_wp2_with (go_at_call 7; refine (wakes_any _).mono ?_; rintro r w8 ⟨rfl, hb8⟩)
      go_ret
      exact ⟨rfl, HB5.out.trans (hb8.mono (by omega))⟩
    have hne : (E != 0) = false := by simp [bne, hE0]
    have hE00 : parE s.data.toList = 0 := by rw [← HEq.out]; exact eq_of_beq hE0
    have hpp := print_parse hE00
    have htx : txt o2 = endLF s.data.toList := by rw [← txt_abs, Ho2.out]; exact hpp.1
    have hpe2 : planErr o2 = 0 := by rw [← planErr_abs, Ho2.out]; exact hpp.2
    have htS : txtS o2 = ⟨(endLF s.data.toList).toArray⟩ := by unfold txtS; rw [if_pos hpe2, htx]
    have HPr := Lib.hid (Print_any o2 W5.heap.size W5 ((Ho2in.out.below HA5.out).mono (by omega)) (Nat.le_refl _) (HE.out.tab.up HB5.out (by omega)))
    rw [htS, hpe2] at HPr
    obtain ⟨T2, hT2⟩ : ∃ x, x = (⟨(endLF s.data.toList).toArray⟩ : ByteArray) := ⟨_, rfl⟩
    rw [← hT2] at HPr
    have HT2 := Lib.hid (show T2.toList = endLF s.data.toList by rw [Lib.toList_data, hT2, bytes_data])
    clear hE00 hpp htx hpe2 htS hT2
    go_wp2_with (go_at_call 8; fail)
    refine HPr.out.mono ?_
    rintro r w6 ⟨rfl, hb6⟩
    have hs6 := hb6.size
    have Hb6 := Lib.hid (HB5.out.trans (hb6.mono (by omega)))
    clear hb6 HPr l0 l1 l2
    by_cases hs0 : s.size = 0
    · have hTe : (T2.toList == s.toList) = true := by
        have h1 : s.data.toList = [] := List.length_eq_zero_iff.1 (by rw [← Lib.size_eq]; exact hs0)
        rw [HT2.out, Lib.toList_data, h1]
        rfl
      have hnz : ¬ 0 < s.size := by omega
      clear hs0
      go_wp2_with (go_at_call 7; refine (wakes_any _).mono ?_; rintro r w8 ⟨rfl, hb8⟩)
      go_ret
      exact ⟨rfl, Hb6.out.trans (hb8.mono (by omega))⟩
    have hsz : 0 < s.size := by omega
    have hsl : s.size - 1 < s.size := by omega
    clear hs0
    have Hlast := Lib.hid (show s.data.toList.getLast? = some s[s.size - 1] by
      rw [List.getLast?_eq_getElem?, ← Lib.size_eq, List.getElem?_eq_getElem (by rw [← Lib.size_eq]; exact hsl)]
      rfl)
    have Hne := Lib.hid (show s.data.toList ≠ [] from fun h => by rw [Lib.size_eq, h] at hsz; exact absurd hsz (by decide))
    cases hb : (((s[s.size - 1]'hsl).toNat : Int) == 10)
    · have hb' : (((s[s.size - 1]'hsl).toNat : Int) != 10) = true := by simp [bne, hb]
      have hTe : (T2.toList == (s ++ ⟨#[10]⟩).toList) = true := by
        have h1 : endLF s.data.toList = s.data.toList ++ [10] := by
          unfold endLF
          rw [if_neg]
          rintro (h | h)
          · exact Hne.out h
          · rw [Hlast.out] at h
            rw [Option.some.inj h] at hb
            cases hb
        rw [HT2.out, Lib.toList_data, h1]
        simp [ByteArray.data_append]
      go_wp2_with (go_at_call 7; refine (wakes_any _).mono ?_; rintro r w8 ⟨rfl, hb8⟩)
      go_ret
      exact ⟨rfl, Hb6.out.trans (hb8.mono (by omega))⟩
    · have hb' : (((s[s.size - 1]'hsl).toNat : Int) != 10) = false := by simp [bne, hb]
      have hTe : (T2.toList == s.toList) = true := by
        have h1 : endLF s.data.toList = s.data.toList := by
          unfold endLF
          rw [if_pos]
          refine .inr ?_
          rw [Hlast.out, byte_eq (n := 10) hb]
          rfl
        rw [HT2.out, Lib.toList_data, h1]
        exact beq_self_eq_true _
      go_wp2_with (go_at_call 7; refine (wakes_any _).mono ?_; rintro r w8 ⟨rfl, hb8⟩)
      go_ret
      exact ⟨rfl, Hb6.out.trans (hb8.mono (by omega))⟩
end Go.Proofs.YtcgnpndfhhcplaaGreatDoor
