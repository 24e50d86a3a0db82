/-
  No cell of these rows narrows 'for every input' (looked for: loops, veiled, ifaces, maps, wideKeys, modest, calm, conditions, laid).
  DERIVED. THE GIVEN ROWS OF THIS SEAT. 6 by the template 'for every input the law returns true; each argument reads behind the call as it read before'; 0 by the template 'total and deterministic' (their statements: YtcgnpndfhhcplaaTotals.lean).
  GIVEN WITH THE SEED: the statements are not yours to turn. If you find one false, say at which input.
  Laid BY PROGRAM, IN A SANDBOX (cutbox-rows.mjs): the forced cells as the released guide's own fill.sh prints them over the translation 0f38d0739d33704e… (all of the seat's roots in one cut). By AI agents, Wed Nov 11 2026. No macro, syntax, notation, axiom, sorry.
-/
import Derived.Test.YtcgnpndfhhcplaaChecked
import GoSem.Claim
import GoSem.ClaimJoined
import GoSem.ClaimMapViews
import Derived.JoinedTies
import Derived.KernelRfl
namespace Go.Proofs.Ytcgnpndfhhcplaa
/- THE CELL 'sum', in the pinned program and in every row, IS THE sha256 OF THE DUMP (.gsa) THAT YtcgnpndfhhcplaaProg.lean LOADS. Nothing in Lean hashes anything: it is a label: what it is worth is what the hold of that sum in a sandbox is worth. -/
noncomputable def Try.pinned : Pinned := { name := "ytcgnpndfhhcplaa", sum := "0f38d0739d33704e9bfb824b0d7e4ab5cc559323258ac1d4bc831fbb302e85eb", checked := Try.checked }
namespace Rows
def none {H : Type} : Left H := { results := [], args := [] }

/-- 'underpinlaw07.WatchPossible': WHATEVER THE INPUT: true; the input reads as it did. -/
def watchPossibleSpec : ChangeSpec := { name := "watchPossible", fn := fun _ => fun
  | [d1, d2, d3, d4] => { results := [.lit (.bool true)], args := [d1, d2, d3, d4] }
  | _ => none }
def watchPossibleRow : OpenClaim := { program := "ytcgnpndfhhcplaa", sum := "0f38d0739d33704e9bfb824b0d7e4ab5cc559323258ac1d4bc831fbb302e85eb", func := "underpin/underpinlaw07.WatchPossible", spec := "watchPossible", unfollowed := true, recurses := true, apart := false }
def WatchPossibleSaid : Prop := watchPossibleRow.holds Try.pinned (OpenSpec.ofChange watchPossibleSpec)

/-- ITS FALSE NEIGHBOUR: 'it returns false'. Refute it at one input. -/
def watchPossibleWrong : ChangeSpec := { name := "watchPossible", fn := fun _ => fun
  | [d1, d2, d3, d4] => { results := [.lit (.bool false)], args := [d1, d2, d3, d4] }
  | _ => none }
def WatchPossibleWrongFalsely : Prop := watchPossibleRow.holds Try.pinned (OpenSpec.ofChange watchPossibleWrong)

/-- 'underpinlaw07.WatchShrinks': WHATEVER THE INPUT: true; the input reads as it did. -/
def watchShrinksSpec : ChangeSpec := { name := "watchShrinks", fn := fun _ => fun
  | [d1, d2, d3, d4] => { results := [.lit (.bool true)], args := [d1, d2, d3, d4] }
  | _ => none }
def watchShrinksRow : OpenClaim := { program := "ytcgnpndfhhcplaa", sum := "0f38d0739d33704e9bfb824b0d7e4ab5cc559323258ac1d4bc831fbb302e85eb", func := "underpin/underpinlaw07.WatchShrinks", spec := "watchShrinks", unfollowed := true, recurses := true, apart := false }
def WatchShrinksSaid : Prop := watchShrinksRow.holds Try.pinned (OpenSpec.ofChange watchShrinksSpec)

/-- ITS FALSE NEIGHBOUR: 'it returns false'. Refute it at one input. -/
def watchShrinksWrong : ChangeSpec := { name := "watchShrinks", fn := fun _ => fun
  | [d1, d2, d3, d4] => { results := [.lit (.bool false)], args := [d1, d2, d3, d4] }
  | _ => none }
def WatchShrinksWrongFalsely : Prop := watchShrinksRow.holds Try.pinned (OpenSpec.ofChange watchShrinksWrong)

/-- 'underpinlaw07.WatchSound': WHATEVER THE INPUT: true; the input reads as it did. -/
def watchSoundSpec : ChangeSpec := { name := "watchSound", fn := fun _ => fun
  | [d1, d2, d3, d4, d5] => { results := [.lit (.bool true)], args := [d1, d2, d3, d4, d5] }
  | _ => none }
def watchSoundRow : OpenClaim := { program := "ytcgnpndfhhcplaa", sum := "0f38d0739d33704e9bfb824b0d7e4ab5cc559323258ac1d4bc831fbb302e85eb", func := "underpin/underpinlaw07.WatchSound", spec := "watchSound", unfollowed := true, recurses := true, apart := false }
def WatchSoundSaid : Prop := watchSoundRow.holds Try.pinned (OpenSpec.ofChange watchSoundSpec)

/-- ITS FALSE NEIGHBOUR: 'it returns false'. Refute it at one input. -/
def watchSoundWrong : ChangeSpec := { name := "watchSound", fn := fun _ => fun
  | [d1, d2, d3, d4, d5] => { results := [.lit (.bool false)], args := [d1, d2, d3, d4, d5] }
  | _ => none }
def WatchSoundWrongFalsely : Prop := watchSoundRow.holds Try.pinned (OpenSpec.ofChange watchSoundWrong)

/-- 'underpinlaw07.WatchQuiet': WHATEVER THE INPUT: true; the input reads as it did. -/
def watchQuietSpec : ChangeSpec := { name := "watchQuiet", fn := fun _ => fun
  | [d1, d2, d3, d4, d5, d6, d7] => { results := [.lit (.bool true)], args := [d1, d2, d3, d4, d5, d6, d7] }
  | _ => none }
def watchQuietRow : OpenClaim := { program := "ytcgnpndfhhcplaa", sum := "0f38d0739d33704e9bfb824b0d7e4ab5cc559323258ac1d4bc831fbb302e85eb", func := "underpin/underpinlaw07.WatchQuiet", spec := "watchQuiet", unfollowed := true, recurses := true, apart := false }
def WatchQuietSaid : Prop := watchQuietRow.holds Try.pinned (OpenSpec.ofChange watchQuietSpec)

/-- ITS FALSE NEIGHBOUR: 'it returns false'. Refute it at one input. -/
def watchQuietWrong : ChangeSpec := { name := "watchQuiet", fn := fun _ => fun
  | [d1, d2, d3, d4, d5, d6, d7] => { results := [.lit (.bool false)], args := [d1, d2, d3, d4, d5, d6, d7] }
  | _ => none }
def WatchQuietWrongFalsely : Prop := watchQuietRow.holds Try.pinned (OpenSpec.ofChange watchQuietWrong)

/-- 'underpinlaw07.WatchWitness': WHATEVER THE INPUT: true; the input reads as it did. -/
def watchWitnessSpec : ChangeSpec := { name := "watchWitness", fn := fun _ => fun
  | [d1, d2, d3, d4] => { results := [.lit (.bool true)], args := [d1, d2, d3, d4] }
  | _ => none }
def watchWitnessRow : OpenClaim := { program := "ytcgnpndfhhcplaa", sum := "0f38d0739d33704e9bfb824b0d7e4ab5cc559323258ac1d4bc831fbb302e85eb", func := "underpin/underpinlaw07.WatchWitness", spec := "watchWitness", unfollowed := true, recurses := true, apart := false }
def WatchWitnessSaid : Prop := watchWitnessRow.holds Try.pinned (OpenSpec.ofChange watchWitnessSpec)

/-- ITS FALSE NEIGHBOUR: 'it returns false'. Refute it at one input. -/
def watchWitnessWrong : ChangeSpec := { name := "watchWitness", fn := fun _ => fun
  | [d1, d2, d3, d4] => { results := [.lit (.bool false)], args := [d1, d2, d3, d4] }
  | _ => none }
def WatchWitnessWrongFalsely : Prop := watchWitnessRow.holds Try.pinned (OpenSpec.ofChange watchWitnessWrong)

/-- 'underpinlaw07.WatchTimes': WHATEVER THE INPUT: true; the input reads as it did. -/
def watchTimesSpec : ChangeSpec := { name := "watchTimes", fn := fun _ => fun
  | [d1, d2] => { results := [.lit (.bool true)], args := [d1, d2] }
  | _ => none }
def watchTimesRow : OpenClaim := { program := "ytcgnpndfhhcplaa", sum := "0f38d0739d33704e9bfb824b0d7e4ab5cc559323258ac1d4bc831fbb302e85eb", func := "underpin/underpinlaw07.WatchTimes", spec := "watchTimes", unfollowed := true, recurses := true, apart := false }
def WatchTimesSaid : Prop := watchTimesRow.holds Try.pinned (OpenSpec.ofChange watchTimesSpec)

/-- ITS FALSE NEIGHBOUR: 'it returns false'. Refute it at one input. -/
def watchTimesWrong : ChangeSpec := { name := "watchTimes", fn := fun _ => fun
  | [d1, d2] => { results := [.lit (.bool false)], args := [d1, d2] }
  | _ => none }
def WatchTimesWrongFalsely : Prop := watchTimesRow.holds Try.pinned (OpenSpec.ofChange watchTimesWrong)

/- THE SECOND FORM. 'bulk': how many values and letters a reading holds, each counted each time it is reached (what is shared counts as often as it is met; a slice's spare places count too). A statement '..UptoSaid' is the law's where the arguments, and the package variables that the reading takes, are together of bulk at most 1048576: NARROWER than '..Said'. Prove '..Said' where nothing that the law and all that it calls make is longer than what came in: it says more and counts as full. Else prove '..UptoSaid'. A law counts once. -/
mutual
def uptoBulk {H : Type} : DataW H → Nat
  | .lit (.string bytes) => bytes.length + 1
  | .lit _ => 1
  | .nil => 1
  | .ptr d => uptoBulk d + 1
  | .slice elems spare => uptoBulkAll elems + uptoBulkAll spare + 1
  | .agg parts => uptoBulkAll parts + 1
  | .iface _ d => uptoBulk d + 1
  | .map entries => uptoBulkEntries entries + 1
  | .held _ => 1
def uptoBulkAll {H : Type} : List (DataW H) → Nat
  | [] => 0
  | d :: r => uptoBulk d + uptoBulkAll r
def uptoBulkEntries {H : Type} : List (Lit × DataW H) → Nat
  | [] => 0
  | x :: r => uptoBulkEntry x + uptoBulkEntries r
def uptoBulkEntry {H : Type} : Lit × DataW H → Nat
  | (.string bytes, d) => bytes.length + uptoBulk d + 1
  | (_, d) => uptoBulk d + 1
 end
def uptoSmall : (H : Type) → List (DataW H) → Bool := fun _ ds => decide (uptoBulkAll ds ≤ 1048576)
def OpenSpec.upto (s : _root_.Go.ChangeSpec) : _root_.Go.OpenSpec := { _root_.Go.OpenSpec.ofChange s with cond := some uptoSmall }

/-- 'underpinlaw07.WatchPossible', WHERE WHAT IT READS IS OF BULK AT MOST 1048576: true; the input reads as it did. -/
def watchPossibleUptoRow : OpenClaim := { program := "ytcgnpndfhhcplaa", sum := "0f38d0739d33704e9bfb824b0d7e4ab5cc559323258ac1d4bc831fbb302e85eb", func := "underpin/underpinlaw07.WatchPossible", spec := "watchPossible", unfollowed := true, recurses := true, apart := false, narrowed := true }
def WatchPossibleUptoSaid : Prop := watchPossibleUptoRow.holds Try.pinned (OpenSpec.upto watchPossibleSpec)

/-- 'underpinlaw07.WatchShrinks', WHERE WHAT IT READS IS OF BULK AT MOST 1048576: true; the input reads as it did. -/
def watchShrinksUptoRow : OpenClaim := { program := "ytcgnpndfhhcplaa", sum := "0f38d0739d33704e9bfb824b0d7e4ab5cc559323258ac1d4bc831fbb302e85eb", func := "underpin/underpinlaw07.WatchShrinks", spec := "watchShrinks", unfollowed := true, recurses := true, apart := false, narrowed := true }
def WatchShrinksUptoSaid : Prop := watchShrinksUptoRow.holds Try.pinned (OpenSpec.upto watchShrinksSpec)

/-- 'underpinlaw07.WatchSound', WHERE WHAT IT READS IS OF BULK AT MOST 1048576: true; the input reads as it did. -/
def watchSoundUptoRow : OpenClaim := { program := "ytcgnpndfhhcplaa", sum := "0f38d0739d33704e9bfb824b0d7e4ab5cc559323258ac1d4bc831fbb302e85eb", func := "underpin/underpinlaw07.WatchSound", spec := "watchSound", unfollowed := true, recurses := true, apart := false, narrowed := true }
def WatchSoundUptoSaid : Prop := watchSoundUptoRow.holds Try.pinned (OpenSpec.upto watchSoundSpec)

/-- 'underpinlaw07.WatchQuiet', WHERE WHAT IT READS IS OF BULK AT MOST 1048576: true; the input reads as it did. -/
def watchQuietUptoRow : OpenClaim := { program := "ytcgnpndfhhcplaa", sum := "0f38d0739d33704e9bfb824b0d7e4ab5cc559323258ac1d4bc831fbb302e85eb", func := "underpin/underpinlaw07.WatchQuiet", spec := "watchQuiet", unfollowed := true, recurses := true, apart := false, narrowed := true }
def WatchQuietUptoSaid : Prop := watchQuietUptoRow.holds Try.pinned (OpenSpec.upto watchQuietSpec)

/-- 'underpinlaw07.WatchWitness', WHERE WHAT IT READS IS OF BULK AT MOST 1048576: true; the input reads as it did. -/
def watchWitnessUptoRow : OpenClaim := { program := "ytcgnpndfhhcplaa", sum := "0f38d0739d33704e9bfb824b0d7e4ab5cc559323258ac1d4bc831fbb302e85eb", func := "underpin/underpinlaw07.WatchWitness", spec := "watchWitness", unfollowed := true, recurses := true, apart := false, narrowed := true }
def WatchWitnessUptoSaid : Prop := watchWitnessUptoRow.holds Try.pinned (OpenSpec.upto watchWitnessSpec)

/-- 'underpinlaw07.WatchTimes', WHERE WHAT IT READS IS OF BULK AT MOST 1048576: true; the input reads as it did. -/
def watchTimesUptoRow : OpenClaim := { program := "ytcgnpndfhhcplaa", sum := "0f38d0739d33704e9bfb824b0d7e4ab5cc559323258ac1d4bc831fbb302e85eb", func := "underpin/underpinlaw07.WatchTimes", spec := "watchTimes", unfollowed := true, recurses := true, apart := false, narrowed := true }
def WatchTimesUptoSaid : Prop := watchTimesUptoRow.holds Try.pinned (OpenSpec.upto watchTimesSpec)

end Rows
end Go.Proofs.Ytcgnpndfhhcplaa
