/-
  No cell of these rows narrows 'for every input' (looked for: loops, veiled, ifaces, maps, wideKeys, modest, calm, conditions, laid).
  DERIVED. THE GIVEN ROWS OF THIS SEAT. 12 by the template 'for every input the law returns true; each argument reads behind the call as it read before'; 0 by the template 'total and deterministic' (their statements: YtjpgnfekbojcaaaGreatTotals.lean).
  GIVEN WITH THE SEED: the statements are not yours to turn. If you find one false, say at which input.
  Laid BY PROGRAM, IN A SANDBOX (cutbox-rows.mjs): the forced cells as the released guide's own fill.sh prints them over the translation fa1bf438433cc49b… (all of the seat's roots in one cut). By AI agents, Wed Nov 11 2026. No macro, syntax, notation, axiom, sorry.
-/
import Derived.Test.YtjpgnfekbojcaaaGreatChecked
import GoSem.Claim
import GoSem.ClaimJoined
import GoSem.ClaimMapViews
import Derived.JoinedTies
import Derived.KernelRfl
namespace Go.Proofs.YtjpgnfekbojcaaaGreat
/- THE CELL 'sum', in the pinned program and in every row, IS THE sha256 OF THE DUMP (.gsa) THAT YtjpgnfekbojcaaaGreatProg.lean LOADS. Nothing in Lean hashes anything: it is a label: what it is worth is what the hold of that sum in a sandbox is worth. -/
noncomputable def Tryz.pinned : Pinned := { name := "ytjpgnfekbojcaaagreat", sum := "fa1bf438433cc49b117c64b2aeaf7fe7a247ccb875391819579528555212482f", checked := Tryz.checked }
namespace Rows
def none {H : Type} : Left H := { results := [], args := [] }

/-- 'underpinlaw08.WorksSerial': WHATEVER THE INPUT: true; the input reads as it did. -/
def worksSerialSpec : ChangeSpec := { name := "worksSerial", fn := fun _ => fun
  | [d1, d2] => { results := [.lit (.bool true)], args := [d1, d2] }
  | _ => none }
def worksSerialRow : OpenClaim := { program := "ytjpgnfekbojcaaagreat", sum := "fa1bf438433cc49b117c64b2aeaf7fe7a247ccb875391819579528555212482f", func := "underpin/underpinlaw08.WorksSerial", spec := "worksSerial", unfollowed := true, recurses := true, plainKeys := false, apart := false }
def WorksSerialSaid : Prop := worksSerialRow.holds Tryz.pinned (OpenSpec.ofChange worksSerialSpec)

/-- ITS FALSE NEIGHBOUR: 'it returns false'. Refute it at one input. -/
def worksSerialWrong : ChangeSpec := { name := "worksSerial", fn := fun _ => fun
  | [d1, d2] => { results := [.lit (.bool false)], args := [d1, d2] }
  | _ => none }
def WorksSerialWrongFalsely : Prop := worksSerialRow.holds Tryz.pinned (OpenSpec.ofChange worksSerialWrong)

/-- 'underpinlaw08.WorksActive': WHATEVER THE INPUT: true; the input reads as it did. -/
def worksActiveSpec : ChangeSpec := { name := "worksActive", fn := fun _ => fun
  | [d1, d2, d3, d4] => { results := [.lit (.bool true)], args := [d1, d2, d3, d4] }
  | _ => none }
def worksActiveRow : OpenClaim := { program := "ytjpgnfekbojcaaagreat", sum := "fa1bf438433cc49b117c64b2aeaf7fe7a247ccb875391819579528555212482f", func := "underpin/underpinlaw08.WorksActive", spec := "worksActive", unfollowed := true, recurses := true, plainKeys := false, apart := false }
def WorksActiveSaid : Prop := worksActiveRow.holds Tryz.pinned (OpenSpec.ofChange worksActiveSpec)

/-- ITS FALSE NEIGHBOUR: 'it returns false'. Refute it at one input. -/
def worksActiveWrong : ChangeSpec := { name := "worksActive", fn := fun _ => fun
  | [d1, d2, d3, d4] => { results := [.lit (.bool false)], args := [d1, d2, d3, d4] }
  | _ => none }
def WorksActiveWrongFalsely : Prop := worksActiveRow.holds Tryz.pinned (OpenSpec.ofChange worksActiveWrong)

/-- 'underpinlaw08.WorksFails': WHATEVER THE INPUT: true; the input reads as it did. -/
def worksFailsSpec : ChangeSpec := { name := "worksFails", fn := fun _ => fun
  | [d1, d2, d3, d4, d5] => { results := [.lit (.bool true)], args := [d1, d2, d3, d4, d5] }
  | _ => none }
def worksFailsRow : OpenClaim := { program := "ytjpgnfekbojcaaagreat", sum := "fa1bf438433cc49b117c64b2aeaf7fe7a247ccb875391819579528555212482f", func := "underpin/underpinlaw08.WorksFails", spec := "worksFails", unfollowed := true, recurses := true, plainKeys := false, apart := false }
def WorksFailsSaid : Prop := worksFailsRow.holds Tryz.pinned (OpenSpec.ofChange worksFailsSpec)

/-- ITS FALSE NEIGHBOUR: 'it returns false'. Refute it at one input. -/
def worksFailsWrong : ChangeSpec := { name := "worksFails", fn := fun _ => fun
  | [d1, d2, d3, d4, d5] => { results := [.lit (.bool false)], args := [d1, d2, d3, d4, d5] }
  | _ => none }
def WorksFailsWrongFalsely : Prop := worksFailsRow.holds Tryz.pinned (OpenSpec.ofChange worksFailsWrong)

/-- 'underpinlaw08.WorksGoes': WHATEVER THE INPUT: true; the input reads as it did. -/
def worksGoesSpec : ChangeSpec := { name := "worksGoes", fn := fun _ => fun
  | [d1, d2, d3, d4, d5] => { results := [.lit (.bool true)], args := [d1, d2, d3, d4, d5] }
  | _ => none }
def worksGoesRow : OpenClaim := { program := "ytjpgnfekbojcaaagreat", sum := "fa1bf438433cc49b117c64b2aeaf7fe7a247ccb875391819579528555212482f", func := "underpin/underpinlaw08.WorksGoes", spec := "worksGoes", unfollowed := true, recurses := true, plainKeys := false, apart := false }
def WorksGoesSaid : Prop := worksGoesRow.holds Tryz.pinned (OpenSpec.ofChange worksGoesSpec)

/-- ITS FALSE NEIGHBOUR: 'it returns false'. Refute it at one input. -/
def worksGoesWrong : ChangeSpec := { name := "worksGoes", fn := fun _ => fun
  | [d1, d2, d3, d4, d5] => { results := [.lit (.bool false)], args := [d1, d2, d3, d4, d5] }
  | _ => none }
def WorksGoesWrongFalsely : Prop := worksGoesRow.holds Tryz.pinned (OpenSpec.ofChange worksGoesWrong)

/-- 'underpinlaw08.WorksTrains': WHATEVER THE INPUT: true; the input reads as it did. -/
def worksTrainsSpec : ChangeSpec := { name := "worksTrains", fn := fun _ => fun
  | [d1, d2, d3] => { results := [.lit (.bool true)], args := [d1, d2, d3] }
  | _ => none }
def worksTrainsRow : OpenClaim := { program := "ytjpgnfekbojcaaagreat", sum := "fa1bf438433cc49b117c64b2aeaf7fe7a247ccb875391819579528555212482f", func := "underpin/underpinlaw08.WorksTrains", spec := "worksTrains", unfollowed := true, recurses := true, plainKeys := false, apart := false }
def WorksTrainsSaid : Prop := worksTrainsRow.holds Tryz.pinned (OpenSpec.ofChange worksTrainsSpec)

/-- ITS FALSE NEIGHBOUR: 'it returns false'. Refute it at one input. -/
def worksTrainsWrong : ChangeSpec := { name := "worksTrains", fn := fun _ => fun
  | [d1, d2, d3] => { results := [.lit (.bool false)], args := [d1, d2, d3] }
  | _ => none }
def WorksTrainsWrongFalsely : Prop := worksTrainsRow.holds Tryz.pinned (OpenSpec.ofChange worksTrainsWrong)

/-- 'underpinlaw08.WorksEarliest': WHATEVER THE INPUT: true; the input reads as it did. -/
def worksEarliestSpec : ChangeSpec := { name := "worksEarliest", fn := fun _ => fun
  | [d1, d2, d3, d4, d5] => { results := [.lit (.bool true)], args := [d1, d2, d3, d4, d5] }
  | _ => none }
def worksEarliestRow : OpenClaim := { program := "ytjpgnfekbojcaaagreat", sum := "fa1bf438433cc49b117c64b2aeaf7fe7a247ccb875391819579528555212482f", func := "underpin/underpinlaw08.WorksEarliest", spec := "worksEarliest", unfollowed := true, recurses := true, plainKeys := false, apart := false }
def WorksEarliestSaid : Prop := worksEarliestRow.holds Tryz.pinned (OpenSpec.ofChange worksEarliestSpec)

/-- ITS FALSE NEIGHBOUR: 'it returns false'. Refute it at one input. -/
def worksEarliestWrong : ChangeSpec := { name := "worksEarliest", fn := fun _ => fun
  | [d1, d2, d3, d4, d5] => { results := [.lit (.bool false)], args := [d1, d2, d3, d4, d5] }
  | _ => none }
def WorksEarliestWrongFalsely : Prop := worksEarliestRow.holds Tryz.pinned (OpenSpec.ofChange worksEarliestWrong)

/-- 'underpinlaw08.WorksChecks': WHATEVER THE INPUT: true; the input reads as it did. -/
def worksChecksSpec : ChangeSpec := { name := "worksChecks", fn := fun _ => fun
  | [d1, d2] => { results := [.lit (.bool true)], args := [d1, d2] }
  | _ => none }
def worksChecksRow : OpenClaim := { program := "ytjpgnfekbojcaaagreat", sum := "fa1bf438433cc49b117c64b2aeaf7fe7a247ccb875391819579528555212482f", func := "underpin/underpinlaw08.WorksChecks", spec := "worksChecks", unfollowed := true, recurses := true, plainKeys := false, apart := false }
def WorksChecksSaid : Prop := worksChecksRow.holds Tryz.pinned (OpenSpec.ofChange worksChecksSpec)

/-- ITS FALSE NEIGHBOUR: 'it returns false'. Refute it at one input. -/
def worksChecksWrong : ChangeSpec := { name := "worksChecks", fn := fun _ => fun
  | [d1, d2] => { results := [.lit (.bool false)], args := [d1, d2] }
  | _ => none }
def WorksChecksWrongFalsely : Prop := worksChecksRow.holds Tryz.pinned (OpenSpec.ofChange worksChecksWrong)

/-- 'underpinlaw08.WorksAir': WHATEVER THE INPUT: true; the input reads as it did. -/
def worksAirSpec : ChangeSpec := { name := "worksAir", fn := fun _ => fun
  | [d1, d2, d3, d4, d5, d6] => { results := [.lit (.bool true)], args := [d1, d2, d3, d4, d5, d6] }
  | _ => none }
def worksAirRow : OpenClaim := { program := "ytjpgnfekbojcaaagreat", sum := "fa1bf438433cc49b117c64b2aeaf7fe7a247ccb875391819579528555212482f", func := "underpin/underpinlaw08.WorksAir", spec := "worksAir", unfollowed := true, recurses := true, plainKeys := false, apart := false }
def WorksAirSaid : Prop := worksAirRow.holds Tryz.pinned (OpenSpec.ofChange worksAirSpec)

/-- ITS FALSE NEIGHBOUR: 'it returns false'. Refute it at one input. -/
def worksAirWrong : ChangeSpec := { name := "worksAir", fn := fun _ => fun
  | [d1, d2, d3, d4, d5, d6] => { results := [.lit (.bool false)], args := [d1, d2, d3, d4, d5, d6] }
  | _ => none }
def WorksAirWrongFalsely : Prop := worksAirRow.holds Tryz.pinned (OpenSpec.ofChange worksAirWrong)

/-- 'underpinlaw08.WorksSafe': WHATEVER THE INPUT: true; the input reads as it did. -/
def worksSafeSpec : ChangeSpec := { name := "worksSafe", fn := fun _ => fun
  | [d1, d2, d3, d4, d5, d6] => { results := [.lit (.bool true)], args := [d1, d2, d3, d4, d5, d6] }
  | _ => none }
def worksSafeRow : OpenClaim := { program := "ytjpgnfekbojcaaagreat", sum := "fa1bf438433cc49b117c64b2aeaf7fe7a247ccb875391819579528555212482f", func := "underpin/underpinlaw08.WorksSafe", spec := "worksSafe", unfollowed := true, recurses := true, plainKeys := false, apart := false }
def WorksSafeSaid : Prop := worksSafeRow.holds Tryz.pinned (OpenSpec.ofChange worksSafeSpec)

/-- ITS FALSE NEIGHBOUR: 'it returns false'. Refute it at one input. -/
def worksSafeWrong : ChangeSpec := { name := "worksSafe", fn := fun _ => fun
  | [d1, d2, d3, d4, d5, d6] => { results := [.lit (.bool false)], args := [d1, d2, d3, d4, d5, d6] }
  | _ => none }
def WorksSafeWrongFalsely : Prop := worksSafeRow.holds Tryz.pinned (OpenSpec.ofChange worksSafeWrong)

/-- 'underpinlaw08.WorksFloors': WHATEVER THE INPUT: true; the input reads as it did. -/
def worksFloorsSpec : ChangeSpec := { name := "worksFloors", fn := fun _ => fun
  | [d1, d2] => { results := [.lit (.bool true)], args := [d1, d2] }
  | _ => none }
def worksFloorsRow : OpenClaim := { program := "ytjpgnfekbojcaaagreat", sum := "fa1bf438433cc49b117c64b2aeaf7fe7a247ccb875391819579528555212482f", func := "underpin/underpinlaw08.WorksFloors", spec := "worksFloors", unfollowed := true, recurses := true, plainKeys := false, apart := false }
def WorksFloorsSaid : Prop := worksFloorsRow.holds Tryz.pinned (OpenSpec.ofChange worksFloorsSpec)

/-- ITS FALSE NEIGHBOUR: 'it returns false'. Refute it at one input. -/
def worksFloorsWrong : ChangeSpec := { name := "worksFloors", fn := fun _ => fun
  | [d1, d2] => { results := [.lit (.bool false)], args := [d1, d2] }
  | _ => none }
def WorksFloorsWrongFalsely : Prop := worksFloorsRow.holds Tryz.pinned (OpenSpec.ofChange worksFloorsWrong)

/-- 'underpinlaw08.WorksBest': WHATEVER THE INPUT: true; the input reads as it did. -/
def worksBestSpec : ChangeSpec := { name := "worksBest", fn := fun _ => fun
  | [d] => { results := [.lit (.bool true)], args := [d] }
  | _ => none }
def worksBestRow : OpenClaim := { program := "ytjpgnfekbojcaaagreat", sum := "fa1bf438433cc49b117c64b2aeaf7fe7a247ccb875391819579528555212482f", func := "underpin/underpinlaw08.WorksBest", spec := "worksBest", unfollowed := true, recurses := true, plainKeys := false, apart := false }
def WorksBestSaid : Prop := worksBestRow.holds Tryz.pinned (OpenSpec.ofChange worksBestSpec)

/-- ITS FALSE NEIGHBOUR: 'it returns false'. Refute it at one input. -/
def worksBestWrong : ChangeSpec := { name := "worksBest", fn := fun _ => fun
  | [d] => { results := [.lit (.bool false)], args := [d] }
  | _ => none }
def WorksBestWrongFalsely : Prop := worksBestRow.holds Tryz.pinned (OpenSpec.ofChange worksBestWrong)

/-- 'underpinlaw08.WorksBelow': WHATEVER THE INPUT: true; the input reads as it did. -/
def worksBelowSpec : ChangeSpec := { name := "worksBelow", fn := fun _ => fun
  | [d1, d2, d3, d4] => { results := [.lit (.bool true)], args := [d1, d2, d3, d4] }
  | _ => none }
def worksBelowRow : OpenClaim := { program := "ytjpgnfekbojcaaagreat", sum := "fa1bf438433cc49b117c64b2aeaf7fe7a247ccb875391819579528555212482f", func := "underpin/underpinlaw08.WorksBelow", spec := "worksBelow", unfollowed := true, recurses := true, plainKeys := false, apart := false }
def WorksBelowSaid : Prop := worksBelowRow.holds Tryz.pinned (OpenSpec.ofChange worksBelowSpec)

/-- ITS FALSE NEIGHBOUR: 'it returns false'. Refute it at one input. -/
def worksBelowWrong : ChangeSpec := { name := "worksBelow", fn := fun _ => fun
  | [d1, d2, d3, d4] => { results := [.lit (.bool false)], args := [d1, d2, d3, d4] }
  | _ => none }
def WorksBelowWrongFalsely : Prop := worksBelowRow.holds Tryz.pinned (OpenSpec.ofChange worksBelowWrong)

/- THE SECOND FORM. 'bulk': how many values and letters a reading holds, each counted each time it is reached (what is shared counts as often as it is met; a slice's spare places count too). A statement '..UptoSaid' is the law's where the arguments, and the package variables that the reading takes, are together of bulk at most 1048576: NARROWER than '..Said'. Prove '..Said' where nothing that the law and all that it calls make is longer than what came in: it says more and counts as full. Else prove '..UptoSaid'. A law counts once. -/
mutual
def uptoBulk {H : Type} : DataW H → Nat
  | .lit (.string bytes) => bytes.length + 1
  | .lit _ => 1
  | .nil => 1
  | .ptr d => uptoBulk d + 1
  | .slice elems spare => uptoBulkAll elems + uptoBulkAll spare + 1
  | .agg parts => uptoBulkAll parts + 1
  | .iface _ d => uptoBulk d + 1
  | .map entries => uptoBulkEntries entries + 1
  | .held _ => 1
def uptoBulkAll {H : Type} : List (DataW H) → Nat
  | [] => 0
  | d :: r => uptoBulk d + uptoBulkAll r
def uptoBulkEntries {H : Type} : List (Lit × DataW H) → Nat
  | [] => 0
  | x :: r => uptoBulkEntry x + uptoBulkEntries r
def uptoBulkEntry {H : Type} : Lit × DataW H → Nat
  | (.string bytes, d) => bytes.length + uptoBulk d + 1
  | (_, d) => uptoBulk d + 1
 end
def uptoSmall : (H : Type) → List (DataW H) → Bool := fun _ ds => decide (uptoBulkAll ds ≤ 1048576)
def OpenSpec.upto (s : _root_.Go.ChangeSpec) : _root_.Go.OpenSpec := { _root_.Go.OpenSpec.ofChange s with cond := some uptoSmall }

/-- 'underpinlaw08.WorksSerial', WHERE WHAT IT READS IS OF BULK AT MOST 1048576: true; the input reads as it did. -/
def worksSerialUptoRow : OpenClaim := { program := "ytjpgnfekbojcaaagreat", sum := "fa1bf438433cc49b117c64b2aeaf7fe7a247ccb875391819579528555212482f", func := "underpin/underpinlaw08.WorksSerial", spec := "worksSerial", unfollowed := true, recurses := true, plainKeys := false, apart := false, narrowed := true }
def WorksSerialUptoSaid : Prop := worksSerialUptoRow.holds Tryz.pinned (OpenSpec.upto worksSerialSpec)

/-- 'underpinlaw08.WorksActive', WHERE WHAT IT READS IS OF BULK AT MOST 1048576: true; the input reads as it did. -/
def worksActiveUptoRow : OpenClaim := { program := "ytjpgnfekbojcaaagreat", sum := "fa1bf438433cc49b117c64b2aeaf7fe7a247ccb875391819579528555212482f", func := "underpin/underpinlaw08.WorksActive", spec := "worksActive", unfollowed := true, recurses := true, plainKeys := false, apart := false, narrowed := true }
def WorksActiveUptoSaid : Prop := worksActiveUptoRow.holds Tryz.pinned (OpenSpec.upto worksActiveSpec)

/-- 'underpinlaw08.WorksFails', WHERE WHAT IT READS IS OF BULK AT MOST 1048576: true; the input reads as it did. -/
def worksFailsUptoRow : OpenClaim := { program := "ytjpgnfekbojcaaagreat", sum := "fa1bf438433cc49b117c64b2aeaf7fe7a247ccb875391819579528555212482f", func := "underpin/underpinlaw08.WorksFails", spec := "worksFails", unfollowed := true, recurses := true, plainKeys := false, apart := false, narrowed := true }
def WorksFailsUptoSaid : Prop := worksFailsUptoRow.holds Tryz.pinned (OpenSpec.upto worksFailsSpec)

/-- 'underpinlaw08.WorksGoes', WHERE WHAT IT READS IS OF BULK AT MOST 1048576: true; the input reads as it did. -/
def worksGoesUptoRow : OpenClaim := { program := "ytjpgnfekbojcaaagreat", sum := "fa1bf438433cc49b117c64b2aeaf7fe7a247ccb875391819579528555212482f", func := "underpin/underpinlaw08.WorksGoes", spec := "worksGoes", unfollowed := true, recurses := true, plainKeys := false, apart := false, narrowed := true }
def WorksGoesUptoSaid : Prop := worksGoesUptoRow.holds Tryz.pinned (OpenSpec.upto worksGoesSpec)

/-- 'underpinlaw08.WorksTrains', WHERE WHAT IT READS IS OF BULK AT MOST 1048576: true; the input reads as it did. -/
def worksTrainsUptoRow : OpenClaim := { program := "ytjpgnfekbojcaaagreat", sum := "fa1bf438433cc49b117c64b2aeaf7fe7a247ccb875391819579528555212482f", func := "underpin/underpinlaw08.WorksTrains", spec := "worksTrains", unfollowed := true, recurses := true, plainKeys := false, apart := false, narrowed := true }
def WorksTrainsUptoSaid : Prop := worksTrainsUptoRow.holds Tryz.pinned (OpenSpec.upto worksTrainsSpec)

/-- 'underpinlaw08.WorksEarliest', WHERE WHAT IT READS IS OF BULK AT MOST 1048576: true; the input reads as it did. -/
def worksEarliestUptoRow : OpenClaim := { program := "ytjpgnfekbojcaaagreat", sum := "fa1bf438433cc49b117c64b2aeaf7fe7a247ccb875391819579528555212482f", func := "underpin/underpinlaw08.WorksEarliest", spec := "worksEarliest", unfollowed := true, recurses := true, plainKeys := false, apart := false, narrowed := true }
def WorksEarliestUptoSaid : Prop := worksEarliestUptoRow.holds Tryz.pinned (OpenSpec.upto worksEarliestSpec)

/-- 'underpinlaw08.WorksChecks', WHERE WHAT IT READS IS OF BULK AT MOST 1048576: true; the input reads as it did. -/
def worksChecksUptoRow : OpenClaim := { program := "ytjpgnfekbojcaaagreat", sum := "fa1bf438433cc49b117c64b2aeaf7fe7a247ccb875391819579528555212482f", func := "underpin/underpinlaw08.WorksChecks", spec := "worksChecks", unfollowed := true, recurses := true, plainKeys := false, apart := false, narrowed := true }
def WorksChecksUptoSaid : Prop := worksChecksUptoRow.holds Tryz.pinned (OpenSpec.upto worksChecksSpec)

/-- 'underpinlaw08.WorksAir', WHERE WHAT IT READS IS OF BULK AT MOST 1048576: true; the input reads as it did. -/
def worksAirUptoRow : OpenClaim := { program := "ytjpgnfekbojcaaagreat", sum := "fa1bf438433cc49b117c64b2aeaf7fe7a247ccb875391819579528555212482f", func := "underpin/underpinlaw08.WorksAir", spec := "worksAir", unfollowed := true, recurses := true, plainKeys := false, apart := false, narrowed := true }
def WorksAirUptoSaid : Prop := worksAirUptoRow.holds Tryz.pinned (OpenSpec.upto worksAirSpec)

/-- 'underpinlaw08.WorksSafe', WHERE WHAT IT READS IS OF BULK AT MOST 1048576: true; the input reads as it did. -/
def worksSafeUptoRow : OpenClaim := { program := "ytjpgnfekbojcaaagreat", sum := "fa1bf438433cc49b117c64b2aeaf7fe7a247ccb875391819579528555212482f", func := "underpin/underpinlaw08.WorksSafe", spec := "worksSafe", unfollowed := true, recurses := true, plainKeys := false, apart := false, narrowed := true }
def WorksSafeUptoSaid : Prop := worksSafeUptoRow.holds Tryz.pinned (OpenSpec.upto worksSafeSpec)

/-- 'underpinlaw08.WorksFloors', WHERE WHAT IT READS IS OF BULK AT MOST 1048576: true; the input reads as it did. -/
def worksFloorsUptoRow : OpenClaim := { program := "ytjpgnfekbojcaaagreat", sum := "fa1bf438433cc49b117c64b2aeaf7fe7a247ccb875391819579528555212482f", func := "underpin/underpinlaw08.WorksFloors", spec := "worksFloors", unfollowed := true, recurses := true, plainKeys := false, apart := false, narrowed := true }
def WorksFloorsUptoSaid : Prop := worksFloorsUptoRow.holds Tryz.pinned (OpenSpec.upto worksFloorsSpec)

/-- 'underpinlaw08.WorksBest', WHERE WHAT IT READS IS OF BULK AT MOST 1048576: true; the input reads as it did. -/
def worksBestUptoRow : OpenClaim := { program := "ytjpgnfekbojcaaagreat", sum := "fa1bf438433cc49b117c64b2aeaf7fe7a247ccb875391819579528555212482f", func := "underpin/underpinlaw08.WorksBest", spec := "worksBest", unfollowed := true, recurses := true, plainKeys := false, apart := false, narrowed := true }
def WorksBestUptoSaid : Prop := worksBestUptoRow.holds Tryz.pinned (OpenSpec.upto worksBestSpec)

/-- 'underpinlaw08.WorksBelow', WHERE WHAT IT READS IS OF BULK AT MOST 1048576: true; the input reads as it did. -/
def worksBelowUptoRow : OpenClaim := { program := "ytjpgnfekbojcaaagreat", sum := "fa1bf438433cc49b117c64b2aeaf7fe7a247ccb875391819579528555212482f", func := "underpin/underpinlaw08.WorksBelow", spec := "worksBelow", unfollowed := true, recurses := true, plainKeys := false, apart := false, narrowed := true }
def WorksBelowUptoSaid : Prop := worksBelowUptoRow.holds Tryz.pinned (OpenSpec.upto worksBelowSpec)

end Rows
end Go.Proofs.YtjpgnfekbojcaaaGreat
