/-
  DERIVED. GIVEN WITH THE SEED: THE CARDS: each row of YtcgnpndfhhcplaaGreatDoorRows.lean that lists a variable, with what it lists TIED to the program's text (the seventh form; the later family's looks); each row that meets fmt, with fmt's text TOLD by the authors' own Lean function (tested against real Go, not proved from fmt's source: count such statements apart). THE CARD IS WHAT COUNTS. Prove the row's statement (the work); the ties are given (YtcgnpndfhhcplaaGreatDoorTie.lean); close each card by the builder's one call (the guide's Derived/Test/ToyasCard.lean, 'card_holds'). Laid BY PROGRAM, IN A SANDBOX (cutbox-door.mjs). By AI agents, Wed Nov 11 2026. No macro, syntax, notation, axiom, sorry.
-/
import Derived.Test.YtcgnpndfhhcplaaGreatDoorRows
import GoSem.ClaimSeven
namespace Go.Proofs.YtcgnpndfhhcplaaGreatDoor
namespace Rows

/-- THE TIED CARD OF 'underpinlaw07.WatchChecks'. -/
def watchChecksCard : Claim7 := { stood := { row := watchChecksRow, standIns := [], harness := (true, "24a09da6c1d4e6e9d30b894166b1a019a78ceb4be245cbb6d26cb85d92998da7"), looks := true }, kinds := [], alts := [], laidByText := true, laidKinds := [.data, .data, .data], laidTests := true, laidLooks := .later }
def WatchChecksCardSaid : Prop := Claim7.holds Tryz.pinned (.plain (OpenSpec.ofChange watchChecksSpec)) watchChecksCard

/-- THE TIED CARD OF 'underpinlaw07.WatchParses'. -/
def watchParsesCard : Claim7 := { stood := { row := watchParsesRow, standIns := [], harness := (true, "24a09da6c1d4e6e9d30b894166b1a019a78ceb4be245cbb6d26cb85d92998da7"), looks := true }, kinds := [], alts := [], laidByText := true, laidKinds := [.data, .data, .data, .data, .sentinel, .sentinel, .pinned], laidTests := true, laidLooks := .later }
def WatchParsesCardSaid : Prop := Claim7.holds Tryz.pinned (.plain (OpenSpec.ofChange watchParsesSpec)) watchParsesCard

/-- THE TIED CARD OF 'underpinlaw07.WatchBack'. -/
def watchBackCard : Claim7 := { stood := { row := watchBackRow, standIns := [], harness := (true, "24a09da6c1d4e6e9d30b894166b1a019a78ceb4be245cbb6d26cb85d92998da7"), looks := true }, kinds := [], alts := [], laidByText := true, laidKinds := [.data, .data, .data, .data, .sentinel, .sentinel, .pinned], laidTests := true, laidLooks := .later }
def WatchBackCardSaid : Prop := Claim7.holds Tryz.pinned (.plain (OpenSpec.ofChange watchBackSpec)) watchBackCard

/-- THE SECOND FORM's CARD OF 'underpinlaw07.WatchChecks'. -/
def watchChecksUptoCard : Claim7 := { stood := { row := watchChecksUptoRow, standIns := [], harness := (true, "24a09da6c1d4e6e9d30b894166b1a019a78ceb4be245cbb6d26cb85d92998da7"), looks := true }, kinds := [], alts := [], laidByText := true, laidKinds := [.data, .data, .data], laidTests := true, laidLooks := .later }
def WatchChecksUptoCardSaid : Prop := Claim7.holds Tryz.pinned (.plain (OpenSpec.upto watchChecksSpec)) watchChecksUptoCard

/-- THE SECOND FORM's CARD OF 'underpinlaw07.WatchParses'. -/
def watchParsesUptoCard : Claim7 := { stood := { row := watchParsesUptoRow, standIns := [], harness := (true, "24a09da6c1d4e6e9d30b894166b1a019a78ceb4be245cbb6d26cb85d92998da7"), looks := true }, kinds := [], alts := [], laidByText := true, laidKinds := [.data, .data, .data, .data, .sentinel, .sentinel, .pinned], laidTests := true, laidLooks := .later }
def WatchParsesUptoCardSaid : Prop := Claim7.holds Tryz.pinned (.plain (OpenSpec.upto watchParsesSpec)) watchParsesUptoCard

/-- THE SECOND FORM's CARD OF 'underpinlaw07.WatchBack'. -/
def watchBackUptoCard : Claim7 := { stood := { row := watchBackUptoRow, standIns := [], harness := (true, "24a09da6c1d4e6e9d30b894166b1a019a78ceb4be245cbb6d26cb85d92998da7"), looks := true }, kinds := [], alts := [], laidByText := true, laidKinds := [.data, .data, .data, .data, .sentinel, .sentinel, .pinned], laidTests := true, laidLooks := .later }
def WatchBackUptoCardSaid : Prop := Claim7.holds Tryz.pinned (.plain (OpenSpec.upto watchBackSpec)) watchBackUptoCard
end Rows
end Go.Proofs.YtcgnpndfhhcplaaGreatDoor
