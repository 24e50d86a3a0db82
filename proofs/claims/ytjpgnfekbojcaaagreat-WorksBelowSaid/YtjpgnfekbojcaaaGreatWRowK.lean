/- What every row of this seat asks of the program as a whole,each fact by itself. -/
import Derived.Test.YtjpgnfekbojcaaaGreatRows
import Derived.JoinedOf
import Derived.ProofKit
set_option maxRecDepth 100000
namespace Go.Proofs.YtjpgnfekbojcaaaGreat
open Go.ChangeShapes Go.WideShapes Go.ChangeAt Go.RowKit
theorem k_laid:laidOutB Tryz.pinned.checked.prog=true:=by kernel_rfl
theorem k_maps:mapsRowed Tryz.pinned.checked.prog=true:=by kernel_rfl
theorem k_stops:(Tryz.pinned.checked.prog.stops==[])=true:=by kernel_rfl
theorem k_knobs:(Tryz.pinned.checked.prog.stopKnobs==[])=true:=by kernel_rfl
theorem k_plain:Tryz.pinned.checked.prog.plainKeys=false:=by kernel_rfl
theorem k_heard:Tryz.pinned.checked.prog.stopsHeard=true:=by kernel_rfl
theorem k_enter:Tryz.pinned.checked.prog.mayEnter=true:=by kernel_rfl
theorem k_lift:(false==Tryz.pinned.checked.prog.liftsFinal)=true:=by kernel_rfl
theorem k_make:(Tryz.pinned.checked.prog.make==some Rows.worksAirRow.make)=true:=by kernel_rfl
end Go.Proofs.YtjpgnfekbojcaaaGreat
