import Derived.Test.YtohpkblleihmaaaDoorRows
import Derived.JoinedOf
import Derived.RowKit
import Derived.KernelRfl
import Derived.SevenTiedAt
namespace Go.Proofs.YtohpkblleihmaaaDoor
open Go
set_option maxRecDepth 100000
theorem p_laidOut : laidOutB Tryd.prog = true := by kernel_rfl
theorem p_rowed : mapsRowed Tryd.prog = true := by kernel_rfl
theorem p_own : ownKnob Tryd.prog.godebug = none := by kernel_rfl
theorem p_stops : (Tryd.prog.stops == []) = true := by kernel_rfl
theorem p_knobs : (Tryd.prog.stopKnobs == []) = true := by kernel_rfl
theorem p_heard : Tryd.prog.stopsHeard = true := by kernel_rfl
theorem p_enters : Tryd.prog.mayEnter = true := by kernel_rfl
theorem p_lifts : (Rows.rowOwnRow.lifted == Tryd.prog.liftsFinal) = true := by kernel_rfl
theorem p_makes : (Tryd.prog.make == some Rows.rowOwnRow.make) = true := by kernel_rfl
theorem p_plain : (Rows.rowOwnRow.plainKeys == Tryd.prog.plainKeys) = true := by kernel_rfl
theorem p_main_is : Tryd.pinned.checked.prog.mainIs = some ((true, "34990a40c16bc5caa9be47befadb6f91827606a13e5d9ac5a23ddc8a36ac3d0b").1, (true, "34990a40c16bc5caa9be47befadb6f91827606a13e5d9ac5a23ddc8a36ac3d0b").2.toList) := by kernel_rfl
theorem p_looks : true = Tryd.prog.looks [] := by kernel_rfl
end Go.Proofs.YtohpkblleihmaaaDoor
