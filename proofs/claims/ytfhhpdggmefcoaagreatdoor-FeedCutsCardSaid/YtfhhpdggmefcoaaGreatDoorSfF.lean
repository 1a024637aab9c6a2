/- Parts of the proofs of FeedCuts: the walk through the code, and plain Lean. No condition. -/
import Derived.Test.YtfhhpdggmefcoaaGreatDoorRows
import Derived.JoinedOf
import Derived.RowKit
import Derived.KernelRfl
import Derived.SevenTiedAt
set_option linter.unusedVariables false
set_option linter.unusedSimpArgs false
namespace Go.Proofs.YtfhhpdggmefcoaaGreatDoor
open Go
set_option maxRecDepth 100000
theorem p_laidOut : laidOutB Tryz.prog = true := by kernel_rfl
theorem p_rowed : mapsRowed Tryz.prog = true := by kernel_rfl
theorem p_own : ownKnob Tryz.prog.godebug = none := by kernel_rfl
theorem p_stops : (Tryz.prog.stops == []) = true := by kernel_rfl
theorem p_knobs : (Tryz.prog.stopKnobs == []) = true := by kernel_rfl
theorem p_heard : Tryz.prog.stopsHeard = true := by kernel_rfl
theorem p_enters : Tryz.prog.mayEnter = true := by kernel_rfl
theorem p_lifts : (Rows.feedCutsRow.lifted == Tryz.prog.liftsFinal) = true := by kernel_rfl
theorem p_makes : (Tryz.prog.make == some Rows.feedCutsRow.make) = true := by kernel_rfl
theorem p_plain : (Rows.feedCutsRow.plainKeys == Tryz.prog.plainKeys) = true := by kernel_rfl
theorem p_main_is : Tryz.pinned.checked.prog.mainIs = some ((true, "a59b190ecea8f4ebc0c46ebcee0655543d7f2ae48707d7a150f50caa05ed542b").1, (true, "a59b190ecea8f4ebc0c46ebcee0655543d7f2ae48707d7a150f50caa05ed542b").2.toList) := by kernel_rfl
theorem p_looks : false = Tryz.prog.looks [] := by kernel_rfl
end Go.Proofs.YtfhhpdggmefcoaaGreatDoor
