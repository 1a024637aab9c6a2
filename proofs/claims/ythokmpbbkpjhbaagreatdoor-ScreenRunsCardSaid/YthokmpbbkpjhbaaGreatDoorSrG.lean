/- Parts of the proofs of ScreenRuns: the walk through the code, and plain Lean. No condition. -/
import Derived.Test.YthokmpbbkpjhbaaGreatDoorRows
import Derived.JoinedOf
import Derived.RowKit
import Derived.KernelRfl
import Derived.SevenTiedAt
set_option linter.unusedVariables false
set_option linter.unusedSimpArgs false
namespace Go.Proofs.YthokmpbbkpjhbaaGreatDoor
open Go
set_option maxRecDepth 100000
theorem wP:laidOutB Tryz.prog=true:=by kernel_rfl
theorem Ep:mapsRowed Tryz.prog=true:=by kernel_rfl
theorem G8:ownKnob Tryz.prog.godebug=none:=by kernel_rfl
theorem Eo:(Tryz.prog.stops== [])=true:=by kernel_rfl
theorem Ex:(Tryz.prog.stopKnobs== [])=true:=by kernel_rfl
theorem Ey:Tryz.prog.stopsHeard=true:=by kernel_rfl
theorem CW:Tryz.prog.mayEnter=true:=by kernel_rfl
theorem Ew:(Rows.widenGrowsRow.lifted==Tryz.prog.liftsFinal)=true:=by kernel_rfl
theorem Eu:(Tryz.prog.make==some Rows.widenGrowsRow.make)=true:=by kernel_rfl
theorem Es:(Rows.widenGrowsRow.plainKeys==Tryz.prog.plainKeys)=true:=by kernel_rfl
theorem BJ:Tryz.pinned.checked.prog.mainIs=some ((true,"bbebed138fdc759f2bd6c48282b3cfb84a5fa78613f3da562b82f15c613fb9fc").1,(true,"bbebed138fdc759f2bd6c48282b3cfb84a5fa78613f3da562b82f15c613fb9fc").2.toList):=by kernel_rfl
theorem Ev:true=Tryz.prog.looks []:=by kernel_rfl
end Go.Proofs.YthokmpbbkpjhbaaGreatDoor
