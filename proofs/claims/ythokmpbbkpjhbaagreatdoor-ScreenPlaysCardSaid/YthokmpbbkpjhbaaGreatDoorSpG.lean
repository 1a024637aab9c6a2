/- Parts of the proofs of ScreenPlays: the walk through the code, and plain Lean. No condition. -/
import Derived.Test.YthokmpbbkpjhbaaGreatDoorRows
import Derived.JoinedOf
import Derived.RowKit
import Derived.KernelRfl
import Derived.SevenTiedAt
set_option linter.unusedVariables false
set_option linter.unusedSimpArgs false
namespace Go.Proofs.YthokmpbbkpjhbaaGreatDoor
open Go
set_option maxRecDepth 100000
theorem wv:laidOutB Tryz.prog=true:=by kernel_rfl
theorem DN:mapsRowed Tryz.prog=true:=by kernel_rfl
theorem Gj:ownKnob Tryz.prog.godebug=none:=by kernel_rfl
theorem DM:(Tryz.prog.stops== [])=true:=by kernel_rfl
theorem DS:(Tryz.prog.stopKnobs== [])=true:=by kernel_rfl
theorem DT:Tryz.prog.stopsHeard=true:=by kernel_rfl
theorem Cm:Tryz.prog.mayEnter=true:=by kernel_rfl
theorem DR:(Rows.widenGrowsRow.lifted==Tryz.prog.liftsFinal)=true:=by kernel_rfl
theorem DP:(Tryz.prog.make==some Rows.widenGrowsRow.make)=true:=by kernel_rfl
theorem DO:(Rows.widenGrowsRow.plainKeys==Tryz.prog.plainKeys)=true:=by kernel_rfl
theorem Bd:Tryz.pinned.checked.prog.mainIs=some ((true,"bbebed138fdc759f2bd6c48282b3cfb84a5fa78613f3da562b82f15c613fb9fc").1,(true,"bbebed138fdc759f2bd6c48282b3cfb84a5fa78613f3da562b82f15c613fb9fc").2.toList):=by kernel_rfl
theorem DQ:true=Tryz.prog.looks []:=by kernel_rfl
end Go.Proofs.YthokmpbbkpjhbaaGreatDoor
