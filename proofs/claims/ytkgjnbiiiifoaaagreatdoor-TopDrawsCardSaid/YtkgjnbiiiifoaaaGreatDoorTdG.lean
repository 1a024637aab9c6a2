/- Parts of the proofs of TopDraws: the walk through the code, and plain Lean. No condition. -/
import Derived.Test.YtkgjnbiiiifoaaaGreatDoorRows
import Derived.JoinedOf
import Derived.RowKit
import Derived.KernelRfl
import Derived.SevenTiedAt
set_option linter.unusedVariables false
set_option linter.unusedSimpArgs false
namespace Go.Proofs.YtkgjnbiiiifoaaaGreatDoor
open Go
set_option maxRecDepth 100000
theorem zr:laidOutB Tryz.prog=true:=by kernel_rfl
theorem HY:mapsRowed Tryz.prog=true:=by kernel_rfl
theorem K6:ownKnob Tryz.prog.godebug=none:=by kernel_rfl
theorem HX:(Tryz.prog.stops== [])=true:=by kernel_rfl
theorem Ic:(Tryz.prog.stopKnobs== [])=true:=by kernel_rfl
theorem Ie:Tryz.prog.stopsHeard=true:=by kernel_rfl
theorem FY:Tryz.prog.mayEnter=true:=by kernel_rfl
theorem Ib:(Rows.topDrawsRow.lifted==Tryz.prog.liftsFinal)=true:=by kernel_rfl
theorem H0:(Tryz.prog.make==some Rows.topDrawsRow.make)=true:=by kernel_rfl
theorem HZ:(Rows.topDrawsRow.plainKeys==Tryz.prog.plainKeys)=true:=by kernel_rfl
theorem Eo:Tryz.pinned.checked.prog.mainIs=some ((true,"bfe401ae60d81cce91284fbff84d5aa08abcd121b7a16fa55bfb899c25929223").1,(true,"bfe401ae60d81cce91284fbff84d5aa08abcd121b7a16fa55bfb899c25929223").2.toList):=by kernel_rfl
theorem Ia:true=Tryz.prog.looks []:=by kernel_rfl
end Go.Proofs.YtkgjnbiiiifoaaaGreatDoor
