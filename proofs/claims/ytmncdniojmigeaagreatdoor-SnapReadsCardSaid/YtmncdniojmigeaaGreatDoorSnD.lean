/- Parts of the proofs of SnapReads, SnapTells, SnapSpoilt: the walk through the code, and plain Lean. No condition. -/
import Derived.Test.YtmncdniojmigeaaGreatDoorRows
import Derived.JoinedOf
import Derived.RowKit
import Derived.KernelRfl
import Derived.SevenTiedAt
set_option linter.unusedVariables false
set_option linter.unusedSimpArgs false
namespace Go.Proofs.YtmncdniojmigeaaGreatDoor
open Go
set_option maxRecDepth 100000
theorem gN:laidOutB Tryz.prog=true:=by kernel_rfl
theorem oy:mapsRowed Tryz.prog=true:=by kernel_rfl
theorem se:ownKnob Tryz.prog.godebug=none:=by kernel_rfl
theorem ox:(Tryz.prog.stops== [])=true:=by kernel_rfl
theorem oD:(Tryz.prog.stopKnobs== [])=true:=by kernel_rfl
theorem oE:Tryz.prog.stopsHeard=true:=by kernel_rfl
theorem mB:Tryz.prog.mayEnter=true:=by kernel_rfl
theorem oC:(Rows.scriptTellsRow.lifted==Tryz.prog.liftsFinal)=true:=by kernel_rfl
theorem oA:(Tryz.prog.make==some Rows.scriptTellsRow.make)=true:=by kernel_rfl
theorem oz:(Rows.scriptTellsRow.plainKeys==Tryz.prog.plainKeys)=true:=by kernel_rfl
theorem lA:Tryz.pinned.checked.prog.mainIs=some ((true,"70952af9ea01a37ce475a1482bedcded1550c8e54dec87a1b4cd053176297232").1,(true,"70952af9ea01a37ce475a1482bedcded1550c8e54dec87a1b4cd053176297232").2.toList):=by kernel_rfl
theorem oB:true=Tryz.prog.looks []:=by kernel_rfl
end Go.Proofs.YtmncdniojmigeaaGreatDoor
