/- Parts of the proofs of ScriptLines, ScriptReads, ScriptTells: the walk through the code, and plain Lean. No condition. -/
import Derived.Test.YtmncdniojmigeaaGreatDoorRows
import Derived.JoinedOf
import Derived.RowKit
import Derived.KernelRfl
import Derived.SevenTiedAt
set_option linter.unusedVariables false
set_option linter.unusedSimpArgs false
namespace Go.Proofs.YtmncdniojmigeaaGreatDoor
open Go
set_option maxRecDepth 100000
theorem fd:laidOutB Tryz.prog=true:=by kernel_rfl
theorem kw:mapsRowed Tryz.prog=true:=by kernel_rfl
theorem nh:ownKnob Tryz.prog.godebug=none:=by kernel_rfl
theorem kv:(Tryz.prog.stops== [])=true:=by kernel_rfl
theorem kB:(Tryz.prog.stopKnobs== [])=true:=by kernel_rfl
theorem kC:Tryz.prog.stopsHeard=true:=by kernel_rfl
theorem jk:Tryz.prog.mayEnter=true:=by kernel_rfl
theorem kA:(Rows.scriptTellsRow.lifted==Tryz.prog.liftsFinal)=true:=by kernel_rfl
theorem ky:(Tryz.prog.make==some Rows.scriptTellsRow.make)=true:=by kernel_rfl
theorem kx:(Rows.scriptTellsRow.plainKeys==Tryz.prog.plainKeys)=true:=by kernel_rfl
theorem iy:Tryz.pinned.checked.prog.mainIs=some ((true,"70952af9ea01a37ce475a1482bedcded1550c8e54dec87a1b4cd053176297232").1,(true,"70952af9ea01a37ce475a1482bedcded1550c8e54dec87a1b4cd053176297232").2.toList):=by kernel_rfl
theorem kz:true=Tryz.prog.looks []:=by kernel_rfl
end Go.Proofs.YtmncdniojmigeaaGreatDoor
