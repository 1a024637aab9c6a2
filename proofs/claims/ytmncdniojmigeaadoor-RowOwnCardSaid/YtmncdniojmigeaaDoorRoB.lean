/- Parts of the proofs of RowOwn: the walk through the code, and plain Lean. No condition. -/
import Derived.Test.YtmncdniojmigeaaDoorRows
import Derived.JoinedOf
import Derived.RowKit
import Derived.KernelRfl
import Derived.SevenTiedAt
set_option linter.unusedVariables false
set_option linter.unusedSimpArgs false
namespace Go.Proofs.YtmncdniojmigeaaDoor
open Go
set_option maxRecDepth 100000
theorem dK:laidOutB Tryd.prog=true:=by kernel_rfl
theorem fM:mapsRowed Tryd.prog=true:=by kernel_rfl
theorem gL:ownKnob Tryd.prog.godebug=none:=by kernel_rfl
theorem fL:(Tryd.prog.stops== [])=true:=by kernel_rfl
theorem fR:(Tryd.prog.stopKnobs== [])=true:=by kernel_rfl
theorem fS:Tryd.prog.stopsHeard=true:=by kernel_rfl
theorem fv:Tryd.prog.mayEnter=true:=by kernel_rfl
theorem fQ:(Rows.rowOwnRow.lifted==Tryd.prog.liftsFinal)=true:=by kernel_rfl
theorem fO:(Tryd.prog.make==some Rows.rowOwnRow.make)=true:=by kernel_rfl
theorem fN:(Rows.rowOwnRow.plainKeys==Tryd.prog.plainKeys)=true:=by kernel_rfl
theorem e9:Tryd.pinned.checked.prog.mainIs=some ((true,"10197e7bf79e2f0c9816e5f12a3c073fc221e9917deddc0932df4da3edb07916").1,(true,"10197e7bf79e2f0c9816e5f12a3c073fc221e9917deddc0932df4da3edb07916").2.toList):=by kernel_rfl
theorem fP:false=Tryd.prog.looks []:=by kernel_rfl
end Go.Proofs.YtmncdniojmigeaaDoor
