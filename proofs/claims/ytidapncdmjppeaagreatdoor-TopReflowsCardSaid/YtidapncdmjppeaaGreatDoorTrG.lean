/- Parts of the proofs of TopReflows: the walk through the code, and plain Lean. No condition. -/
import Derived.Test.YtidapncdmjppeaaGreatDoorRows
import Derived.JoinedOf
import Derived.RowKit
import Derived.KernelRfl
import Derived.SevenTiedAt
set_option linter.unusedVariables false
set_option linter.unusedSimpArgs false
namespace Go.Proofs.YtidapncdmjppeaaGreatDoor
open Go
set_option maxRecDepth 100000
theorem wv:laidOutB Tryz.prog=true:=by kernel_rfl
theorem D8:mapsRowed Tryz.prog=true:=by kernel_rfl
theorem GM:ownKnob Tryz.prog.godebug=none:=by kernel_rfl
theorem D7:(Tryz.prog.stops== [])=true:=by kernel_rfl
theorem Ee:(Tryz.prog.stopKnobs== [])=true:=by kernel_rfl
theorem Ef:Tryz.prog.stopsHeard=true:=by kernel_rfl
theorem CA:Tryz.prog.mayEnter=true:=by kernel_rfl
theorem Ed:(Rows.topReflowsRow.lifted==Tryz.prog.liftsFinal)=true:=by kernel_rfl
theorem Ea:(Tryz.prog.make==some Rows.topReflowsRow.make)=true:=by kernel_rfl
theorem D9:(Rows.topReflowsRow.plainKeys==Tryz.prog.plainKeys)=true:=by kernel_rfl
theorem Bo:Tryz.pinned.checked.prog.mainIs=some ((true,"48a977556a6fcd9b8a192063b1643bbfc86f13fb6613f481921613a7ff1c626c").1,(true,"48a977556a6fcd9b8a192063b1643bbfc86f13fb6613f481921613a7ff1c626c").2.toList):=by kernel_rfl
theorem Ec:true=Tryz.prog.looks []:=by kernel_rfl
end Go.Proofs.YtidapncdmjppeaaGreatDoor
