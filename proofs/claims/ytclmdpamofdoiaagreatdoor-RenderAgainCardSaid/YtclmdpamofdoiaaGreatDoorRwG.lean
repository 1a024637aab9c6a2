/- Parts of the proofs of RenderDraws, RenderAgain: the walk through the code, and plain Lean. No condition. -/
import Derived.Test.YtclmdpamofdoiaaGreatDoorRows
import Derived.JoinedOf
import Derived.RowKit
import Derived.KernelRfl
import Derived.SevenTiedAt
set_option linter.unusedVariables false
set_option linter.unusedSimpArgs false
namespace Go.Proofs.YtclmdpamofdoiaaGreatDoor
open Go
set_option maxRecDepth 100000
theorem qN:laidOutB Tryz.prog=true:=by kernel_rfl
theorem Av:mapsRowed Tryz.prog=true:=by kernel_rfl
theorem FD:ownKnob Tryz.prog.godebug=none:=by kernel_rfl
theorem Au:(Tryz.prog.stops== [])=true:=by kernel_rfl
theorem AA:(Tryz.prog.stopKnobs== [])=true:=by kernel_rfl
theorem AB:Tryz.prog.stopsHeard=true:=by kernel_rfl
theorem yp:Tryz.prog.mayEnter=true:=by kernel_rfl
theorem Az:(Rows.mirrorGroupsRow.lifted==Tryz.prog.liftsFinal)=true:=by kernel_rfl
theorem Ax:(Tryz.prog.make==some Rows.mirrorGroupsRow.make)=true:=by kernel_rfl
theorem Aw:(Rows.mirrorGroupsRow.plainKeys==Tryz.prog.plainKeys)=true:=by kernel_rfl
theorem wI:Tryz.pinned.checked.prog.mainIs=some ((true,"28cfc5ba7f0983bf9f248b3c71266c5674665e12ea36bcccb349e2771c98ab97").1,(true,"28cfc5ba7f0983bf9f248b3c71266c5674665e12ea36bcccb349e2771c98ab97").2.toList):=by kernel_rfl
theorem Ay:true=Tryz.prog.looks []:=by kernel_rfl
end Go.Proofs.YtclmdpamofdoiaaGreatDoor
