/- Parts of the proofs of ReadbackTrips: the walk through the code, and plain Lean. No condition. -/
import Derived.Test.YtclmdpamofdoiaaGreatDoorRows
import Derived.JoinedOf
import Derived.RowKit
import Derived.KernelRfl
import Derived.SevenTiedAt
set_option linter.unusedVariables false
set_option linter.unusedSimpArgs false
namespace Go.Proofs.YtclmdpamofdoiaaGreatDoor
open Go
set_option maxRecDepth 100000
theorem ww:laidOutB Tryz.prog=true:=by kernel_rfl
theorem EE:mapsRowed Tryz.prog=true:=by kernel_rfl
theorem HK:ownKnob Tryz.prog.godebug=none:=by kernel_rfl
theorem ED:(Tryz.prog.stops== [])=true:=by kernel_rfl
theorem EJ:(Tryz.prog.stopKnobs== [])=true:=by kernel_rfl
theorem EK:Tryz.prog.stopsHeard=true:=by kernel_rfl
theorem CU:Tryz.prog.mayEnter=true:=by kernel_rfl
theorem EI:(Rows.mirrorGroupsRow.lifted==Tryz.prog.liftsFinal)=true:=by kernel_rfl
theorem EG:(Tryz.prog.make==some Rows.mirrorGroupsRow.make)=true:=by kernel_rfl
theorem EF:(Rows.mirrorGroupsRow.plainKeys==Tryz.prog.plainKeys)=true:=by kernel_rfl
theorem Bx:Tryz.pinned.checked.prog.mainIs=some ((true,"28cfc5ba7f0983bf9f248b3c71266c5674665e12ea36bcccb349e2771c98ab97").1,(true,"28cfc5ba7f0983bf9f248b3c71266c5674665e12ea36bcccb349e2771c98ab97").2.toList):=by kernel_rfl
theorem EH:true=Tryz.prog.looks []:=by kernel_rfl
end Go.Proofs.YtclmdpamofdoiaaGreatDoor
