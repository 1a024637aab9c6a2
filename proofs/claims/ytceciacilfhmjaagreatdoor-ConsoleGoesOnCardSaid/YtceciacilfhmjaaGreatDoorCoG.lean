/- Parts of the proofs of ConsoleGoesOn: the walk through the code, and plain Lean. No condition. -/
import Derived.Test.YtceciacilfhmjaaGreatDoorRows
import Derived.JoinedOf
import Derived.RowKit
import Derived.KernelRfl
import Derived.SevenTiedAt
set_option linter.unusedVariables false
set_option linter.unusedSimpArgs false
namespace Go.Proofs.YtceciacilfhmjaaGreatDoor
open Go
set_option maxRecDepth 100000
theorem yc:laidOutB Tryz.prog=true:=by kernel_rfl
theorem Hz:mapsRowed Tryz.prog=true:=by kernel_rfl
theorem Kt:ownKnob Tryz.prog.godebug=none:=by kernel_rfl
theorem Hy:(Tryz.prog.stops== [])=true:=by kernel_rfl
theorem HF:(Tryz.prog.stopKnobs== [])=true:=by kernel_rfl
theorem HG:Tryz.prog.stopsHeard=true:=by kernel_rfl
theorem E9:Tryz.prog.mayEnter=true:=by kernel_rfl
theorem HE:(Rows.consoleGoesOnRow.lifted==Tryz.prog.liftsFinal)=true:=by kernel_rfl
theorem HB:(Tryz.prog.make==some Rows.consoleGoesOnRow.make)=true:=by kernel_rfl
theorem HA:(Rows.consoleGoesOnRow.plainKeys==Tryz.prog.plainKeys)=true:=by kernel_rfl
theorem DH:Tryz.pinned.checked.prog.mainIs=some ((true,"244a94fc1bfd4e0f838cdf0bf73a8619e50d71bdc8c93c2114ba7b79346b5034").1,(true,"244a94fc1bfd4e0f838cdf0bf73a8619e50d71bdc8c93c2114ba7b79346b5034").2.toList):=by kernel_rfl
theorem HD:true=Tryz.prog.looks []:=by kernel_rfl
end Go.Proofs.YtceciacilfhmjaaGreatDoor
