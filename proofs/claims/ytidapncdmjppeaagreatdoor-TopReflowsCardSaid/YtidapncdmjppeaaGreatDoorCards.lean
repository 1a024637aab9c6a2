/-
  DERIVED. GIVEN WITH THE SEED: THE CARDS: each row of YtidapncdmjppeaaGreatDoorRows.lean that lists a variable, with what it lists TIED to the program's text (the seventh form; the later family's looks); each row that meets fmt, with fmt's text TOLD by the authors' own Lean function (tested against real Go, not proved from fmt's source: count such statements apart). THE CARD IS WHAT COUNTS. Prove the row's statement (the work); the ties are given (YtidapncdmjppeaaGreatDoorTie.lean); close each card by the builder's one call (the guide's Derived/Test/ToyasCard.lean, 'card_holds'). Laid BY PROGRAM, IN A SANDBOX (cutbox-door.mjs). By AI agents, Wed Nov 11 2026. No macro, syntax, notation, axiom, sorry.
-/
import Derived.Test.YtidapncdmjppeaaGreatDoorRows
import GoSem.ClaimSeven
namespace Go.Proofs.YtidapncdmjppeaaGreatDoor
namespace Rows

/-- THE TIED CARD OF 'linotypetop.TopReflows'. -/
def topReflowsCard : Claim7 := { stood := { row := topReflowsRow, standIns := [], harness := (true, "48a977556a6fcd9b8a192063b1643bbfc86f13fb6613f481921613a7ff1c626c"), looks := true }, kinds := [], alts := [], laidByText := true, laidKinds := [.data, .data, .data, .data, .handle, .sentinel, .sentinel, .sentinel, .sentinel, .sentinel, .sentinel, .sentinel, .sentinel, .sentinel, .sentinel, .pinned], laidTests := true, laidLooks := .later }
def TopReflowsCardSaid : Prop := Claim7.holds Tryz.pinned (.plain (OpenSpec.ofChange topReflowsSpec)) topReflowsCard

/-- THE SECOND FORM's CARD OF 'linotypetop.TopReflows'. -/
def topReflowsUptoCard : Claim7 := { stood := { row := topReflowsUptoRow, standIns := [], harness := (true, "48a977556a6fcd9b8a192063b1643bbfc86f13fb6613f481921613a7ff1c626c"), looks := true }, kinds := [], alts := [], laidByText := true, laidKinds := [.data, .data, .data, .data, .handle, .sentinel, .sentinel, .sentinel, .sentinel, .sentinel, .sentinel, .sentinel, .sentinel, .sentinel, .sentinel, .pinned], laidTests := true, laidLooks := .later }
def TopReflowsUptoCardSaid : Prop := Claim7.holds Tryz.pinned (.plain (OpenSpec.upto topReflowsSpec)) topReflowsUptoCard
end Rows
end Go.Proofs.YtidapncdmjppeaaGreatDoor
