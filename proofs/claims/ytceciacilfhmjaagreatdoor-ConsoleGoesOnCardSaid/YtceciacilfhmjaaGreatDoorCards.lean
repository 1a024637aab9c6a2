/-
  DERIVED. GIVEN WITH THE SEED: THE CARDS: each row of YtceciacilfhmjaaGreatDoorRows.lean that lists a variable, with what it lists TIED to the program's text (the seventh form; the later family's looks); each row that meets fmt, with fmt's text TOLD by the authors' own Lean function (tested against real Go, not proved from fmt's source: count such statements apart). THE CARD IS WHAT COUNTS. Prove the row's statement (the work); the ties are given (YtceciacilfhmjaaGreatDoorTie.lean); close each card by the builder's one call (the guide's Derived/Test/ToyasCard.lean, 'card_holds'). Laid BY PROGRAM, IN A SANDBOX (cutbox-door.mjs). By AI agents, Wed Nov 11 2026. No macro, syntax, notation, axiom, sorry.
-/
import Derived.Test.YtceciacilfhmjaaGreatDoorRows
import GoSem.ClaimSeven
namespace Go.Proofs.YtceciacilfhmjaaGreatDoor
namespace Rows

/-- THE TIED CARD OF 'linotypelaw49.ConsoleGoesOn'. -/
def consoleGoesOnCard : Claim7 := { stood := { row := consoleGoesOnRow, standIns := [], harness := (true, "244a94fc1bfd4e0f838cdf0bf73a8619e50d71bdc8c93c2114ba7b79346b5034"), looks := true }, kinds := [], alts := [], laidByText := true, laidKinds := [.data, .data, .data, .data, .handle, .sentinel, .sentinel, .sentinel, .sentinel, .sentinel, .sentinel, .sentinel, .sentinel, .sentinel, .sentinel, .pinned], laidTests := true, laidLooks := .later }
def ConsoleGoesOnCardSaid : Prop := Claim7.holds Tryz.pinned (.plain (OpenSpec.ofChange consoleGoesOnSpec)) consoleGoesOnCard

/-- THE SECOND FORM's CARD OF 'linotypelaw49.ConsoleGoesOn'. -/
def consoleGoesOnUptoCard : Claim7 := { stood := { row := consoleGoesOnUptoRow, standIns := [], harness := (true, "244a94fc1bfd4e0f838cdf0bf73a8619e50d71bdc8c93c2114ba7b79346b5034"), looks := true }, kinds := [], alts := [], laidByText := true, laidKinds := [.data, .data, .data, .data, .handle, .sentinel, .sentinel, .sentinel, .sentinel, .sentinel, .sentinel, .sentinel, .sentinel, .sentinel, .sentinel, .pinned], laidTests := true, laidLooks := .later }
def ConsoleGoesOnUptoCardSaid : Prop := Claim7.holds Tryz.pinned (.plain (OpenSpec.upto consoleGoesOnSpec)) consoleGoesOnUptoCard
end Rows
end Go.Proofs.YtceciacilfhmjaaGreatDoor
