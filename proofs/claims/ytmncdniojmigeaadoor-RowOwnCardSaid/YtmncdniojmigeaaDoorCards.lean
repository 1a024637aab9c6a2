/-
  DERIVED. GIVEN WITH THE SEED: THE CARDS: each row of YtmncdniojmigeaaDoorRows.lean that lists a variable, with what it lists TIED to the program's text (the seventh form; the later family's looks); each row that meets fmt, with fmt's text TOLD by the authors' own Lean function (tested against real Go, not proved from fmt's source: count such statements apart). THE CARD IS WHAT COUNTS. Prove the row's statement (the work); the ties are given (YtmncdniojmigeaaDoorTie.lean); close each card by the builder's one call (the guide's Derived/Test/ToyasCard.lean, 'card_holds'). Laid BY PROGRAM, IN A SANDBOX (cutbox-door.mjs). By AI agents, Wed Nov 11 2026. No macro, syntax, notation, axiom, sorry.
-/
import Derived.Test.YtmncdniojmigeaaDoorRows
import GoSem.ClaimSeven
namespace Go.Proofs.YtmncdniojmigeaaDoor
namespace Rows

/-- THE TIED CARD OF 'linotypelaw24.RowOwn'. -/
def rowOwnCard : Claim7 := { stood := { row := rowOwnRow, standIns := [], harness := (true, "10197e7bf79e2f0c9816e5f12a3c073fc221e9917deddc0932df4da3edb07916"), looks := false }, kinds := [], alts := [], laidByText := true, laidKinds := [.sentinel, .sentinel], laidTests := true, laidLooks := .later }
def RowOwnCardSaid : Prop := Claim7.holds Tryd.pinned (.plain (OpenSpec.ofChange rowOwnSpec)) rowOwnCard

/-- THE SECOND FORM's CARD OF 'linotypelaw24.RowOwn'. -/
def rowOwnUptoCard : Claim7 := { stood := { row := rowOwnUptoRow, standIns := [], harness := (true, "10197e7bf79e2f0c9816e5f12a3c073fc221e9917deddc0932df4da3edb07916"), looks := false }, kinds := [], alts := [], laidByText := true, laidKinds := [.sentinel, .sentinel], laidTests := true, laidLooks := .later }
def RowOwnUptoCardSaid : Prop := Claim7.holds Tryd.pinned (.plain (OpenSpec.upto rowOwnSpec)) rowOwnUptoCard
end Rows
end Go.Proofs.YtmncdniojmigeaaDoor
