/-
  DERIVED. GIVEN WITH THE SEED: THE CARDS: each row of YtfhhpdggmefcoaaGreatDoorRows.lean that lists a variable, with what it lists TIED to the program's text (the seventh form; the later family's looks); each row that meets fmt, with fmt's text TOLD by the authors' own Lean function (tested against real Go, not proved from fmt's source: count such statements apart). THE CARD IS WHAT COUNTS. Prove the row's statement (the work); the ties are given (YtfhhpdggmefcoaaGreatDoorTie.lean); close each card by the builder's one call (the guide's Derived/Test/ToyasCard.lean, 'card_holds'). Laid BY PROGRAM, IN A SANDBOX (cutbox-door.mjs). By AI agents, Wed Nov 11 2026. No macro, syntax, notation, axiom, sorry.
-/
import Derived.Test.YtfhhpdggmefcoaaGreatDoorRows
import GoSem.ClaimSeven
namespace Go.Proofs.YtfhhpdggmefcoaaGreatDoor
namespace Rows

/-- THE TIED CARD OF 'linotypelaw37.FeedCuts'. -/
def feedCutsCard : Claim7 := { stood := { row := feedCutsRow, standIns := [], harness := (true, "a59b190ecea8f4ebc0c46ebcee0655543d7f2ae48707d7a150f50caa05ed542b"), looks := false }, kinds := [], alts := [], laidByText := true, laidKinds := [.sentinel, .sentinel], laidTests := true, laidLooks := .later }
def FeedCutsCardSaid : Prop := Claim7.holds Tryz.pinned (.plain (OpenSpec.ofChange feedCutsSpec)) feedCutsCard

/-- THE SECOND FORM's CARD OF 'linotypelaw37.FeedCuts'. -/
def feedCutsUptoCard : Claim7 := { stood := { row := feedCutsUptoRow, standIns := [], harness := (true, "a59b190ecea8f4ebc0c46ebcee0655543d7f2ae48707d7a150f50caa05ed542b"), looks := false }, kinds := [], alts := [], laidByText := true, laidKinds := [.sentinel, .sentinel], laidTests := true, laidLooks := .later }
def FeedCutsUptoCardSaid : Prop := Claim7.holds Tryz.pinned (.plain (OpenSpec.upto feedCutsSpec)) feedCutsUptoCard
end Rows
end Go.Proofs.YtfhhpdggmefcoaaGreatDoor
