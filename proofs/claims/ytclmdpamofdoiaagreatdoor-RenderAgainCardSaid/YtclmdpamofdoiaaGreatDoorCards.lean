/-
  DERIVED. GIVEN WITH THE SEED: THE CARDS: each row of YtclmdpamofdoiaaGreatDoorRows.lean that lists a variable, with what it lists TIED to the program's text (the seventh form; the later family's looks); each row that meets fmt, with fmt's text TOLD by the authors' own Lean function (tested against real Go, not proved from fmt's source: count such statements apart). THE CARD IS WHAT COUNTS. Prove the row's statement (the work); the ties are given (YtclmdpamofdoiaaGreatDoorTie.lean); close each card by the builder's one call (the guide's Derived/Test/ToyasCard.lean, 'card_holds'). Laid BY PROGRAM, IN A SANDBOX (cutbox-door.mjs). By AI agents, Wed Nov 11 2026. No macro, syntax, notation, axiom, sorry.
-/
import Derived.Test.YtclmdpamofdoiaaGreatDoorRows
import GoSem.ClaimSeven
namespace Go.Proofs.YtclmdpamofdoiaaGreatDoor
namespace Rows

/-- THE TIED CARD OF 'linotypelaw41.MirrorGroups'. -/
def mirrorGroupsCard : Claim7 := { stood := { row := mirrorGroupsRow, standIns := [], harness := (true, "28cfc5ba7f0983bf9f248b3c71266c5674665e12ea36bcccb349e2771c98ab97"), looks := true }, kinds := [], alts := [], laidByText := true, laidKinds := [.sentinel, .sentinel], laidTests := true, laidLooks := .later }
def MirrorGroupsCardSaid : Prop := Claim7.holds Tryz.pinned (.plain (OpenSpec.ofChange mirrorGroupsSpec)) mirrorGroupsCard

/-- THE TIED CARD OF 'linotypelaw42.ReadbackTells'. -/
def readbackTellsCard : Claim7 := { stood := { row := readbackTellsRow, standIns := [], harness := (true, "28cfc5ba7f0983bf9f248b3c71266c5674665e12ea36bcccb349e2771c98ab97"), looks := true }, kinds := [], alts := [], laidByText := true, laidKinds := [.sentinel, .sentinel, .sentinel, .sentinel], laidTests := true, laidLooks := .later }
def ReadbackTellsCardSaid : Prop := Claim7.holds Tryz.pinned (.plain (OpenSpec.ofChange readbackTellsSpec)) readbackTellsCard

/-- THE TIED CARD OF 'linotypelaw41.MirrorRuns'. -/
def mirrorRunsCard : Claim7 := { stood := { row := mirrorRunsRow, standIns := [], harness := (true, "28cfc5ba7f0983bf9f248b3c71266c5674665e12ea36bcccb349e2771c98ab97"), looks := true }, kinds := [], alts := [], laidByText := true, laidKinds := [.sentinel, .sentinel, .sentinel], laidTests := true, laidLooks := .later }
def MirrorRunsCardSaid : Prop := Claim7.holds Tryz.pinned (.plain (OpenSpec.ofChange mirrorRunsSpec)) mirrorRunsCard

/-- THE TIED CARD OF 'linotypelaw42.ReadbackTrips'. -/
def readbackTripsCard : Claim7 := { stood := { row := readbackTripsRow, standIns := [], harness := (true, "28cfc5ba7f0983bf9f248b3c71266c5674665e12ea36bcccb349e2771c98ab97"), looks := true }, kinds := [], alts := [], laidByText := true, laidKinds := [.sentinel, .sentinel, .sentinel, .sentinel], laidTests := true, laidLooks := .later }
def ReadbackTripsCardSaid : Prop := Claim7.holds Tryz.pinned (.plain (OpenSpec.ofChange readbackTripsSpec)) readbackTripsCard

/-- THE TIED CARD OF 'linotypelaw45.PlayFirst'. -/
def playFirstCard : Claim7 := { stood := { row := playFirstRow, standIns := [], harness := (true, "28cfc5ba7f0983bf9f248b3c71266c5674665e12ea36bcccb349e2771c98ab97"), looks := true }, kinds := [], alts := [], laidByText := true, laidKinds := [.handle, .sentinel, .sentinel, .sentinel], laidTests := true, laidLooks := .later }
def PlayFirstCardSaid : Prop := Claim7.holds Tryz.pinned (.plain (OpenSpec.ofChange playFirstSpec)) playFirstCard

/-- THE TIED CARD OF 'linotypelaw54.RenderAgain'. -/
def renderAgainCard : Claim7 := { stood := { row := renderAgainRow, standIns := [], harness := (true, "28cfc5ba7f0983bf9f248b3c71266c5674665e12ea36bcccb349e2771c98ab97"), looks := true }, kinds := [], alts := [], laidByText := true, laidKinds := [.sentinel, .sentinel, .sentinel, .sentinel, .sentinel, .sentinel], laidTests := true, laidLooks := .later }
def RenderAgainCardSaid : Prop := Claim7.holds Tryz.pinned (.plain (OpenSpec.ofChange renderAgainSpec)) renderAgainCard

/-- THE TIED CARD OF 'linotypelaw54.RenderDraws'. -/
def renderDrawsCard : Claim7 := { stood := { row := renderDrawsRow, standIns := [], harness := (true, "28cfc5ba7f0983bf9f248b3c71266c5674665e12ea36bcccb349e2771c98ab97"), looks := true }, kinds := [], alts := [], laidByText := true, laidKinds := [.sentinel, .sentinel, .sentinel, .sentinel, .sentinel, .sentinel], laidTests := true, laidLooks := .later }
def RenderDrawsCardSaid : Prop := Claim7.holds Tryz.pinned (.plain (OpenSpec.ofChange renderDrawsSpec)) renderDrawsCard

/-- THE TIED CARD OF 'linotypelaw45.PlaySteps'. -/
def playStepsCard : Claim7 := { stood := { row := playStepsRow, standIns := [], harness := (true, "28cfc5ba7f0983bf9f248b3c71266c5674665e12ea36bcccb349e2771c98ab97"), looks := true }, kinds := [], alts := [], laidByText := true, laidKinds := [.handle, .sentinel, .sentinel, .sentinel, .sentinel, .sentinel, .sentinel, .sentinel, .sentinel], laidTests := true, laidLooks := .later }
def PlayStepsCardSaid : Prop := Claim7.holds Tryz.pinned (.plain (OpenSpec.ofChange playStepsSpec)) playStepsCard

/-- THE SECOND FORM's CARD OF 'linotypelaw41.MirrorGroups'. -/
def mirrorGroupsUptoCard : Claim7 := { stood := { row := mirrorGroupsUptoRow, standIns := [], harness := (true, "28cfc5ba7f0983bf9f248b3c71266c5674665e12ea36bcccb349e2771c98ab97"), looks := true }, kinds := [], alts := [], laidByText := true, laidKinds := [.sentinel, .sentinel], laidTests := true, laidLooks := .later }
def MirrorGroupsUptoCardSaid : Prop := Claim7.holds Tryz.pinned (.plain (OpenSpec.upto mirrorGroupsSpec)) mirrorGroupsUptoCard

/-- THE SECOND FORM's CARD OF 'linotypelaw42.ReadbackTells'. -/
def readbackTellsUptoCard : Claim7 := { stood := { row := readbackTellsUptoRow, standIns := [], harness := (true, "28cfc5ba7f0983bf9f248b3c71266c5674665e12ea36bcccb349e2771c98ab97"), looks := true }, kinds := [], alts := [], laidByText := true, laidKinds := [.sentinel, .sentinel, .sentinel, .sentinel], laidTests := true, laidLooks := .later }
def ReadbackTellsUptoCardSaid : Prop := Claim7.holds Tryz.pinned (.plain (OpenSpec.upto readbackTellsSpec)) readbackTellsUptoCard

/-- THE SECOND FORM's CARD OF 'linotypelaw41.MirrorRuns'. -/
def mirrorRunsUptoCard : Claim7 := { stood := { row := mirrorRunsUptoRow, standIns := [], harness := (true, "28cfc5ba7f0983bf9f248b3c71266c5674665e12ea36bcccb349e2771c98ab97"), looks := true }, kinds := [], alts := [], laidByText := true, laidKinds := [.sentinel, .sentinel, .sentinel], laidTests := true, laidLooks := .later }
def MirrorRunsUptoCardSaid : Prop := Claim7.holds Tryz.pinned (.plain (OpenSpec.upto mirrorRunsSpec)) mirrorRunsUptoCard

/-- THE SECOND FORM's CARD OF 'linotypelaw42.ReadbackTrips'. -/
def readbackTripsUptoCard : Claim7 := { stood := { row := readbackTripsUptoRow, standIns := [], harness := (true, "28cfc5ba7f0983bf9f248b3c71266c5674665e12ea36bcccb349e2771c98ab97"), looks := true }, kinds := [], alts := [], laidByText := true, laidKinds := [.sentinel, .sentinel, .sentinel, .sentinel], laidTests := true, laidLooks := .later }
def ReadbackTripsUptoCardSaid : Prop := Claim7.holds Tryz.pinned (.plain (OpenSpec.upto readbackTripsSpec)) readbackTripsUptoCard

/-- THE SECOND FORM's CARD OF 'linotypelaw45.PlayFirst'. -/
def playFirstUptoCard : Claim7 := { stood := { row := playFirstUptoRow, standIns := [], harness := (true, "28cfc5ba7f0983bf9f248b3c71266c5674665e12ea36bcccb349e2771c98ab97"), looks := true }, kinds := [], alts := [], laidByText := true, laidKinds := [.handle, .sentinel, .sentinel, .sentinel], laidTests := true, laidLooks := .later }
def PlayFirstUptoCardSaid : Prop := Claim7.holds Tryz.pinned (.plain (OpenSpec.upto playFirstSpec)) playFirstUptoCard

/-- THE SECOND FORM's CARD OF 'linotypelaw54.RenderAgain'. -/
def renderAgainUptoCard : Claim7 := { stood := { row := renderAgainUptoRow, standIns := [], harness := (true, "28cfc5ba7f0983bf9f248b3c71266c5674665e12ea36bcccb349e2771c98ab97"), looks := true }, kinds := [], alts := [], laidByText := true, laidKinds := [.sentinel, .sentinel, .sentinel, .sentinel, .sentinel, .sentinel], laidTests := true, laidLooks := .later }
def RenderAgainUptoCardSaid : Prop := Claim7.holds Tryz.pinned (.plain (OpenSpec.upto renderAgainSpec)) renderAgainUptoCard

/-- THE SECOND FORM's CARD OF 'linotypelaw54.RenderDraws'. -/
def renderDrawsUptoCard : Claim7 := { stood := { row := renderDrawsUptoRow, standIns := [], harness := (true, "28cfc5ba7f0983bf9f248b3c71266c5674665e12ea36bcccb349e2771c98ab97"), looks := true }, kinds := [], alts := [], laidByText := true, laidKinds := [.sentinel, .sentinel, .sentinel, .sentinel, .sentinel, .sentinel], laidTests := true, laidLooks := .later }
def RenderDrawsUptoCardSaid : Prop := Claim7.holds Tryz.pinned (.plain (OpenSpec.upto renderDrawsSpec)) renderDrawsUptoCard

/-- THE SECOND FORM's CARD OF 'linotypelaw45.PlaySteps'. -/
def playStepsUptoCard : Claim7 := { stood := { row := playStepsUptoRow, standIns := [], harness := (true, "28cfc5ba7f0983bf9f248b3c71266c5674665e12ea36bcccb349e2771c98ab97"), looks := true }, kinds := [], alts := [], laidByText := true, laidKinds := [.handle, .sentinel, .sentinel, .sentinel, .sentinel, .sentinel, .sentinel, .sentinel, .sentinel], laidTests := true, laidLooks := .later }
def PlayStepsUptoCardSaid : Prop := Claim7.holds Tryz.pinned (.plain (OpenSpec.upto playStepsSpec)) playStepsUptoCard
end Rows
end Go.Proofs.YtclmdpamofdoiaaGreatDoor
