/-
  DERIVED. GIVEN WITH THE SEED: THE CARDS: each row of YtohpkblleihmaaaDoorRows.lean that lists a variable, with what it lists TIED to the program's text (the seventh form; the later family's looks); each row that meets fmt, with fmt's text TOLD by the authors' own Lean function (tested against real Go, not proved from fmt's source: count such statements apart). THE CARD IS WHAT COUNTS. Prove the row's statement (the work); the ties are given (YtohpkblleihmaaaDoorTie.lean); close each card by the builder's one call (the guide's Derived/Test/ToyasCard.lean, 'card_holds'). Laid BY PROGRAM, IN A SANDBOX (cutbox-door.mjs). By AI agents, Wed Nov 11 2026. No macro, syntax, notation, axiom, sorry.
-/
import Derived.Test.YtohpkblleihmaaaDoorRows
import GoSem.ClaimSeven
namespace Go.Proofs.YtohpkblleihmaaaDoor
namespace Rows

/-- THE TIED CARD OF 'linotypelaw24.RowOwn'. -/
def rowOwnCard : Claim7 := { stood := { row := rowOwnRow, standIns := [], harness := (true, "34990a40c16bc5caa9be47befadb6f91827606a13e5d9ac5a23ddc8a36ac3d0b"), looks := true }, kinds := [], alts := [], laidByText := true, laidKinds := [.sentinel, .sentinel], laidTests := true, laidLooks := .later }
def RowOwnCardSaid : Prop := Claim7.holds Tryd.pinned (.plain (OpenSpec.ofChange rowOwnSpec)) rowOwnCard

/-- THE TIED CARD OF 'linotypelaw26.EraseFar'. -/
def eraseFarCard : Claim7 := { stood := { row := eraseFarRow, standIns := [], harness := (true, "34990a40c16bc5caa9be47befadb6f91827606a13e5d9ac5a23ddc8a36ac3d0b"), looks := true }, kinds := [], alts := [], laidByText := true, laidKinds := [.sentinel, .sentinel], laidTests := true, laidLooks := .later }
def EraseFarCardSaid : Prop := Claim7.holds Tryd.pinned (.plain (OpenSpec.ofChange eraseFarSpec)) eraseFarCard

/-- THE TIED CARD OF 'linotypelaw26.ErasePlays'. -/
def erasePlaysCard : Claim7 := { stood := { row := erasePlaysRow, standIns := [], harness := (true, "34990a40c16bc5caa9be47befadb6f91827606a13e5d9ac5a23ddc8a36ac3d0b"), looks := true }, kinds := [], alts := [], laidByText := true, laidKinds := [.sentinel, .sentinel], laidTests := true, laidLooks := .later }
def ErasePlaysCardSaid : Prop := Claim7.holds Tryd.pinned (.plain (OpenSpec.ofChange erasePlaysSpec)) erasePlaysCard

/-- THE TIED CARD OF 'linotypelaw33.ScrollPlays'. -/
def scrollPlaysCard : Claim7 := { stood := { row := scrollPlaysRow, standIns := [], harness := (true, "34990a40c16bc5caa9be47befadb6f91827606a13e5d9ac5a23ddc8a36ac3d0b"), looks := true }, kinds := [], alts := [], laidByText := true, laidKinds := [.sentinel, .sentinel], laidTests := true, laidLooks := .later }
def ScrollPlaysCardSaid : Prop := Claim7.holds Tryd.pinned (.plain (OpenSpec.ofChange scrollPlaysSpec)) scrollPlaysCard

/-- THE TIED CARD OF 'linotypelaw33.ScrollFar'. -/
def scrollFarCard : Claim7 := { stood := { row := scrollFarRow, standIns := [], harness := (true, "34990a40c16bc5caa9be47befadb6f91827606a13e5d9ac5a23ddc8a36ac3d0b"), looks := true }, kinds := [], alts := [], laidByText := true, laidKinds := [.sentinel, .sentinel], laidTests := true, laidLooks := .later }
def ScrollFarCardSaid : Prop := Claim7.holds Tryd.pinned (.plain (OpenSpec.ofChange scrollFarSpec)) scrollFarCard

/-- THE TIED CARD OF 'linotypelaw25.MarkWidens'. -/
def markWidensCard : Claim7 := { stood := { row := markWidensRow, standIns := [], harness := (true, "34990a40c16bc5caa9be47befadb6f91827606a13e5d9ac5a23ddc8a36ac3d0b"), looks := true }, kinds := [], alts := [], laidByText := true, laidKinds := [.sentinel, .sentinel], laidTests := true, laidLooks := .later }
def MarkWidensCardSaid : Prop := Claim7.holds Tryd.pinned (.plain (OpenSpec.ofChange markWidensSpec)) markWidensCard

/-- THE TIED CARD OF 'linotypelaw24.RowPaints'. -/
def rowPaintsCard : Claim7 := { stood := { row := rowPaintsRow, standIns := [], harness := (true, "34990a40c16bc5caa9be47befadb6f91827606a13e5d9ac5a23ddc8a36ac3d0b"), looks := true }, kinds := [], alts := [], laidByText := true, laidKinds := [.sentinel, .sentinel, .sentinel, .sentinel, .sentinel, .sentinel, .sentinel, .sentinel], laidTests := true, laidLooks := .later }
def RowPaintsCardSaid : Prop := Claim7.holds Tryd.pinned (.plain (OpenSpec.ofChange rowPaintsSpec)) rowPaintsCard

/-- THE TIED CARD OF 'linotypelaw24.RowMakes'. -/
def rowMakesCard : Claim7 := { stood := { row := rowMakesRow, standIns := [], harness := (true, "34990a40c16bc5caa9be47befadb6f91827606a13e5d9ac5a23ddc8a36ac3d0b"), looks := true }, kinds := [], alts := [], laidByText := true, laidKinds := [.sentinel, .sentinel, .sentinel, .sentinel, .sentinel, .sentinel, .sentinel, .sentinel], laidTests := true, laidLooks := .later }
def RowMakesCardSaid : Prop := Claim7.holds Tryd.pinned (.plain (OpenSpec.ofChange rowMakesSpec)) rowMakesCard

/-- THE TIED CARD OF 'linotypelaw25.MarkPlays'. -/
def markPlaysCard : Claim7 := { stood := { row := markPlaysRow, standIns := [], harness := (true, "34990a40c16bc5caa9be47befadb6f91827606a13e5d9ac5a23ddc8a36ac3d0b"), looks := true }, kinds := [], alts := [], laidByText := true, laidKinds := [.sentinel, .sentinel, .sentinel, .sentinel, .sentinel, .sentinel, .sentinel, .sentinel], laidTests := true, laidLooks := .later }
def MarkPlaysCardSaid : Prop := Claim7.holds Tryd.pinned (.plain (OpenSpec.ofChange markPlaysSpec)) markPlaysCard

/-- THE TIED CARD OF 'linotypelaw59.BlitBack'. -/
def blitBackCard : Claim7 := { stood := { row := blitBackRow, standIns := [], harness := (true, "34990a40c16bc5caa9be47befadb6f91827606a13e5d9ac5a23ddc8a36ac3d0b"), looks := true }, kinds := [], alts := [], laidByText := true, laidKinds := [.sentinel, .sentinel], laidTests := true, laidLooks := .later }
def BlitBackCardSaid : Prop := Claim7.holds Tryd.pinned (.plain (OpenSpec.ofChange blitBackSpec)) blitBackCard

/-- THE TIED CARD OF 'linotypelaw59.BlitPlays'. -/
def blitPlaysCard : Claim7 := { stood := { row := blitPlaysRow, standIns := [], harness := (true, "34990a40c16bc5caa9be47befadb6f91827606a13e5d9ac5a23ddc8a36ac3d0b"), looks := true }, kinds := [], alts := [], laidByText := true, laidKinds := [.sentinel, .sentinel], laidTests := true, laidLooks := .later }
def BlitPlaysCardSaid : Prop := Claim7.holds Tryd.pinned (.plain (OpenSpec.ofChange blitPlaysSpec)) blitPlaysCard

/-- THE TIED CARD OF 'linotypelaw27.ShiftPlays'. -/
def shiftPlaysCard : Claim7 := { stood := { row := shiftPlaysRow, standIns := [], harness := (true, "34990a40c16bc5caa9be47befadb6f91827606a13e5d9ac5a23ddc8a36ac3d0b"), looks := true }, kinds := [], alts := [], laidByText := true, laidKinds := [.sentinel, .sentinel], laidTests := true, laidLooks := .later }
def ShiftPlaysCardSaid : Prop := Claim7.holds Tryd.pinned (.plain (OpenSpec.ofChange shiftPlaysSpec)) shiftPlaysCard

/-- THE TIED CARD OF 'linotypelaw27.ShiftBack'. -/
def shiftBackCard : Claim7 := { stood := { row := shiftBackRow, standIns := [], harness := (true, "34990a40c16bc5caa9be47befadb6f91827606a13e5d9ac5a23ddc8a36ac3d0b"), looks := true }, kinds := [], alts := [], laidByText := true, laidKinds := [.sentinel, .sentinel], laidTests := true, laidLooks := .later }
def ShiftBackCardSaid : Prop := Claim7.holds Tryd.pinned (.plain (OpenSpec.ofChange shiftBackSpec)) shiftBackCard

/-- THE TIED CARD OF 'linotypelaw34.PlacePlays'. -/
def placePlaysCard : Claim7 := { stood := { row := placePlaysRow, standIns := [], harness := (true, "34990a40c16bc5caa9be47befadb6f91827606a13e5d9ac5a23ddc8a36ac3d0b"), looks := true }, kinds := [], alts := [], laidByText := true, laidKinds := [.sentinel, .sentinel], laidTests := true, laidLooks := .later }
def PlacePlaysCardSaid : Prop := Claim7.holds Tryd.pinned (.plain (OpenSpec.ofChange placePlaysSpec)) placePlaysCard

/-- THE TIED CARD OF 'linotypelaw34.PlaceSound'. -/
def placeSoundCard : Claim7 := { stood := { row := placeSoundRow, standIns := [], harness := (true, "34990a40c16bc5caa9be47befadb6f91827606a13e5d9ac5a23ddc8a36ac3d0b"), looks := true }, kinds := [], alts := [], laidByText := true, laidKinds := [.sentinel, .sentinel], laidTests := true, laidLooks := .later }
def PlaceSoundCardSaid : Prop := Claim7.holds Tryd.pinned (.plain (OpenSpec.ofChange placeSoundSpec)) placeSoundCard

/-- THE TIED CARD OF 'linotypelaw36.CtrlDoes'. -/
def ctrlDoesCard : Claim7 := { stood := { row := ctrlDoesRow, standIns := [], harness := (true, "34990a40c16bc5caa9be47befadb6f91827606a13e5d9ac5a23ddc8a36ac3d0b"), looks := true }, kinds := [], alts := [], laidByText := true, laidKinds := [.sentinel, .sentinel], laidTests := true, laidLooks := .later }
def CtrlDoesCardSaid : Prop := Claim7.holds Tryd.pinned (.plain (OpenSpec.ofChange ctrlDoesSpec)) ctrlDoesCard

/-- THE TIED CARD OF 'linotypelaw39.SizeTurns'. -/
def sizeTurnsCard : Claim7 := { stood := { row := sizeTurnsRow, standIns := [], harness := (true, "34990a40c16bc5caa9be47befadb6f91827606a13e5d9ac5a23ddc8a36ac3d0b"), looks := true }, kinds := [], alts := [], laidByText := true, laidKinds := [.sentinel, .sentinel], laidTests := true, laidLooks := .later }
def SizeTurnsCardSaid : Prop := Claim7.holds Tryd.pinned (.plain (OpenSpec.ofChange sizeTurnsSpec)) sizeTurnsCard

/-- THE TIED CARD OF 'linotypelaw39.SizeKeeps'. -/
def sizeKeepsCard : Claim7 := { stood := { row := sizeKeepsRow, standIns := [], harness := (true, "34990a40c16bc5caa9be47befadb6f91827606a13e5d9ac5a23ddc8a36ac3d0b"), looks := true }, kinds := [], alts := [], laidByText := true, laidKinds := [.sentinel, .sentinel], laidTests := true, laidLooks := .later }
def SizeKeepsCardSaid : Prop := Claim7.holds Tryd.pinned (.plain (OpenSpec.ofChange sizeKeepsSpec)) sizeKeepsCard

/-- THE TIED CARD OF 'linotypelaw35.WidenNone'. -/
def widenNoneCard : Claim7 := { stood := { row := widenNoneRow, standIns := [], harness := (true, "34990a40c16bc5caa9be47befadb6f91827606a13e5d9ac5a23ddc8a36ac3d0b"), looks := true }, kinds := [], alts := [], laidByText := true, laidKinds := [.sentinel, .sentinel], laidTests := true, laidLooks := .later }
def WidenNoneCardSaid : Prop := Claim7.holds Tryd.pinned (.plain (OpenSpec.ofChange widenNoneSpec)) widenNoneCard

/-- THE SECOND FORM's CARD OF 'linotypelaw24.RowOwn'. -/
def rowOwnUptoCard : Claim7 := { stood := { row := rowOwnUptoRow, standIns := [], harness := (true, "34990a40c16bc5caa9be47befadb6f91827606a13e5d9ac5a23ddc8a36ac3d0b"), looks := true }, kinds := [], alts := [], laidByText := true, laidKinds := [.sentinel, .sentinel], laidTests := true, laidLooks := .later }
def RowOwnUptoCardSaid : Prop := Claim7.holds Tryd.pinned (.plain (OpenSpec.upto rowOwnSpec)) rowOwnUptoCard

/-- THE SECOND FORM's CARD OF 'linotypelaw26.EraseFar'. -/
def eraseFarUptoCard : Claim7 := { stood := { row := eraseFarUptoRow, standIns := [], harness := (true, "34990a40c16bc5caa9be47befadb6f91827606a13e5d9ac5a23ddc8a36ac3d0b"), looks := true }, kinds := [], alts := [], laidByText := true, laidKinds := [.sentinel, .sentinel], laidTests := true, laidLooks := .later }
def EraseFarUptoCardSaid : Prop := Claim7.holds Tryd.pinned (.plain (OpenSpec.upto eraseFarSpec)) eraseFarUptoCard

/-- THE SECOND FORM's CARD OF 'linotypelaw26.ErasePlays'. -/
def erasePlaysUptoCard : Claim7 := { stood := { row := erasePlaysUptoRow, standIns := [], harness := (true, "34990a40c16bc5caa9be47befadb6f91827606a13e5d9ac5a23ddc8a36ac3d0b"), looks := true }, kinds := [], alts := [], laidByText := true, laidKinds := [.sentinel, .sentinel], laidTests := true, laidLooks := .later }
def ErasePlaysUptoCardSaid : Prop := Claim7.holds Tryd.pinned (.plain (OpenSpec.upto erasePlaysSpec)) erasePlaysUptoCard

/-- THE SECOND FORM's CARD OF 'linotypelaw33.ScrollPlays'. -/
def scrollPlaysUptoCard : Claim7 := { stood := { row := scrollPlaysUptoRow, standIns := [], harness := (true, "34990a40c16bc5caa9be47befadb6f91827606a13e5d9ac5a23ddc8a36ac3d0b"), looks := true }, kinds := [], alts := [], laidByText := true, laidKinds := [.sentinel, .sentinel], laidTests := true, laidLooks := .later }
def ScrollPlaysUptoCardSaid : Prop := Claim7.holds Tryd.pinned (.plain (OpenSpec.upto scrollPlaysSpec)) scrollPlaysUptoCard

/-- THE SECOND FORM's CARD OF 'linotypelaw33.ScrollFar'. -/
def scrollFarUptoCard : Claim7 := { stood := { row := scrollFarUptoRow, standIns := [], harness := (true, "34990a40c16bc5caa9be47befadb6f91827606a13e5d9ac5a23ddc8a36ac3d0b"), looks := true }, kinds := [], alts := [], laidByText := true, laidKinds := [.sentinel, .sentinel], laidTests := true, laidLooks := .later }
def ScrollFarUptoCardSaid : Prop := Claim7.holds Tryd.pinned (.plain (OpenSpec.upto scrollFarSpec)) scrollFarUptoCard

/-- THE SECOND FORM's CARD OF 'linotypelaw25.MarkWidens'. -/
def markWidensUptoCard : Claim7 := { stood := { row := markWidensUptoRow, standIns := [], harness := (true, "34990a40c16bc5caa9be47befadb6f91827606a13e5d9ac5a23ddc8a36ac3d0b"), looks := true }, kinds := [], alts := [], laidByText := true, laidKinds := [.sentinel, .sentinel], laidTests := true, laidLooks := .later }
def MarkWidensUptoCardSaid : Prop := Claim7.holds Tryd.pinned (.plain (OpenSpec.upto markWidensSpec)) markWidensUptoCard

/-- THE SECOND FORM's CARD OF 'linotypelaw24.RowPaints'. -/
def rowPaintsUptoCard : Claim7 := { stood := { row := rowPaintsUptoRow, standIns := [], harness := (true, "34990a40c16bc5caa9be47befadb6f91827606a13e5d9ac5a23ddc8a36ac3d0b"), looks := true }, kinds := [], alts := [], laidByText := true, laidKinds := [.sentinel, .sentinel, .sentinel, .sentinel, .sentinel, .sentinel, .sentinel, .sentinel], laidTests := true, laidLooks := .later }
def RowPaintsUptoCardSaid : Prop := Claim7.holds Tryd.pinned (.plain (OpenSpec.upto rowPaintsSpec)) rowPaintsUptoCard

/-- THE SECOND FORM's CARD OF 'linotypelaw24.RowMakes'. -/
def rowMakesUptoCard : Claim7 := { stood := { row := rowMakesUptoRow, standIns := [], harness := (true, "34990a40c16bc5caa9be47befadb6f91827606a13e5d9ac5a23ddc8a36ac3d0b"), looks := true }, kinds := [], alts := [], laidByText := true, laidKinds := [.sentinel, .sentinel, .sentinel, .sentinel, .sentinel, .sentinel, .sentinel, .sentinel], laidTests := true, laidLooks := .later }
def RowMakesUptoCardSaid : Prop := Claim7.holds Tryd.pinned (.plain (OpenSpec.upto rowMakesSpec)) rowMakesUptoCard

/-- THE SECOND FORM's CARD OF 'linotypelaw25.MarkPlays'. -/
def markPlaysUptoCard : Claim7 := { stood := { row := markPlaysUptoRow, standIns := [], harness := (true, "34990a40c16bc5caa9be47befadb6f91827606a13e5d9ac5a23ddc8a36ac3d0b"), looks := true }, kinds := [], alts := [], laidByText := true, laidKinds := [.sentinel, .sentinel, .sentinel, .sentinel, .sentinel, .sentinel, .sentinel, .sentinel], laidTests := true, laidLooks := .later }
def MarkPlaysUptoCardSaid : Prop := Claim7.holds Tryd.pinned (.plain (OpenSpec.upto markPlaysSpec)) markPlaysUptoCard

/-- THE SECOND FORM's CARD OF 'linotypelaw59.BlitBack'. -/
def blitBackUptoCard : Claim7 := { stood := { row := blitBackUptoRow, standIns := [], harness := (true, "34990a40c16bc5caa9be47befadb6f91827606a13e5d9ac5a23ddc8a36ac3d0b"), looks := true }, kinds := [], alts := [], laidByText := true, laidKinds := [.sentinel, .sentinel], laidTests := true, laidLooks := .later }
def BlitBackUptoCardSaid : Prop := Claim7.holds Tryd.pinned (.plain (OpenSpec.upto blitBackSpec)) blitBackUptoCard

/-- THE SECOND FORM's CARD OF 'linotypelaw59.BlitPlays'. -/
def blitPlaysUptoCard : Claim7 := { stood := { row := blitPlaysUptoRow, standIns := [], harness := (true, "34990a40c16bc5caa9be47befadb6f91827606a13e5d9ac5a23ddc8a36ac3d0b"), looks := true }, kinds := [], alts := [], laidByText := true, laidKinds := [.sentinel, .sentinel], laidTests := true, laidLooks := .later }
def BlitPlaysUptoCardSaid : Prop := Claim7.holds Tryd.pinned (.plain (OpenSpec.upto blitPlaysSpec)) blitPlaysUptoCard

/-- THE SECOND FORM's CARD OF 'linotypelaw27.ShiftPlays'. -/
def shiftPlaysUptoCard : Claim7 := { stood := { row := shiftPlaysUptoRow, standIns := [], harness := (true, "34990a40c16bc5caa9be47befadb6f91827606a13e5d9ac5a23ddc8a36ac3d0b"), looks := true }, kinds := [], alts := [], laidByText := true, laidKinds := [.sentinel, .sentinel], laidTests := true, laidLooks := .later }
def ShiftPlaysUptoCardSaid : Prop := Claim7.holds Tryd.pinned (.plain (OpenSpec.upto shiftPlaysSpec)) shiftPlaysUptoCard

/-- THE SECOND FORM's CARD OF 'linotypelaw27.ShiftBack'. -/
def shiftBackUptoCard : Claim7 := { stood := { row := shiftBackUptoRow, standIns := [], harness := (true, "34990a40c16bc5caa9be47befadb6f91827606a13e5d9ac5a23ddc8a36ac3d0b"), looks := true }, kinds := [], alts := [], laidByText := true, laidKinds := [.sentinel, .sentinel], laidTests := true, laidLooks := .later }
def ShiftBackUptoCardSaid : Prop := Claim7.holds Tryd.pinned (.plain (OpenSpec.upto shiftBackSpec)) shiftBackUptoCard

/-- THE SECOND FORM's CARD OF 'linotypelaw34.PlacePlays'. -/
def placePlaysUptoCard : Claim7 := { stood := { row := placePlaysUptoRow, standIns := [], harness := (true, "34990a40c16bc5caa9be47befadb6f91827606a13e5d9ac5a23ddc8a36ac3d0b"), looks := true }, kinds := [], alts := [], laidByText := true, laidKinds := [.sentinel, .sentinel], laidTests := true, laidLooks := .later }
def PlacePlaysUptoCardSaid : Prop := Claim7.holds Tryd.pinned (.plain (OpenSpec.upto placePlaysSpec)) placePlaysUptoCard

/-- THE SECOND FORM's CARD OF 'linotypelaw34.PlaceSound'. -/
def placeSoundUptoCard : Claim7 := { stood := { row := placeSoundUptoRow, standIns := [], harness := (true, "34990a40c16bc5caa9be47befadb6f91827606a13e5d9ac5a23ddc8a36ac3d0b"), looks := true }, kinds := [], alts := [], laidByText := true, laidKinds := [.sentinel, .sentinel], laidTests := true, laidLooks := .later }
def PlaceSoundUptoCardSaid : Prop := Claim7.holds Tryd.pinned (.plain (OpenSpec.upto placeSoundSpec)) placeSoundUptoCard

/-- THE SECOND FORM's CARD OF 'linotypelaw36.CtrlDoes'. -/
def ctrlDoesUptoCard : Claim7 := { stood := { row := ctrlDoesUptoRow, standIns := [], harness := (true, "34990a40c16bc5caa9be47befadb6f91827606a13e5d9ac5a23ddc8a36ac3d0b"), looks := true }, kinds := [], alts := [], laidByText := true, laidKinds := [.sentinel, .sentinel], laidTests := true, laidLooks := .later }
def CtrlDoesUptoCardSaid : Prop := Claim7.holds Tryd.pinned (.plain (OpenSpec.upto ctrlDoesSpec)) ctrlDoesUptoCard

/-- THE SECOND FORM's CARD OF 'linotypelaw39.SizeTurns'. -/
def sizeTurnsUptoCard : Claim7 := { stood := { row := sizeTurnsUptoRow, standIns := [], harness := (true, "34990a40c16bc5caa9be47befadb6f91827606a13e5d9ac5a23ddc8a36ac3d0b"), looks := true }, kinds := [], alts := [], laidByText := true, laidKinds := [.sentinel, .sentinel], laidTests := true, laidLooks := .later }
def SizeTurnsUptoCardSaid : Prop := Claim7.holds Tryd.pinned (.plain (OpenSpec.upto sizeTurnsSpec)) sizeTurnsUptoCard

/-- THE SECOND FORM's CARD OF 'linotypelaw39.SizeKeeps'. -/
def sizeKeepsUptoCard : Claim7 := { stood := { row := sizeKeepsUptoRow, standIns := [], harness := (true, "34990a40c16bc5caa9be47befadb6f91827606a13e5d9ac5a23ddc8a36ac3d0b"), looks := true }, kinds := [], alts := [], laidByText := true, laidKinds := [.sentinel, .sentinel], laidTests := true, laidLooks := .later }
def SizeKeepsUptoCardSaid : Prop := Claim7.holds Tryd.pinned (.plain (OpenSpec.upto sizeKeepsSpec)) sizeKeepsUptoCard

/-- THE SECOND FORM's CARD OF 'linotypelaw35.WidenNone'. -/
def widenNoneUptoCard : Claim7 := { stood := { row := widenNoneUptoRow, standIns := [], harness := (true, "34990a40c16bc5caa9be47befadb6f91827606a13e5d9ac5a23ddc8a36ac3d0b"), looks := true }, kinds := [], alts := [], laidByText := true, laidKinds := [.sentinel, .sentinel], laidTests := true, laidLooks := .later }
def WidenNoneUptoCardSaid : Prop := Claim7.holds Tryd.pinned (.plain (OpenSpec.upto widenNoneSpec)) widenNoneUptoCard
end Rows
end Go.Proofs.YtohpkblleihmaaaDoor
