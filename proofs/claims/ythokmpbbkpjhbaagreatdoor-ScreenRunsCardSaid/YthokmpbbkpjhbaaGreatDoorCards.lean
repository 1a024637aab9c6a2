/-
  DERIVED. GIVEN WITH THE SEED: THE CARDS: each row of YthokmpbbkpjhbaaGreatDoorRows.lean that lists a variable, with what it lists TIED to the program's text (the seventh form; the later family's looks); each row that meets fmt, with fmt's text TOLD by the authors' own Lean function (tested against real Go, not proved from fmt's source: count such statements apart). THE CARD IS WHAT COUNTS. Prove the row's statement (the work); the ties are given (YthokmpbbkpjhbaaGreatDoorTie.lean); close each card by the builder's one call (the guide's Derived/Test/ToyasCard.lean, 'card_holds'). Laid BY PROGRAM, IN A SANDBOX (cutbox-door.mjs). By AI agents, Wed Nov 11 2026. No macro, syntax, notation, axiom, sorry.
-/
import Derived.Test.YthokmpbbkpjhbaaGreatDoorRows
import GoSem.ClaimSeven
namespace Go.Proofs.YthokmpbbkpjhbaaGreatDoor
namespace Rows

/-- THE TIED CARD OF 'linotypelaw35.WidenGrows'. -/
def widenGrowsCard : Claim7 := { stood := { row := widenGrowsRow, standIns := [], harness := (true, "bbebed138fdc759f2bd6c48282b3cfb84a5fa78613f3da562b82f15c613fb9fc"), looks := true }, kinds := [], alts := [], laidByText := true, laidKinds := [.sentinel, .sentinel], laidTests := true, laidLooks := .later }
def WidenGrowsCardSaid : Prop := Claim7.holds Tryz.pinned (.plain (OpenSpec.ofChange widenGrowsSpec)) widenGrowsCard

/-- THE TIED CARD OF 'linotypelaw38.EditPlays'. -/
def editPlaysCard : Claim7 := { stood := { row := editPlaysRow, standIns := [], harness := (true, "bbebed138fdc759f2bd6c48282b3cfb84a5fa78613f3da562b82f15c613fb9fc"), looks := true }, kinds := [], alts := [], laidByText := true, laidKinds := [.sentinel, .sentinel, .sentinel, .sentinel, .sentinel, .sentinel, .sentinel, .sentinel], laidTests := true, laidLooks := .later }
def EditPlaysCardSaid : Prop := Claim7.holds Tryz.pinned (.plain (OpenSpec.ofChange editPlaysSpec)) editPlaysCard

/-- THE TIED CARD OF 'linotypelaw38.EditSound'. -/
def editSoundCard : Claim7 := { stood := { row := editSoundRow, standIns := [], harness := (true, "bbebed138fdc759f2bd6c48282b3cfb84a5fa78613f3da562b82f15c613fb9fc"), looks := true }, kinds := [], alts := [], laidByText := true, laidKinds := [.sentinel, .sentinel, .sentinel, .sentinel, .sentinel, .sentinel, .sentinel, .sentinel], laidTests := true, laidLooks := .later }
def EditSoundCardSaid : Prop := Claim7.holds Tryz.pinned (.plain (OpenSpec.ofChange editSoundSpec)) editSoundCard

/-- THE TIED CARD OF 'linotypelaw37.FeedNone'. -/
def feedNoneCard : Claim7 := { stood := { row := feedNoneRow, standIns := [], harness := (true, "bbebed138fdc759f2bd6c48282b3cfb84a5fa78613f3da562b82f15c613fb9fc"), looks := true }, kinds := [], alts := [], laidByText := true, laidKinds := [.sentinel, .sentinel], laidTests := true, laidLooks := .later }
def FeedNoneCardSaid : Prop := Claim7.holds Tryz.pinned (.plain (OpenSpec.ofChange feedNoneSpec)) feedNoneCard

/-- THE TIED CARD OF 'linotypelaw37.FeedPlays'. -/
def feedPlaysCard : Claim7 := { stood := { row := feedPlaysRow, standIns := [], harness := (true, "bbebed138fdc759f2bd6c48282b3cfb84a5fa78613f3da562b82f15c613fb9fc"), looks := true }, kinds := [], alts := [], laidByText := true, laidKinds := [.sentinel, .sentinel], laidTests := true, laidLooks := .later }
def FeedPlaysCardSaid : Prop := Claim7.holds Tryz.pinned (.plain (OpenSpec.ofChange feedPlaysSpec)) feedPlaysCard

/-- THE TIED CARD OF 'linotypelaw40.ScreenSound'. -/
def screenSoundCard : Claim7 := { stood := { row := screenSoundRow, standIns := [], harness := (true, "bbebed138fdc759f2bd6c48282b3cfb84a5fa78613f3da562b82f15c613fb9fc"), looks := true }, kinds := [], alts := [], laidByText := true, laidKinds := [.sentinel, .sentinel, .sentinel], laidTests := true, laidLooks := .later }
def ScreenSoundCardSaid : Prop := Claim7.holds Tryz.pinned (.plain (OpenSpec.ofChange screenSoundSpec)) screenSoundCard

/-- THE TIED CARD OF 'linotypelaw48.BoundHolds'. -/
def boundHoldsCard : Claim7 := { stood := { row := boundHoldsRow, standIns := [], harness := (true, "bbebed138fdc759f2bd6c48282b3cfb84a5fa78613f3da562b82f15c613fb9fc"), looks := true }, kinds := [], alts := [], laidByText := true, laidKinds := [.sentinel, .sentinel, .sentinel], laidTests := true, laidLooks := .later }
def BoundHoldsCardSaid : Prop := Claim7.holds Tryz.pinned (.plain (OpenSpec.ofChange boundHoldsSpec)) boundHoldsCard

/-- THE TIED CARD OF 'linotypelaw40.ScreenCuts'. -/
def screenCutsCard : Claim7 := { stood := { row := screenCutsRow, standIns := [], harness := (true, "bbebed138fdc759f2bd6c48282b3cfb84a5fa78613f3da562b82f15c613fb9fc"), looks := true }, kinds := [], alts := [], laidByText := true, laidKinds := [.sentinel, .sentinel, .sentinel], laidTests := true, laidLooks := .later }
def ScreenCutsCardSaid : Prop := Claim7.holds Tryz.pinned (.plain (OpenSpec.ofChange screenCutsSpec)) screenCutsCard

/-- THE TIED CARD OF 'linotypelaw40.ScreenPlays'. -/
def screenPlaysCard : Claim7 := { stood := { row := screenPlaysRow, standIns := [], harness := (true, "bbebed138fdc759f2bd6c48282b3cfb84a5fa78613f3da562b82f15c613fb9fc"), looks := true }, kinds := [], alts := [], laidByText := true, laidKinds := [.sentinel, .sentinel, .sentinel, .sentinel, .sentinel, .sentinel, .sentinel, .sentinel], laidTests := true, laidLooks := .later }
def ScreenPlaysCardSaid : Prop := Claim7.holds Tryz.pinned (.plain (OpenSpec.ofChange screenPlaysSpec)) screenPlaysCard

/-- THE TIED CARD OF 'linotypelaw40.ScreenRuns'. -/
def screenRunsCard : Claim7 := { stood := { row := screenRunsRow, standIns := [], harness := (true, "bbebed138fdc759f2bd6c48282b3cfb84a5fa78613f3da562b82f15c613fb9fc"), looks := true }, kinds := [], alts := [], laidByText := true, laidKinds := [.handle, .sentinel, .sentinel, .sentinel, .sentinel, .sentinel, .sentinel, .sentinel, .sentinel], laidTests := true, laidLooks := .later }
def ScreenRunsCardSaid : Prop := Claim7.holds Tryz.pinned (.plain (OpenSpec.ofChange screenRunsSpec)) screenRunsCard

/-- THE SECOND FORM's CARD OF 'linotypelaw35.WidenGrows'. -/
def widenGrowsUptoCard : Claim7 := { stood := { row := widenGrowsUptoRow, standIns := [], harness := (true, "bbebed138fdc759f2bd6c48282b3cfb84a5fa78613f3da562b82f15c613fb9fc"), looks := true }, kinds := [], alts := [], laidByText := true, laidKinds := [.sentinel, .sentinel], laidTests := true, laidLooks := .later }
def WidenGrowsUptoCardSaid : Prop := Claim7.holds Tryz.pinned (.plain (OpenSpec.upto widenGrowsSpec)) widenGrowsUptoCard

/-- THE SECOND FORM's CARD OF 'linotypelaw38.EditPlays'. -/
def editPlaysUptoCard : Claim7 := { stood := { row := editPlaysUptoRow, standIns := [], harness := (true, "bbebed138fdc759f2bd6c48282b3cfb84a5fa78613f3da562b82f15c613fb9fc"), looks := true }, kinds := [], alts := [], laidByText := true, laidKinds := [.sentinel, .sentinel, .sentinel, .sentinel, .sentinel, .sentinel, .sentinel, .sentinel], laidTests := true, laidLooks := .later }
def EditPlaysUptoCardSaid : Prop := Claim7.holds Tryz.pinned (.plain (OpenSpec.upto editPlaysSpec)) editPlaysUptoCard

/-- THE SECOND FORM's CARD OF 'linotypelaw38.EditSound'. -/
def editSoundUptoCard : Claim7 := { stood := { row := editSoundUptoRow, standIns := [], harness := (true, "bbebed138fdc759f2bd6c48282b3cfb84a5fa78613f3da562b82f15c613fb9fc"), looks := true }, kinds := [], alts := [], laidByText := true, laidKinds := [.sentinel, .sentinel, .sentinel, .sentinel, .sentinel, .sentinel, .sentinel, .sentinel], laidTests := true, laidLooks := .later }
def EditSoundUptoCardSaid : Prop := Claim7.holds Tryz.pinned (.plain (OpenSpec.upto editSoundSpec)) editSoundUptoCard

/-- THE SECOND FORM's CARD OF 'linotypelaw37.FeedNone'. -/
def feedNoneUptoCard : Claim7 := { stood := { row := feedNoneUptoRow, standIns := [], harness := (true, "bbebed138fdc759f2bd6c48282b3cfb84a5fa78613f3da562b82f15c613fb9fc"), looks := true }, kinds := [], alts := [], laidByText := true, laidKinds := [.sentinel, .sentinel], laidTests := true, laidLooks := .later }
def FeedNoneUptoCardSaid : Prop := Claim7.holds Tryz.pinned (.plain (OpenSpec.upto feedNoneSpec)) feedNoneUptoCard

/-- THE SECOND FORM's CARD OF 'linotypelaw37.FeedPlays'. -/
def feedPlaysUptoCard : Claim7 := { stood := { row := feedPlaysUptoRow, standIns := [], harness := (true, "bbebed138fdc759f2bd6c48282b3cfb84a5fa78613f3da562b82f15c613fb9fc"), looks := true }, kinds := [], alts := [], laidByText := true, laidKinds := [.sentinel, .sentinel], laidTests := true, laidLooks := .later }
def FeedPlaysUptoCardSaid : Prop := Claim7.holds Tryz.pinned (.plain (OpenSpec.upto feedPlaysSpec)) feedPlaysUptoCard

/-- THE SECOND FORM's CARD OF 'linotypelaw40.ScreenSound'. -/
def screenSoundUptoCard : Claim7 := { stood := { row := screenSoundUptoRow, standIns := [], harness := (true, "bbebed138fdc759f2bd6c48282b3cfb84a5fa78613f3da562b82f15c613fb9fc"), looks := true }, kinds := [], alts := [], laidByText := true, laidKinds := [.sentinel, .sentinel, .sentinel], laidTests := true, laidLooks := .later }
def ScreenSoundUptoCardSaid : Prop := Claim7.holds Tryz.pinned (.plain (OpenSpec.upto screenSoundSpec)) screenSoundUptoCard

/-- THE SECOND FORM's CARD OF 'linotypelaw48.BoundHolds'. -/
def boundHoldsUptoCard : Claim7 := { stood := { row := boundHoldsUptoRow, standIns := [], harness := (true, "bbebed138fdc759f2bd6c48282b3cfb84a5fa78613f3da562b82f15c613fb9fc"), looks := true }, kinds := [], alts := [], laidByText := true, laidKinds := [.sentinel, .sentinel, .sentinel], laidTests := true, laidLooks := .later }
def BoundHoldsUptoCardSaid : Prop := Claim7.holds Tryz.pinned (.plain (OpenSpec.upto boundHoldsSpec)) boundHoldsUptoCard

/-- THE SECOND FORM's CARD OF 'linotypelaw40.ScreenCuts'. -/
def screenCutsUptoCard : Claim7 := { stood := { row := screenCutsUptoRow, standIns := [], harness := (true, "bbebed138fdc759f2bd6c48282b3cfb84a5fa78613f3da562b82f15c613fb9fc"), looks := true }, kinds := [], alts := [], laidByText := true, laidKinds := [.sentinel, .sentinel, .sentinel], laidTests := true, laidLooks := .later }
def ScreenCutsUptoCardSaid : Prop := Claim7.holds Tryz.pinned (.plain (OpenSpec.upto screenCutsSpec)) screenCutsUptoCard

/-- THE SECOND FORM's CARD OF 'linotypelaw40.ScreenPlays'. -/
def screenPlaysUptoCard : Claim7 := { stood := { row := screenPlaysUptoRow, standIns := [], harness := (true, "bbebed138fdc759f2bd6c48282b3cfb84a5fa78613f3da562b82f15c613fb9fc"), looks := true }, kinds := [], alts := [], laidByText := true, laidKinds := [.sentinel, .sentinel, .sentinel, .sentinel, .sentinel, .sentinel, .sentinel, .sentinel], laidTests := true, laidLooks := .later }
def ScreenPlaysUptoCardSaid : Prop := Claim7.holds Tryz.pinned (.plain (OpenSpec.upto screenPlaysSpec)) screenPlaysUptoCard

/-- THE SECOND FORM's CARD OF 'linotypelaw40.ScreenRuns'. -/
def screenRunsUptoCard : Claim7 := { stood := { row := screenRunsUptoRow, standIns := [], harness := (true, "bbebed138fdc759f2bd6c48282b3cfb84a5fa78613f3da562b82f15c613fb9fc"), looks := true }, kinds := [], alts := [], laidByText := true, laidKinds := [.handle, .sentinel, .sentinel, .sentinel, .sentinel, .sentinel, .sentinel, .sentinel, .sentinel], laidTests := true, laidLooks := .later }
def ScreenRunsUptoCardSaid : Prop := Claim7.holds Tryz.pinned (.plain (OpenSpec.upto screenRunsSpec)) screenRunsUptoCard
end Rows
end Go.Proofs.YthokmpbbkpjhbaaGreatDoor
