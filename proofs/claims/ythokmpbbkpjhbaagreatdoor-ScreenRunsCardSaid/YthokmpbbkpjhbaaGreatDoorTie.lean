/-
  DERIVED. GIVEN WITH THE SEED: THE PROGRAM's TIES (one call each: nine closed facts by the kernel) AND EACH ROW's TIE, after the 31st guide's Derived/Test/Toyas{Tie, Card}.lean. No idea stands in it: it is a product of the set-up. Laid BY PROGRAM, IN A SANDBOX (cutbox-door.mjs). By AI agents, Wed Nov 11 2026. No macro, syntax, notation, axiom, sorry.
-/
import Derived.Test.YthokmpbbkpjhbaaGreatDoorRows
import Derived.LaidByTextLater
import Derived.SevenTiedAt
import Derived.LaidSub
import Derived.LaidOnce
namespace Go.Proofs.YthokmpbbkpjhbaaGreatDoor
open Go
set_option maxRecDepth 100000
theorem seatTie1 : Tryz.prog.laidByTextLater [("errors.errorType", Rows.laid_errors_errorType), ("linotype/api.ErrScalar", Rows.laid_linotype_api_ErrScalar), ("linotype/api.ErrForm", Rows.laid_linotype_api_ErrForm), ("linotype/api.ErrRange", Rows.laid_linotype_api_ErrRange), ("linotype/api.ErrLong", Rows.laid_linotype_api_ErrLong), ("linotype/api.ErrKind", Rows.laid_linotype_api_ErrKind), ("linotype/api.ErrWord", Rows.laid_linotype_api_ErrWord), ("linotype/api.ErrFull", Rows.laid_linotype_api_ErrFull), ("linotype/api.ErrNone", Rows.laid_linotype_api_ErrNone)] [.handle, .sentinel, .sentinel, .sentinel, .sentinel, .sentinel, .sentinel, .sentinel, .sentinel] true :=
  Program.laidByTextLater_by_one 168 8 2 (by kernel_rfl) (by kernel_rfl) (by kernel_rfl) (by kernel_rfl) (by kernel_rfl) (by kernel_rfl) (fun _ _ => by kernel_rfl)
theorem noOwnUnsafe : Tryz.pinned.checked.prog.headLifts.contains "ownunsafe" = false := by kernel_rfl
theorem tie : Tryz.prog.laidByTextLater [("linotype/api.ErrRange", Rows.laid_linotype_api_ErrRange), ("linotype/api.ErrKind", Rows.laid_linotype_api_ErrKind)] [.sentinel, .sentinel] true :=
  Program.laidByTextLater.sub seatTie1 ["linotype/api.ErrRange", "linotype/api.ErrKind"] (by kernel_rfl) (by kernel_rfl)
theorem widenGrows_row_tie : Rows.widenGrowsRow.laidByTextAt .later Tryz.pinned [.sentinel, .sentinel] true :=
  OpenClaim.laidByTextAt_later rfl rfl tie noOwnUnsafe
theorem feedNone_row_tie : Rows.feedNoneRow.laidByTextAt .later Tryz.pinned [.sentinel, .sentinel] true :=
  OpenClaim.laidByTextAt_later rfl rfl tie noOwnUnsafe
theorem feedPlays_row_tie : Rows.feedPlaysRow.laidByTextAt .later Tryz.pinned [.sentinel, .sentinel] true :=
  OpenClaim.laidByTextAt_later rfl rfl tie noOwnUnsafe
theorem tie2 : Tryz.prog.laidByTextLater [("linotype/api.ErrScalar", Rows.laid_linotype_api_ErrScalar), ("linotype/api.ErrForm", Rows.laid_linotype_api_ErrForm), ("linotype/api.ErrRange", Rows.laid_linotype_api_ErrRange), ("linotype/api.ErrLong", Rows.laid_linotype_api_ErrLong), ("linotype/api.ErrKind", Rows.laid_linotype_api_ErrKind), ("linotype/api.ErrWord", Rows.laid_linotype_api_ErrWord), ("linotype/api.ErrFull", Rows.laid_linotype_api_ErrFull), ("linotype/api.ErrNone", Rows.laid_linotype_api_ErrNone)] [.sentinel, .sentinel, .sentinel, .sentinel, .sentinel, .sentinel, .sentinel, .sentinel] true :=
  Program.laidByTextLater.sub seatTie1 ["linotype/api.ErrScalar", "linotype/api.ErrForm", "linotype/api.ErrRange", "linotype/api.ErrLong", "linotype/api.ErrKind", "linotype/api.ErrWord", "linotype/api.ErrFull", "linotype/api.ErrNone"] (by kernel_rfl) (by kernel_rfl)
theorem editPlays_row_tie : Rows.editPlaysRow.laidByTextAt .later Tryz.pinned [.sentinel, .sentinel, .sentinel, .sentinel, .sentinel, .sentinel, .sentinel, .sentinel] true :=
  OpenClaim.laidByTextAt_later rfl rfl tie2 noOwnUnsafe
theorem editSound_row_tie : Rows.editSoundRow.laidByTextAt .later Tryz.pinned [.sentinel, .sentinel, .sentinel, .sentinel, .sentinel, .sentinel, .sentinel, .sentinel] true :=
  OpenClaim.laidByTextAt_later rfl rfl tie2 noOwnUnsafe
theorem screenPlays_row_tie : Rows.screenPlaysRow.laidByTextAt .later Tryz.pinned [.sentinel, .sentinel, .sentinel, .sentinel, .sentinel, .sentinel, .sentinel, .sentinel] true :=
  OpenClaim.laidByTextAt_later rfl rfl tie2 noOwnUnsafe
theorem tie3 : Tryz.prog.laidByTextLater [("linotype/api.ErrRange", Rows.laid_linotype_api_ErrRange), ("linotype/api.ErrKind", Rows.laid_linotype_api_ErrKind), ("linotype/api.ErrNone", Rows.laid_linotype_api_ErrNone)] [.sentinel, .sentinel, .sentinel] true :=
  Program.laidByTextLater.sub seatTie1 ["linotype/api.ErrRange", "linotype/api.ErrKind", "linotype/api.ErrNone"] (by kernel_rfl) (by kernel_rfl)
theorem screenSound_row_tie : Rows.screenSoundRow.laidByTextAt .later Tryz.pinned [.sentinel, .sentinel, .sentinel] true :=
  OpenClaim.laidByTextAt_later rfl rfl tie3 noOwnUnsafe
theorem boundHolds_row_tie : Rows.boundHoldsRow.laidByTextAt .later Tryz.pinned [.sentinel, .sentinel, .sentinel] true :=
  OpenClaim.laidByTextAt_later rfl rfl tie3 noOwnUnsafe
theorem screenCuts_row_tie : Rows.screenCutsRow.laidByTextAt .later Tryz.pinned [.sentinel, .sentinel, .sentinel] true :=
  OpenClaim.laidByTextAt_later rfl rfl tie3 noOwnUnsafe
theorem tie4 : Tryz.prog.laidByTextLater [("errors.errorType", Rows.laid_errors_errorType), ("linotype/api.ErrScalar", Rows.laid_linotype_api_ErrScalar), ("linotype/api.ErrForm", Rows.laid_linotype_api_ErrForm), ("linotype/api.ErrRange", Rows.laid_linotype_api_ErrRange), ("linotype/api.ErrLong", Rows.laid_linotype_api_ErrLong), ("linotype/api.ErrKind", Rows.laid_linotype_api_ErrKind), ("linotype/api.ErrWord", Rows.laid_linotype_api_ErrWord), ("linotype/api.ErrFull", Rows.laid_linotype_api_ErrFull), ("linotype/api.ErrNone", Rows.laid_linotype_api_ErrNone)] [.handle, .sentinel, .sentinel, .sentinel, .sentinel, .sentinel, .sentinel, .sentinel, .sentinel] true :=
  Program.laidByTextLater.sub seatTie1 ["errors.errorType", "linotype/api.ErrScalar", "linotype/api.ErrForm", "linotype/api.ErrRange", "linotype/api.ErrLong", "linotype/api.ErrKind", "linotype/api.ErrWord", "linotype/api.ErrFull", "linotype/api.ErrNone"] (by kernel_rfl) (by kernel_rfl)
theorem screenRuns_row_tie : Rows.screenRunsRow.laidByTextAt .later Tryz.pinned [.handle, .sentinel, .sentinel, .sentinel, .sentinel, .sentinel, .sentinel, .sentinel, .sentinel] true :=
  OpenClaim.laidByTextAt_later rfl rfl tie4 noOwnUnsafe
theorem widenGrowsUpto_row_tie : Rows.widenGrowsUptoRow.laidByTextAt .later Tryz.pinned [.sentinel, .sentinel] true :=
  OpenClaim.laidByTextAt_later rfl rfl tie noOwnUnsafe
theorem editPlaysUpto_row_tie : Rows.editPlaysUptoRow.laidByTextAt .later Tryz.pinned [.sentinel, .sentinel, .sentinel, .sentinel, .sentinel, .sentinel, .sentinel, .sentinel] true :=
  OpenClaim.laidByTextAt_later rfl rfl tie2 noOwnUnsafe
theorem editSoundUpto_row_tie : Rows.editSoundUptoRow.laidByTextAt .later Tryz.pinned [.sentinel, .sentinel, .sentinel, .sentinel, .sentinel, .sentinel, .sentinel, .sentinel] true :=
  OpenClaim.laidByTextAt_later rfl rfl tie2 noOwnUnsafe
theorem feedNoneUpto_row_tie : Rows.feedNoneUptoRow.laidByTextAt .later Tryz.pinned [.sentinel, .sentinel] true :=
  OpenClaim.laidByTextAt_later rfl rfl tie noOwnUnsafe
theorem feedPlaysUpto_row_tie : Rows.feedPlaysUptoRow.laidByTextAt .later Tryz.pinned [.sentinel, .sentinel] true :=
  OpenClaim.laidByTextAt_later rfl rfl tie noOwnUnsafe
theorem screenSoundUpto_row_tie : Rows.screenSoundUptoRow.laidByTextAt .later Tryz.pinned [.sentinel, .sentinel, .sentinel] true :=
  OpenClaim.laidByTextAt_later rfl rfl tie3 noOwnUnsafe
theorem boundHoldsUpto_row_tie : Rows.boundHoldsUptoRow.laidByTextAt .later Tryz.pinned [.sentinel, .sentinel, .sentinel] true :=
  OpenClaim.laidByTextAt_later rfl rfl tie3 noOwnUnsafe
theorem screenCutsUpto_row_tie : Rows.screenCutsUptoRow.laidByTextAt .later Tryz.pinned [.sentinel, .sentinel, .sentinel] true :=
  OpenClaim.laidByTextAt_later rfl rfl tie3 noOwnUnsafe
theorem screenPlaysUpto_row_tie : Rows.screenPlaysUptoRow.laidByTextAt .later Tryz.pinned [.sentinel, .sentinel, .sentinel, .sentinel, .sentinel, .sentinel, .sentinel, .sentinel] true :=
  OpenClaim.laidByTextAt_later rfl rfl tie2 noOwnUnsafe
theorem screenRunsUpto_row_tie : Rows.screenRunsUptoRow.laidByTextAt .later Tryz.pinned [.handle, .sentinel, .sentinel, .sentinel, .sentinel, .sentinel, .sentinel, .sentinel, .sentinel] true :=
  OpenClaim.laidByTextAt_later rfl rfl tie4 noOwnUnsafe
end Go.Proofs.YthokmpbbkpjhbaaGreatDoor
