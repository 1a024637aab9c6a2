/-
  NARROWER THAN 'FOR EVERY INPUT', by the rows' own cells (each row's printed sentence says how): WidenGrows: laid · EditPlays: laid · EditSound: laid · FeedNone: laid · FeedPlays: laid · ScreenSound: laid · BoundHolds: laid · ScreenCuts: laid · ScreenPlays: laid · ScreenRuns: laid.
  DERIVED. THE GIVEN ROWS OF THIS SEAT. 10 by the template 'for every input the law returns true; each argument reads behind the call as it read before'; 0 by the template 'total and deterministic' (their statements: YthokmpbbkpjhbaaGreatDoorTotals.lean).
  GIVEN WITH THE SEED: the statements are not yours to turn. If you find one false, say at which input.
  Laid BY PROGRAM, IN A SANDBOX (cutbox-rows.mjs): the forced cells as the released guide's own fill.sh prints them over the translation 09bc0584cad89078… (all of the seat's roots in one cut). By AI agents, Wed Nov 11 2026. No macro, syntax, notation, axiom, sorry.
-/
import Derived.Test.YthokmpbbkpjhbaaGreatDoorChecked
import GoSem.Claim
import GoSem.ClaimJoined
import GoSem.ClaimMapViews
import Derived.JoinedTies
import Derived.KernelRfl
namespace Go.Proofs.YthokmpbbkpjhbaaGreatDoor
/- THE CELL 'sum', in the pinned program and in every row, IS THE sha256 OF THE DUMP (.gsa) THAT YthokmpbbkpjhbaaGreatDoorProg.lean LOADS. Nothing in Lean hashes anything: it is a label: what it is worth is what the hold of that sum in a sandbox is worth. -/
noncomputable def Tryz.pinned : Pinned := { name := "ythokmpbbkpjhbaagreatdoor", sum := "09bc0584cad8907877351636dd3ae1a7c871ebe79978f2448847dc80eb48f9e4", checked := Tryz.checked }
namespace Rows
def none {H : Type} : Left H := { results := [], args := [] }

/- WHAT THE LISTED PACKAGE-LEVEL VARIABLES READ AS WHEN THE CALL BEGINS. Each datum BY PROGRAM (the guide's laid-datum.mjs) off the statement by which the dump's own 'gosem.cut.vars' lays the variable. In a bare row this is a premise. The card (YthokmpbbkpjhbaaGreatDoorCards.lean) ties it to the program's text. -/
def laid_linotype_api_ErrRange {H : Type} : DataW H := .iface "*errors.errorString" (.ptr (.agg [.lit (.string [114, 97, 110, 103, 101])]))
def laid_linotype_api_ErrKind {H : Type} : DataW H := .iface "*errors.errorString" (.ptr (.agg [.lit (.string [107, 105, 110, 100])]))
def laid_linotype_api_ErrScalar {H : Type} : DataW H := .iface "*errors.errorString" (.ptr (.agg [.lit (.string [115, 99, 97, 108, 97, 114])]))
def laid_linotype_api_ErrForm {H : Type} : DataW H := .iface "*errors.errorString" (.ptr (.agg [.lit (.string [102, 111, 114, 109])]))
def laid_linotype_api_ErrLong {H : Type} : DataW H := .iface "*errors.errorString" (.ptr (.agg [.lit (.string [108, 111, 110, 103])]))
def laid_linotype_api_ErrWord {H : Type} : DataW H := .iface "*errors.errorString" (.ptr (.agg [.lit (.string [119, 111, 114, 100])]))
def laid_linotype_api_ErrFull {H : Type} : DataW H := .iface "*errors.errorString" (.ptr (.agg [.lit (.string [102, 117, 108, 108])]))
def laid_linotype_api_ErrNone {H : Type} : DataW H := .iface "*errors.errorString" (.ptr (.agg [.lit (.string [110, 111, 110, 101])]))
def laid_errors_errorType {H : Type} : DataW H := .iface "internal/reflectlite.rtype" (.agg [.ptr (.lit (.string [101, 114, 114, 111, 114]))])

/-- 'linotypelaw35.WidenGrows': WHATEVER THE INPUT: true; the input reads as it did. -/
def widenGrowsSpec : ChangeSpec := { name := "widenGrows", fn := fun _ => fun
  | [d1, d2, d3] => { results := [.lit (.bool true)], args := [d1, d2, d3] }
  | _ => none }
def widenGrowsRow : OpenClaim := { program := "ythokmpbbkpjhbaagreatdoor", sum := "09bc0584cad8907877351636dd3ae1a7c871ebe79978f2448847dc80eb48f9e4", func := "linotype/linotypelaw35.WidenGrows", spec := "widenGrows", unfollowed := true, recurses := true, named := ["linotype/api.ErrRange", "linotype/api.ErrKind"], apart := false, laid := [("linotype/api.ErrRange", laid_linotype_api_ErrRange), ("linotype/api.ErrKind", laid_linotype_api_ErrKind)] }
def WidenGrowsSaid : Prop := widenGrowsRow.holds Tryz.pinned (OpenSpec.ofChange widenGrowsSpec)

/-- ITS FALSE NEIGHBOUR: 'it returns false'. Refute it at one input. -/
def widenGrowsWrong : ChangeSpec := { name := "widenGrows", fn := fun _ => fun
  | [d1, d2, d3] => { results := [.lit (.bool false)], args := [d1, d2, d3] }
  | _ => none }
def WidenGrowsWrongFalsely : Prop := widenGrowsRow.holds Tryz.pinned (OpenSpec.ofChange widenGrowsWrong)

/-- 'linotypelaw38.EditPlays': WHATEVER THE INPUT: true; the input reads as it did. -/
def editPlaysSpec : ChangeSpec := { name := "editPlays", fn := fun _ => fun
  | [d1, d2] => { results := [.lit (.bool true)], args := [d1, d2] }
  | _ => none }
def editPlaysRow : OpenClaim := { program := "ythokmpbbkpjhbaagreatdoor", sum := "09bc0584cad8907877351636dd3ae1a7c871ebe79978f2448847dc80eb48f9e4", func := "linotype/linotypelaw38.EditPlays", spec := "editPlays", inPlace := ["slices.overlaps[linotype/api.Cell]", "internal/reflectlite.TypeOf"], unfollowed := true, recurses := true, named := ["linotype/api.ErrRange", "linotype/api.ErrKind", "linotype/api.ErrScalar", "linotype/api.ErrForm", "linotype/api.ErrLong", "linotype/api.ErrWord", "linotype/api.ErrFull", "linotype/api.ErrNone"], apart := false, laid := [("linotype/api.ErrScalar", laid_linotype_api_ErrScalar), ("linotype/api.ErrForm", laid_linotype_api_ErrForm), ("linotype/api.ErrRange", laid_linotype_api_ErrRange), ("linotype/api.ErrLong", laid_linotype_api_ErrLong), ("linotype/api.ErrKind", laid_linotype_api_ErrKind), ("linotype/api.ErrWord", laid_linotype_api_ErrWord), ("linotype/api.ErrFull", laid_linotype_api_ErrFull), ("linotype/api.ErrNone", laid_linotype_api_ErrNone)] }
def EditPlaysSaid : Prop := editPlaysRow.holds Tryz.pinned (OpenSpec.ofChange editPlaysSpec)

/-- ITS FALSE NEIGHBOUR: 'it returns false'. Refute it at one input. -/
def editPlaysWrong : ChangeSpec := { name := "editPlays", fn := fun _ => fun
  | [d1, d2] => { results := [.lit (.bool false)], args := [d1, d2] }
  | _ => none }
def EditPlaysWrongFalsely : Prop := editPlaysRow.holds Tryz.pinned (OpenSpec.ofChange editPlaysWrong)

/-- 'linotypelaw38.EditSound': WHATEVER THE INPUT: true; the input reads as it did. -/
def editSoundSpec : ChangeSpec := { name := "editSound", fn := fun _ => fun
  | [d1, d2] => { results := [.lit (.bool true)], args := [d1, d2] }
  | _ => none }
def editSoundRow : OpenClaim := { program := "ythokmpbbkpjhbaagreatdoor", sum := "09bc0584cad8907877351636dd3ae1a7c871ebe79978f2448847dc80eb48f9e4", func := "linotype/linotypelaw38.EditSound", spec := "editSound", inPlace := ["slices.overlaps[linotype/api.Cell]", "internal/reflectlite.TypeOf"], unfollowed := true, recurses := true, named := ["linotype/api.ErrRange", "linotype/api.ErrKind", "linotype/api.ErrScalar", "linotype/api.ErrForm", "linotype/api.ErrLong", "linotype/api.ErrWord", "linotype/api.ErrFull", "linotype/api.ErrNone"], apart := false, laid := [("linotype/api.ErrScalar", laid_linotype_api_ErrScalar), ("linotype/api.ErrForm", laid_linotype_api_ErrForm), ("linotype/api.ErrRange", laid_linotype_api_ErrRange), ("linotype/api.ErrLong", laid_linotype_api_ErrLong), ("linotype/api.ErrKind", laid_linotype_api_ErrKind), ("linotype/api.ErrWord", laid_linotype_api_ErrWord), ("linotype/api.ErrFull", laid_linotype_api_ErrFull), ("linotype/api.ErrNone", laid_linotype_api_ErrNone)] }
def EditSoundSaid : Prop := editSoundRow.holds Tryz.pinned (OpenSpec.ofChange editSoundSpec)

/-- ITS FALSE NEIGHBOUR: 'it returns false'. Refute it at one input. -/
def editSoundWrong : ChangeSpec := { name := "editSound", fn := fun _ => fun
  | [d1, d2] => { results := [.lit (.bool false)], args := [d1, d2] }
  | _ => none }
def EditSoundWrongFalsely : Prop := editSoundRow.holds Tryz.pinned (OpenSpec.ofChange editSoundWrong)

/-- 'linotypelaw37.FeedNone': WHATEVER THE INPUT: true; the input reads as it did. -/
def feedNoneSpec : ChangeSpec := { name := "feedNone", fn := fun _ => fun
  | [d1, d2] => { results := [.lit (.bool true)], args := [d1, d2] }
  | _ => none }
def feedNoneRow : OpenClaim := { program := "ythokmpbbkpjhbaagreatdoor", sum := "09bc0584cad8907877351636dd3ae1a7c871ebe79978f2448847dc80eb48f9e4", func := "linotype/linotypelaw37.FeedNone", spec := "feedNone", unfollowed := true, recurses := true, named := ["linotype/api.ErrRange", "linotype/api.ErrKind"], apart := false, laid := [("linotype/api.ErrRange", laid_linotype_api_ErrRange), ("linotype/api.ErrKind", laid_linotype_api_ErrKind)] }
def FeedNoneSaid : Prop := feedNoneRow.holds Tryz.pinned (OpenSpec.ofChange feedNoneSpec)

/-- ITS FALSE NEIGHBOUR: 'it returns false'. Refute it at one input. -/
def feedNoneWrong : ChangeSpec := { name := "feedNone", fn := fun _ => fun
  | [d1, d2] => { results := [.lit (.bool false)], args := [d1, d2] }
  | _ => none }
def FeedNoneWrongFalsely : Prop := feedNoneRow.holds Tryz.pinned (OpenSpec.ofChange feedNoneWrong)

/-- 'linotypelaw37.FeedPlays': WHATEVER THE INPUT: true; the input reads as it did. -/
def feedPlaysSpec : ChangeSpec := { name := "feedPlays", fn := fun _ => fun
  | [d1, d2, d3] => { results := [.lit (.bool true)], args := [d1, d2, d3] }
  | _ => none }
def feedPlaysRow : OpenClaim := { program := "ythokmpbbkpjhbaagreatdoor", sum := "09bc0584cad8907877351636dd3ae1a7c871ebe79978f2448847dc80eb48f9e4", func := "linotype/linotypelaw37.FeedPlays", spec := "feedPlays", unfollowed := true, recurses := true, named := ["linotype/api.ErrRange", "linotype/api.ErrKind"], apart := false, laid := [("linotype/api.ErrRange", laid_linotype_api_ErrRange), ("linotype/api.ErrKind", laid_linotype_api_ErrKind)] }
def FeedPlaysSaid : Prop := feedPlaysRow.holds Tryz.pinned (OpenSpec.ofChange feedPlaysSpec)

/-- ITS FALSE NEIGHBOUR: 'it returns false'. Refute it at one input. -/
def feedPlaysWrong : ChangeSpec := { name := "feedPlays", fn := fun _ => fun
  | [d1, d2, d3] => { results := [.lit (.bool false)], args := [d1, d2, d3] }
  | _ => none }
def FeedPlaysWrongFalsely : Prop := feedPlaysRow.holds Tryz.pinned (OpenSpec.ofChange feedPlaysWrong)

/-- 'linotypelaw40.ScreenSound': WHATEVER THE INPUT: true; the input reads as it did. -/
def screenSoundSpec : ChangeSpec := { name := "screenSound", fn := fun _ => fun
  | [d1, d2] => { results := [.lit (.bool true)], args := [d1, d2] }
  | _ => none }
def screenSoundRow : OpenClaim := { program := "ythokmpbbkpjhbaagreatdoor", sum := "09bc0584cad8907877351636dd3ae1a7c871ebe79978f2448847dc80eb48f9e4", func := "linotype/linotypelaw40.ScreenSound", spec := "screenSound", inPlace := ["slices.overlaps[linotype/api.Cell]"], unfollowed := true, recurses := true, named := ["linotype/api.ErrNone", "linotype/api.ErrRange", "linotype/api.ErrKind"], apart := false, laid := [("linotype/api.ErrRange", laid_linotype_api_ErrRange), ("linotype/api.ErrKind", laid_linotype_api_ErrKind), ("linotype/api.ErrNone", laid_linotype_api_ErrNone)] }
def ScreenSoundSaid : Prop := screenSoundRow.holds Tryz.pinned (OpenSpec.ofChange screenSoundSpec)

/-- ITS FALSE NEIGHBOUR: 'it returns false'. Refute it at one input. -/
def screenSoundWrong : ChangeSpec := { name := "screenSound", fn := fun _ => fun
  | [d1, d2] => { results := [.lit (.bool false)], args := [d1, d2] }
  | _ => none }
def ScreenSoundWrongFalsely : Prop := screenSoundRow.holds Tryz.pinned (OpenSpec.ofChange screenSoundWrong)

/-- 'linotypelaw48.BoundHolds': WHATEVER THE INPUT: true; the input reads as it did. -/
def boundHoldsSpec : ChangeSpec := { name := "boundHolds", fn := fun _ => fun
  | [d1, d2] => { results := [.lit (.bool true)], args := [d1, d2] }
  | _ => none }
def boundHoldsRow : OpenClaim := { program := "ythokmpbbkpjhbaagreatdoor", sum := "09bc0584cad8907877351636dd3ae1a7c871ebe79978f2448847dc80eb48f9e4", func := "linotype/linotypelaw48.BoundHolds", spec := "boundHolds", inPlace := ["slices.overlaps[linotype/api.Cell]"], unfollowed := true, recurses := true, named := ["linotype/api.ErrNone", "linotype/api.ErrRange", "linotype/api.ErrKind"], apart := false, laid := [("linotype/api.ErrRange", laid_linotype_api_ErrRange), ("linotype/api.ErrKind", laid_linotype_api_ErrKind), ("linotype/api.ErrNone", laid_linotype_api_ErrNone)] }
def BoundHoldsSaid : Prop := boundHoldsRow.holds Tryz.pinned (OpenSpec.ofChange boundHoldsSpec)

/-- ITS FALSE NEIGHBOUR: 'it returns false'. Refute it at one input. -/
def boundHoldsWrong : ChangeSpec := { name := "boundHolds", fn := fun _ => fun
  | [d1, d2] => { results := [.lit (.bool false)], args := [d1, d2] }
  | _ => none }
def BoundHoldsWrongFalsely : Prop := boundHoldsRow.holds Tryz.pinned (OpenSpec.ofChange boundHoldsWrong)

/-- 'linotypelaw40.ScreenCuts': WHATEVER THE INPUT: true; the input reads as it did. -/
def screenCutsSpec : ChangeSpec := { name := "screenCuts", fn := fun _ => fun
  | [d1, d2, d3] => { results := [.lit (.bool true)], args := [d1, d2, d3] }
  | _ => none }
def screenCutsRow : OpenClaim := { program := "ythokmpbbkpjhbaagreatdoor", sum := "09bc0584cad8907877351636dd3ae1a7c871ebe79978f2448847dc80eb48f9e4", func := "linotype/linotypelaw40.ScreenCuts", spec := "screenCuts", inPlace := ["slices.overlaps[linotype/api.Cell]"], unfollowed := true, recurses := true, named := ["linotype/api.ErrNone", "linotype/api.ErrRange", "linotype/api.ErrKind"], apart := false, laid := [("linotype/api.ErrRange", laid_linotype_api_ErrRange), ("linotype/api.ErrKind", laid_linotype_api_ErrKind), ("linotype/api.ErrNone", laid_linotype_api_ErrNone)] }
def ScreenCutsSaid : Prop := screenCutsRow.holds Tryz.pinned (OpenSpec.ofChange screenCutsSpec)

/-- ITS FALSE NEIGHBOUR: 'it returns false'. Refute it at one input. -/
def screenCutsWrong : ChangeSpec := { name := "screenCuts", fn := fun _ => fun
  | [d1, d2, d3] => { results := [.lit (.bool false)], args := [d1, d2, d3] }
  | _ => none }
def ScreenCutsWrongFalsely : Prop := screenCutsRow.holds Tryz.pinned (OpenSpec.ofChange screenCutsWrong)

/-- 'linotypelaw40.ScreenPlays': WHATEVER THE INPUT: true; the input reads as it did. -/
def screenPlaysSpec : ChangeSpec := { name := "screenPlays", fn := fun _ => fun
  | [d1, d2] => { results := [.lit (.bool true)], args := [d1, d2] }
  | _ => none }
def screenPlaysRow : OpenClaim := { program := "ythokmpbbkpjhbaagreatdoor", sum := "09bc0584cad8907877351636dd3ae1a7c871ebe79978f2448847dc80eb48f9e4", func := "linotype/linotypelaw40.ScreenPlays", spec := "screenPlays", inPlace := ["slices.overlaps[linotype/api.Cell]", "internal/reflectlite.TypeOf"], unfollowed := true, recurses := true, named := ["linotype/api.ErrNone", "linotype/api.ErrRange", "linotype/api.ErrKind", "linotype/api.ErrScalar", "linotype/api.ErrForm", "linotype/api.ErrLong", "linotype/api.ErrWord", "linotype/api.ErrFull"], apart := false, laid := [("linotype/api.ErrScalar", laid_linotype_api_ErrScalar), ("linotype/api.ErrForm", laid_linotype_api_ErrForm), ("linotype/api.ErrRange", laid_linotype_api_ErrRange), ("linotype/api.ErrLong", laid_linotype_api_ErrLong), ("linotype/api.ErrKind", laid_linotype_api_ErrKind), ("linotype/api.ErrWord", laid_linotype_api_ErrWord), ("linotype/api.ErrFull", laid_linotype_api_ErrFull), ("linotype/api.ErrNone", laid_linotype_api_ErrNone)] }
def ScreenPlaysSaid : Prop := screenPlaysRow.holds Tryz.pinned (OpenSpec.ofChange screenPlaysSpec)

/-- ITS FALSE NEIGHBOUR: 'it returns false'. Refute it at one input. -/
def screenPlaysWrong : ChangeSpec := { name := "screenPlays", fn := fun _ => fun
  | [d1, d2] => { results := [.lit (.bool false)], args := [d1, d2] }
  | _ => none }
def ScreenPlaysWrongFalsely : Prop := screenPlaysRow.holds Tryz.pinned (OpenSpec.ofChange screenPlaysWrong)

/-- 'linotypelaw40.ScreenRuns': WHATEVER THE INPUT: true; the input reads as it did. -/
def screenRunsSpec : ChangeSpec := { name := "screenRuns", fn := fun _ => fun
  | [d1, d2] => { results := [.lit (.bool true)], args := [d1, d2] }
  | _ => none }
def screenRunsRow : OpenClaim := { program := "ythokmpbbkpjhbaagreatdoor", sum := "09bc0584cad8907877351636dd3ae1a7c871ebe79978f2448847dc80eb48f9e4", func := "linotype/linotypelaw40.ScreenRuns", spec := "screenRuns", inPlace := ["slices.overlaps[linotype/api.Cell]", "internal/reflectlite.TypeOf", "internal/reflectlite.ValueOf", "(internal/reflectlite.Value).Type", "(internal/reflectlite.Value).IsNil", "(internal/reflectlite.Value).Elem", "(internal/reflectlite.Value).Set"], unfollowed := true, recurses := true, named := ["linotype/api.ErrNone", "linotype/api.ErrRange", "linotype/api.ErrKind", "linotype/api.ErrScalar", "linotype/api.ErrForm", "linotype/api.ErrLong", "linotype/api.ErrWord", "linotype/api.ErrFull", "errors.errorType"], apart := false, laid := [("errors.errorType", laid_errors_errorType), ("linotype/api.ErrScalar", laid_linotype_api_ErrScalar), ("linotype/api.ErrForm", laid_linotype_api_ErrForm), ("linotype/api.ErrRange", laid_linotype_api_ErrRange), ("linotype/api.ErrLong", laid_linotype_api_ErrLong), ("linotype/api.ErrKind", laid_linotype_api_ErrKind), ("linotype/api.ErrWord", laid_linotype_api_ErrWord), ("linotype/api.ErrFull", laid_linotype_api_ErrFull), ("linotype/api.ErrNone", laid_linotype_api_ErrNone)] }
def ScreenRunsSaid : Prop := screenRunsRow.holds Tryz.pinned (OpenSpec.ofChange screenRunsSpec)

/-- ITS FALSE NEIGHBOUR: 'it returns false'. Refute it at one input. -/
def screenRunsWrong : ChangeSpec := { name := "screenRuns", fn := fun _ => fun
  | [d1, d2] => { results := [.lit (.bool false)], args := [d1, d2] }
  | _ => none }
def ScreenRunsWrongFalsely : Prop := screenRunsRow.holds Tryz.pinned (OpenSpec.ofChange screenRunsWrong)

/- THE SECOND FORM. 'bulk': how many values and letters a reading holds, each counted each time it is reached (what is shared counts as often as it is met; a slice's spare places count too). A statement '..UptoSaid' is the law's where the arguments, and the package variables that the reading takes, are together of bulk at most 1048576: NARROWER than '..Said'. Prove '..Said' where nothing that the law and all that it calls make is longer than what came in: it says more and counts as full. Else prove '..UptoSaid'. A law counts once. -/
mutual
def uptoBulk {H : Type} : DataW H → Nat
  | .lit (.string bytes) => bytes.length + 1
  | .lit _ => 1
  | .nil => 1
  | .ptr d => uptoBulk d + 1
  | .slice elems spare => uptoBulkAll elems + uptoBulkAll spare + 1
  | .agg parts => uptoBulkAll parts + 1
  | .iface _ d => uptoBulk d + 1
  | .map entries => uptoBulkEntries entries + 1
  | .held _ => 1
def uptoBulkAll {H : Type} : List (DataW H) → Nat
  | [] => 0
  | d :: r => uptoBulk d + uptoBulkAll r
def uptoBulkEntries {H : Type} : List (Lit × DataW H) → Nat
  | [] => 0
  | x :: r => uptoBulkEntry x + uptoBulkEntries r
def uptoBulkEntry {H : Type} : Lit × DataW H → Nat
  | (.string bytes, d) => bytes.length + uptoBulk d + 1
  | (_, d) => uptoBulk d + 1
 end
def uptoSmall : (H : Type) → List (DataW H) → Bool := fun _ ds => decide (uptoBulkAll ds ≤ 1048576)
def OpenSpec.upto (s : _root_.Go.ChangeSpec) : _root_.Go.OpenSpec := { _root_.Go.OpenSpec.ofChange s with cond := some uptoSmall }

/-- 'linotypelaw35.WidenGrows', WHERE WHAT IT READS IS OF BULK AT MOST 1048576: true; the input reads as it did. -/
def widenGrowsUptoRow : OpenClaim := { program := "ythokmpbbkpjhbaagreatdoor", sum := "09bc0584cad8907877351636dd3ae1a7c871ebe79978f2448847dc80eb48f9e4", func := "linotype/linotypelaw35.WidenGrows", spec := "widenGrows", unfollowed := true, recurses := true, named := ["linotype/api.ErrRange", "linotype/api.ErrKind"], apart := false, laid := [("linotype/api.ErrRange", laid_linotype_api_ErrRange), ("linotype/api.ErrKind", laid_linotype_api_ErrKind)], narrowed := true }
def WidenGrowsUptoSaid : Prop := widenGrowsUptoRow.holds Tryz.pinned (OpenSpec.upto widenGrowsSpec)

/-- 'linotypelaw38.EditPlays', WHERE WHAT IT READS IS OF BULK AT MOST 1048576: true; the input reads as it did. -/
def editPlaysUptoRow : OpenClaim := { program := "ythokmpbbkpjhbaagreatdoor", sum := "09bc0584cad8907877351636dd3ae1a7c871ebe79978f2448847dc80eb48f9e4", func := "linotype/linotypelaw38.EditPlays", spec := "editPlays", inPlace := ["slices.overlaps[linotype/api.Cell]", "internal/reflectlite.TypeOf"], unfollowed := true, recurses := true, named := ["linotype/api.ErrRange", "linotype/api.ErrKind", "linotype/api.ErrScalar", "linotype/api.ErrForm", "linotype/api.ErrLong", "linotype/api.ErrWord", "linotype/api.ErrFull", "linotype/api.ErrNone"], apart := false, laid := [("linotype/api.ErrScalar", laid_linotype_api_ErrScalar), ("linotype/api.ErrForm", laid_linotype_api_ErrForm), ("linotype/api.ErrRange", laid_linotype_api_ErrRange), ("linotype/api.ErrLong", laid_linotype_api_ErrLong), ("linotype/api.ErrKind", laid_linotype_api_ErrKind), ("linotype/api.ErrWord", laid_linotype_api_ErrWord), ("linotype/api.ErrFull", laid_linotype_api_ErrFull), ("linotype/api.ErrNone", laid_linotype_api_ErrNone)], narrowed := true }
def EditPlaysUptoSaid : Prop := editPlaysUptoRow.holds Tryz.pinned (OpenSpec.upto editPlaysSpec)

/-- 'linotypelaw38.EditSound', WHERE WHAT IT READS IS OF BULK AT MOST 1048576: true; the input reads as it did. -/
def editSoundUptoRow : OpenClaim := { program := "ythokmpbbkpjhbaagreatdoor", sum := "09bc0584cad8907877351636dd3ae1a7c871ebe79978f2448847dc80eb48f9e4", func := "linotype/linotypelaw38.EditSound", spec := "editSound", inPlace := ["slices.overlaps[linotype/api.Cell]", "internal/reflectlite.TypeOf"], unfollowed := true, recurses := true, named := ["linotype/api.ErrRange", "linotype/api.ErrKind", "linotype/api.ErrScalar", "linotype/api.ErrForm", "linotype/api.ErrLong", "linotype/api.ErrWord", "linotype/api.ErrFull", "linotype/api.ErrNone"], apart := false, laid := [("linotype/api.ErrScalar", laid_linotype_api_ErrScalar), ("linotype/api.ErrForm", laid_linotype_api_ErrForm), ("linotype/api.ErrRange", laid_linotype_api_ErrRange), ("linotype/api.ErrLong", laid_linotype_api_ErrLong), ("linotype/api.ErrKind", laid_linotype_api_ErrKind), ("linotype/api.ErrWord", laid_linotype_api_ErrWord), ("linotype/api.ErrFull", laid_linotype_api_ErrFull), ("linotype/api.ErrNone", laid_linotype_api_ErrNone)], narrowed := true }
def EditSoundUptoSaid : Prop := editSoundUptoRow.holds Tryz.pinned (OpenSpec.upto editSoundSpec)

/-- 'linotypelaw37.FeedNone', WHERE WHAT IT READS IS OF BULK AT MOST 1048576: true; the input reads as it did. -/
def feedNoneUptoRow : OpenClaim := { program := "ythokmpbbkpjhbaagreatdoor", sum := "09bc0584cad8907877351636dd3ae1a7c871ebe79978f2448847dc80eb48f9e4", func := "linotype/linotypelaw37.FeedNone", spec := "feedNone", unfollowed := true, recurses := true, named := ["linotype/api.ErrRange", "linotype/api.ErrKind"], apart := false, laid := [("linotype/api.ErrRange", laid_linotype_api_ErrRange), ("linotype/api.ErrKind", laid_linotype_api_ErrKind)], narrowed := true }
def FeedNoneUptoSaid : Prop := feedNoneUptoRow.holds Tryz.pinned (OpenSpec.upto feedNoneSpec)

/-- 'linotypelaw37.FeedPlays', WHERE WHAT IT READS IS OF BULK AT MOST 1048576: true; the input reads as it did. -/
def feedPlaysUptoRow : OpenClaim := { program := "ythokmpbbkpjhbaagreatdoor", sum := "09bc0584cad8907877351636dd3ae1a7c871ebe79978f2448847dc80eb48f9e4", func := "linotype/linotypelaw37.FeedPlays", spec := "feedPlays", unfollowed := true, recurses := true, named := ["linotype/api.ErrRange", "linotype/api.ErrKind"], apart := false, laid := [("linotype/api.ErrRange", laid_linotype_api_ErrRange), ("linotype/api.ErrKind", laid_linotype_api_ErrKind)], narrowed := true }
def FeedPlaysUptoSaid : Prop := feedPlaysUptoRow.holds Tryz.pinned (OpenSpec.upto feedPlaysSpec)

/-- 'linotypelaw40.ScreenSound', WHERE WHAT IT READS IS OF BULK AT MOST 1048576: true; the input reads as it did. -/
def screenSoundUptoRow : OpenClaim := { program := "ythokmpbbkpjhbaagreatdoor", sum := "09bc0584cad8907877351636dd3ae1a7c871ebe79978f2448847dc80eb48f9e4", func := "linotype/linotypelaw40.ScreenSound", spec := "screenSound", inPlace := ["slices.overlaps[linotype/api.Cell]"], unfollowed := true, recurses := true, named := ["linotype/api.ErrNone", "linotype/api.ErrRange", "linotype/api.ErrKind"], apart := false, laid := [("linotype/api.ErrRange", laid_linotype_api_ErrRange), ("linotype/api.ErrKind", laid_linotype_api_ErrKind), ("linotype/api.ErrNone", laid_linotype_api_ErrNone)], narrowed := true }
def ScreenSoundUptoSaid : Prop := screenSoundUptoRow.holds Tryz.pinned (OpenSpec.upto screenSoundSpec)

/-- 'linotypelaw48.BoundHolds', WHERE WHAT IT READS IS OF BULK AT MOST 1048576: true; the input reads as it did. -/
def boundHoldsUptoRow : OpenClaim := { program := "ythokmpbbkpjhbaagreatdoor", sum := "09bc0584cad8907877351636dd3ae1a7c871ebe79978f2448847dc80eb48f9e4", func := "linotype/linotypelaw48.BoundHolds", spec := "boundHolds", inPlace := ["slices.overlaps[linotype/api.Cell]"], unfollowed := true, recurses := true, named := ["linotype/api.ErrNone", "linotype/api.ErrRange", "linotype/api.ErrKind"], apart := false, laid := [("linotype/api.ErrRange", laid_linotype_api_ErrRange), ("linotype/api.ErrKind", laid_linotype_api_ErrKind), ("linotype/api.ErrNone", laid_linotype_api_ErrNone)], narrowed := true }
def BoundHoldsUptoSaid : Prop := boundHoldsUptoRow.holds Tryz.pinned (OpenSpec.upto boundHoldsSpec)

/-- 'linotypelaw40.ScreenCuts', WHERE WHAT IT READS IS OF BULK AT MOST 1048576: true; the input reads as it did. -/
def screenCutsUptoRow : OpenClaim := { program := "ythokmpbbkpjhbaagreatdoor", sum := "09bc0584cad8907877351636dd3ae1a7c871ebe79978f2448847dc80eb48f9e4", func := "linotype/linotypelaw40.ScreenCuts", spec := "screenCuts", inPlace := ["slices.overlaps[linotype/api.Cell]"], unfollowed := true, recurses := true, named := ["linotype/api.ErrNone", "linotype/api.ErrRange", "linotype/api.ErrKind"], apart := false, laid := [("linotype/api.ErrRange", laid_linotype_api_ErrRange), ("linotype/api.ErrKind", laid_linotype_api_ErrKind), ("linotype/api.ErrNone", laid_linotype_api_ErrNone)], narrowed := true }
def ScreenCutsUptoSaid : Prop := screenCutsUptoRow.holds Tryz.pinned (OpenSpec.upto screenCutsSpec)

/-- 'linotypelaw40.ScreenPlays', WHERE WHAT IT READS IS OF BULK AT MOST 1048576: true; the input reads as it did. -/
def screenPlaysUptoRow : OpenClaim := { program := "ythokmpbbkpjhbaagreatdoor", sum := "09bc0584cad8907877351636dd3ae1a7c871ebe79978f2448847dc80eb48f9e4", func := "linotype/linotypelaw40.ScreenPlays", spec := "screenPlays", inPlace := ["slices.overlaps[linotype/api.Cell]", "internal/reflectlite.TypeOf"], unfollowed := true, recurses := true, named := ["linotype/api.ErrNone", "linotype/api.ErrRange", "linotype/api.ErrKind", "linotype/api.ErrScalar", "linotype/api.ErrForm", "linotype/api.ErrLong", "linotype/api.ErrWord", "linotype/api.ErrFull"], apart := false, laid := [("linotype/api.ErrScalar", laid_linotype_api_ErrScalar), ("linotype/api.ErrForm", laid_linotype_api_ErrForm), ("linotype/api.ErrRange", laid_linotype_api_ErrRange), ("linotype/api.ErrLong", laid_linotype_api_ErrLong), ("linotype/api.ErrKind", laid_linotype_api_ErrKind), ("linotype/api.ErrWord", laid_linotype_api_ErrWord), ("linotype/api.ErrFull", laid_linotype_api_ErrFull), ("linotype/api.ErrNone", laid_linotype_api_ErrNone)], narrowed := true }
def ScreenPlaysUptoSaid : Prop := screenPlaysUptoRow.holds Tryz.pinned (OpenSpec.upto screenPlaysSpec)

/-- 'linotypelaw40.ScreenRuns', WHERE WHAT IT READS IS OF BULK AT MOST 1048576: true; the input reads as it did. -/
def screenRunsUptoRow : OpenClaim := { program := "ythokmpbbkpjhbaagreatdoor", sum := "09bc0584cad8907877351636dd3ae1a7c871ebe79978f2448847dc80eb48f9e4", func := "linotype/linotypelaw40.ScreenRuns", spec := "screenRuns", inPlace := ["slices.overlaps[linotype/api.Cell]", "internal/reflectlite.TypeOf", "internal/reflectlite.ValueOf", "(internal/reflectlite.Value).Type", "(internal/reflectlite.Value).IsNil", "(internal/reflectlite.Value).Elem", "(internal/reflectlite.Value).Set"], unfollowed := true, recurses := true, named := ["linotype/api.ErrNone", "linotype/api.ErrRange", "linotype/api.ErrKind", "linotype/api.ErrScalar", "linotype/api.ErrForm", "linotype/api.ErrLong", "linotype/api.ErrWord", "linotype/api.ErrFull", "errors.errorType"], apart := false, laid := [("errors.errorType", laid_errors_errorType), ("linotype/api.ErrScalar", laid_linotype_api_ErrScalar), ("linotype/api.ErrForm", laid_linotype_api_ErrForm), ("linotype/api.ErrRange", laid_linotype_api_ErrRange), ("linotype/api.ErrLong", laid_linotype_api_ErrLong), ("linotype/api.ErrKind", laid_linotype_api_ErrKind), ("linotype/api.ErrWord", laid_linotype_api_ErrWord), ("linotype/api.ErrFull", laid_linotype_api_ErrFull), ("linotype/api.ErrNone", laid_linotype_api_ErrNone)], narrowed := true }
def ScreenRunsUptoSaid : Prop := screenRunsUptoRow.holds Tryz.pinned (OpenSpec.upto screenRunsSpec)

end Rows
end Go.Proofs.YthokmpbbkpjhbaaGreatDoor
