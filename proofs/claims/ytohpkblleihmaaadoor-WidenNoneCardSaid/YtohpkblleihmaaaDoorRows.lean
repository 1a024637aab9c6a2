/-
  NARROWER THAN 'FOR EVERY INPUT', by the rows' own cells (each row's printed sentence says how): RowOwn: laid · EraseFar: laid · ErasePlays: laid · ScrollPlays: laid · ScrollFar: laid · MarkWidens: laid · RowPaints: laid · RowMakes: laid · MarkPlays: laid · BlitBack: laid · BlitPlays: laid · ShiftPlays: laid · ShiftBack: laid · PlacePlays: laid · PlaceSound: laid · CtrlDoes: laid · SizeTurns: laid · SizeKeeps: laid · WidenNone: laid.
  DERIVED. THE GIVEN ROWS OF THIS SEAT. 19 by the template 'for every input the law returns true; each argument reads behind the call as it read before'; 0 by the template 'total and deterministic' (their statements: YtohpkblleihmaaaDoorTotals.lean).
  GIVEN WITH THE SEED: the statements are not yours to turn. If you find one false, say at which input.
  Laid BY PROGRAM, IN A SANDBOX (cutbox-rows.mjs): the forced cells as the released guide's own fill.sh prints them over the translation 2f079364c5967e57… (all of the seat's roots in one cut). By AI agents, Wed Nov 11 2026. No macro, syntax, notation, axiom, sorry.
-/
import Derived.Test.YtohpkblleihmaaaDoorChecked
import GoSem.Claim
import GoSem.ClaimJoined
import GoSem.ClaimMapViews
import Derived.JoinedTies
import Derived.KernelRfl
namespace Go.Proofs.YtohpkblleihmaaaDoor
/- THE CELL 'sum', in the pinned program and in every row, IS THE sha256 OF THE DUMP (.gsa) THAT YtohpkblleihmaaaDoorProg.lean LOADS. Nothing in Lean hashes anything: it is a label: what it is worth is what the hold of that sum in a sandbox is worth. -/
noncomputable def Tryd.pinned : Pinned := { name := "ytohpkblleihmaaadoor", sum := "2f079364c5967e57d895b989821f149617538d9919cf6b89d943710e96bffeb9", checked := Tryd.checked }
namespace Rows
def none {H : Type} : Left H := { results := [], args := [] }

/- WHAT THE LISTED PACKAGE-LEVEL VARIABLES READ AS WHEN THE CALL BEGINS. Each datum BY PROGRAM (the guide's laid-datum.mjs) off the statement by which the dump's own 'gosem.cut.vars' lays the variable. In a bare row this is a premise. The card (YtohpkblleihmaaaDoorCards.lean) ties it to the program's text. -/
def laid_linotype_api_ErrRange {H : Type} : DataW H := .iface "*errors.errorString" (.ptr (.agg [.lit (.string [114, 97, 110, 103, 101])]))
def laid_linotype_api_ErrKind {H : Type} : DataW H := .iface "*errors.errorString" (.ptr (.agg [.lit (.string [107, 105, 110, 100])]))
def laid_linotype_api_ErrScalar {H : Type} : DataW H := .iface "*errors.errorString" (.ptr (.agg [.lit (.string [115, 99, 97, 108, 97, 114])]))
def laid_linotype_api_ErrForm {H : Type} : DataW H := .iface "*errors.errorString" (.ptr (.agg [.lit (.string [102, 111, 114, 109])]))
def laid_linotype_api_ErrLong {H : Type} : DataW H := .iface "*errors.errorString" (.ptr (.agg [.lit (.string [108, 111, 110, 103])]))
def laid_linotype_api_ErrWord {H : Type} : DataW H := .iface "*errors.errorString" (.ptr (.agg [.lit (.string [119, 111, 114, 100])]))
def laid_linotype_api_ErrFull {H : Type} : DataW H := .iface "*errors.errorString" (.ptr (.agg [.lit (.string [102, 117, 108, 108])]))
def laid_linotype_api_ErrNone {H : Type} : DataW H := .iface "*errors.errorString" (.ptr (.agg [.lit (.string [110, 111, 110, 101])]))

/-- 'linotypelaw24.RowOwn': WHATEVER THE INPUT: true; the input reads as it did. -/
def rowOwnSpec : ChangeSpec := { name := "rowOwn", fn := fun _ => fun
  | [d] => { results := [.lit (.bool true)], args := [d] }
  | _ => none }
def rowOwnRow : OpenClaim := { program := "ytohpkblleihmaaadoor", sum := "2f079364c5967e57d895b989821f149617538d9919cf6b89d943710e96bffeb9", func := "linotype/linotypelaw24.RowOwn", spec := "rowOwn", unfollowed := true, recurses := true, named := ["linotype/api.ErrRange", "linotype/api.ErrKind"], apart := false, laid := [("linotype/api.ErrRange", laid_linotype_api_ErrRange), ("linotype/api.ErrKind", laid_linotype_api_ErrKind)] }
def RowOwnSaid : Prop := rowOwnRow.holds Tryd.pinned (OpenSpec.ofChange rowOwnSpec)

/-- ITS FALSE NEIGHBOUR: 'it returns false'. Refute it at one input. -/
def rowOwnWrong : ChangeSpec := { name := "rowOwn", fn := fun _ => fun
  | [d] => { results := [.lit (.bool false)], args := [d] }
  | _ => none }
def RowOwnWrongFalsely : Prop := rowOwnRow.holds Tryd.pinned (OpenSpec.ofChange rowOwnWrong)

/-- 'linotypelaw26.EraseFar': WHATEVER THE INPUT: true; the input reads as it did. -/
def eraseFarSpec : ChangeSpec := { name := "eraseFar", fn := fun _ => fun
  | [d1, d2, d3] => { results := [.lit (.bool true)], args := [d1, d2, d3] }
  | _ => none }
def eraseFarRow : OpenClaim := { program := "ytohpkblleihmaaadoor", sum := "2f079364c5967e57d895b989821f149617538d9919cf6b89d943710e96bffeb9", func := "linotype/linotypelaw26.EraseFar", spec := "eraseFar", unfollowed := true, recurses := true, named := ["linotype/api.ErrRange", "linotype/api.ErrKind"], apart := false, laid := [("linotype/api.ErrRange", laid_linotype_api_ErrRange), ("linotype/api.ErrKind", laid_linotype_api_ErrKind)] }
def EraseFarSaid : Prop := eraseFarRow.holds Tryd.pinned (OpenSpec.ofChange eraseFarSpec)

/-- ITS FALSE NEIGHBOUR: 'it returns false'. Refute it at one input. -/
def eraseFarWrong : ChangeSpec := { name := "eraseFar", fn := fun _ => fun
  | [d1, d2, d3] => { results := [.lit (.bool false)], args := [d1, d2, d3] }
  | _ => none }
def EraseFarWrongFalsely : Prop := eraseFarRow.holds Tryd.pinned (OpenSpec.ofChange eraseFarWrong)

/-- 'linotypelaw26.ErasePlays': WHATEVER THE INPUT: true; the input reads as it did. -/
def erasePlaysSpec : ChangeSpec := { name := "erasePlays", fn := fun _ => fun
  | [d1, d2, d3] => { results := [.lit (.bool true)], args := [d1, d2, d3] }
  | _ => none }
def erasePlaysRow : OpenClaim := { program := "ytohpkblleihmaaadoor", sum := "2f079364c5967e57d895b989821f149617538d9919cf6b89d943710e96bffeb9", func := "linotype/linotypelaw26.ErasePlays", spec := "erasePlays", unfollowed := true, recurses := true, named := ["linotype/api.ErrRange", "linotype/api.ErrKind"], apart := false, laid := [("linotype/api.ErrRange", laid_linotype_api_ErrRange), ("linotype/api.ErrKind", laid_linotype_api_ErrKind)] }
def ErasePlaysSaid : Prop := erasePlaysRow.holds Tryd.pinned (OpenSpec.ofChange erasePlaysSpec)

/-- ITS FALSE NEIGHBOUR: 'it returns false'. Refute it at one input. -/
def erasePlaysWrong : ChangeSpec := { name := "erasePlays", fn := fun _ => fun
  | [d1, d2, d3] => { results := [.lit (.bool false)], args := [d1, d2, d3] }
  | _ => none }
def ErasePlaysWrongFalsely : Prop := erasePlaysRow.holds Tryd.pinned (OpenSpec.ofChange erasePlaysWrong)

/-- 'linotypelaw33.ScrollPlays': WHATEVER THE INPUT: true; the input reads as it did. -/
def scrollPlaysSpec : ChangeSpec := { name := "scrollPlays", fn := fun _ => fun
  | [d1, d2] => { results := [.lit (.bool true)], args := [d1, d2] }
  | _ => none }
def scrollPlaysRow : OpenClaim := { program := "ytohpkblleihmaaadoor", sum := "2f079364c5967e57d895b989821f149617538d9919cf6b89d943710e96bffeb9", func := "linotype/linotypelaw33.ScrollPlays", spec := "scrollPlays", unfollowed := true, recurses := true, named := ["linotype/api.ErrRange", "linotype/api.ErrKind"], apart := false, laid := [("linotype/api.ErrRange", laid_linotype_api_ErrRange), ("linotype/api.ErrKind", laid_linotype_api_ErrKind)] }
def ScrollPlaysSaid : Prop := scrollPlaysRow.holds Tryd.pinned (OpenSpec.ofChange scrollPlaysSpec)

/-- ITS FALSE NEIGHBOUR: 'it returns false'. Refute it at one input. -/
def scrollPlaysWrong : ChangeSpec := { name := "scrollPlays", fn := fun _ => fun
  | [d1, d2] => { results := [.lit (.bool false)], args := [d1, d2] }
  | _ => none }
def ScrollPlaysWrongFalsely : Prop := scrollPlaysRow.holds Tryd.pinned (OpenSpec.ofChange scrollPlaysWrong)

/-- 'linotypelaw33.ScrollFar': WHATEVER THE INPUT: true; the input reads as it did. -/
def scrollFarSpec : ChangeSpec := { name := "scrollFar", fn := fun _ => fun
  | [d1, d2] => { results := [.lit (.bool true)], args := [d1, d2] }
  | _ => none }
def scrollFarRow : OpenClaim := { program := "ytohpkblleihmaaadoor", sum := "2f079364c5967e57d895b989821f149617538d9919cf6b89d943710e96bffeb9", func := "linotype/linotypelaw33.ScrollFar", spec := "scrollFar", unfollowed := true, recurses := true, named := ["linotype/api.ErrRange", "linotype/api.ErrKind"], apart := false, laid := [("linotype/api.ErrRange", laid_linotype_api_ErrRange), ("linotype/api.ErrKind", laid_linotype_api_ErrKind)] }
def ScrollFarSaid : Prop := scrollFarRow.holds Tryd.pinned (OpenSpec.ofChange scrollFarSpec)

/-- ITS FALSE NEIGHBOUR: 'it returns false'. Refute it at one input. -/
def scrollFarWrong : ChangeSpec := { name := "scrollFar", fn := fun _ => fun
  | [d1, d2] => { results := [.lit (.bool false)], args := [d1, d2] }
  | _ => none }
def ScrollFarWrongFalsely : Prop := scrollFarRow.holds Tryd.pinned (OpenSpec.ofChange scrollFarWrong)

/-- 'linotypelaw25.MarkWidens': WHATEVER THE INPUT: true; the input reads as it did. -/
def markWidensSpec : ChangeSpec := { name := "markWidens", fn := fun _ => fun
  | [d1, d2, d3] => { results := [.lit (.bool true)], args := [d1, d2, d3] }
  | _ => none }
def markWidensRow : OpenClaim := { program := "ytohpkblleihmaaadoor", sum := "2f079364c5967e57d895b989821f149617538d9919cf6b89d943710e96bffeb9", func := "linotype/linotypelaw25.MarkWidens", spec := "markWidens", unfollowed := true, recurses := true, named := ["linotype/api.ErrRange", "linotype/api.ErrKind"], apart := false, laid := [("linotype/api.ErrRange", laid_linotype_api_ErrRange), ("linotype/api.ErrKind", laid_linotype_api_ErrKind)] }
def MarkWidensSaid : Prop := markWidensRow.holds Tryd.pinned (OpenSpec.ofChange markWidensSpec)

/-- ITS FALSE NEIGHBOUR: 'it returns false'. Refute it at one input. -/
def markWidensWrong : ChangeSpec := { name := "markWidens", fn := fun _ => fun
  | [d1, d2, d3] => { results := [.lit (.bool false)], args := [d1, d2, d3] }
  | _ => none }
def MarkWidensWrongFalsely : Prop := markWidensRow.holds Tryd.pinned (OpenSpec.ofChange markWidensWrong)

/-- 'linotypelaw24.RowPaints': WHATEVER THE INPUT: true; the input reads as it did. -/
def rowPaintsSpec : ChangeSpec := { name := "rowPaints", fn := fun _ => fun
  | [d1, d2] => { results := [.lit (.bool true)], args := [d1, d2] }
  | _ => none }
def rowPaintsRow : OpenClaim := { program := "ytohpkblleihmaaadoor", sum := "2f079364c5967e57d895b989821f149617538d9919cf6b89d943710e96bffeb9", func := "linotype/linotypelaw24.RowPaints", spec := "rowPaints", inPlace := ["internal/reflectlite.TypeOf"], unfollowed := true, recurses := true, named := ["linotype/api.ErrRange", "linotype/api.ErrKind", "linotype/api.ErrScalar", "linotype/api.ErrForm", "linotype/api.ErrLong", "linotype/api.ErrWord", "linotype/api.ErrFull", "linotype/api.ErrNone"], apart := false, laid := [("linotype/api.ErrScalar", laid_linotype_api_ErrScalar), ("linotype/api.ErrForm", laid_linotype_api_ErrForm), ("linotype/api.ErrRange", laid_linotype_api_ErrRange), ("linotype/api.ErrLong", laid_linotype_api_ErrLong), ("linotype/api.ErrKind", laid_linotype_api_ErrKind), ("linotype/api.ErrWord", laid_linotype_api_ErrWord), ("linotype/api.ErrFull", laid_linotype_api_ErrFull), ("linotype/api.ErrNone", laid_linotype_api_ErrNone)] }
def RowPaintsSaid : Prop := rowPaintsRow.holds Tryd.pinned (OpenSpec.ofChange rowPaintsSpec)

/-- ITS FALSE NEIGHBOUR: 'it returns false'. Refute it at one input. -/
def rowPaintsWrong : ChangeSpec := { name := "rowPaints", fn := fun _ => fun
  | [d1, d2] => { results := [.lit (.bool false)], args := [d1, d2] }
  | _ => none }
def RowPaintsWrongFalsely : Prop := rowPaintsRow.holds Tryd.pinned (OpenSpec.ofChange rowPaintsWrong)

/-- 'linotypelaw24.RowMakes': WHATEVER THE INPUT: true; the input reads as it did. -/
def rowMakesSpec : ChangeSpec := { name := "rowMakes", fn := fun _ => fun
  | [d1, d2] => { results := [.lit (.bool true)], args := [d1, d2] }
  | _ => none }
def rowMakesRow : OpenClaim := { program := "ytohpkblleihmaaadoor", sum := "2f079364c5967e57d895b989821f149617538d9919cf6b89d943710e96bffeb9", func := "linotype/linotypelaw24.RowMakes", spec := "rowMakes", inPlace := ["internal/reflectlite.TypeOf"], unfollowed := true, recurses := true, named := ["linotype/api.ErrRange", "linotype/api.ErrKind", "linotype/api.ErrScalar", "linotype/api.ErrForm", "linotype/api.ErrLong", "linotype/api.ErrWord", "linotype/api.ErrFull", "linotype/api.ErrNone"], apart := false, laid := [("linotype/api.ErrScalar", laid_linotype_api_ErrScalar), ("linotype/api.ErrForm", laid_linotype_api_ErrForm), ("linotype/api.ErrRange", laid_linotype_api_ErrRange), ("linotype/api.ErrLong", laid_linotype_api_ErrLong), ("linotype/api.ErrKind", laid_linotype_api_ErrKind), ("linotype/api.ErrWord", laid_linotype_api_ErrWord), ("linotype/api.ErrFull", laid_linotype_api_ErrFull), ("linotype/api.ErrNone", laid_linotype_api_ErrNone)] }
def RowMakesSaid : Prop := rowMakesRow.holds Tryd.pinned (OpenSpec.ofChange rowMakesSpec)

/-- ITS FALSE NEIGHBOUR: 'it returns false'. Refute it at one input. -/
def rowMakesWrong : ChangeSpec := { name := "rowMakes", fn := fun _ => fun
  | [d1, d2] => { results := [.lit (.bool false)], args := [d1, d2] }
  | _ => none }
def RowMakesWrongFalsely : Prop := rowMakesRow.holds Tryd.pinned (OpenSpec.ofChange rowMakesWrong)

/-- 'linotypelaw25.MarkPlays': WHATEVER THE INPUT: true; the input reads as it did. -/
def markPlaysSpec : ChangeSpec := { name := "markPlays", fn := fun _ => fun
  | [d1, d2, d3] => { results := [.lit (.bool true)], args := [d1, d2, d3] }
  | _ => none }
def markPlaysRow : OpenClaim := { program := "ytohpkblleihmaaadoor", sum := "2f079364c5967e57d895b989821f149617538d9919cf6b89d943710e96bffeb9", func := "linotype/linotypelaw25.MarkPlays", spec := "markPlays", inPlace := ["internal/reflectlite.TypeOf"], unfollowed := true, recurses := true, named := ["linotype/api.ErrRange", "linotype/api.ErrKind", "linotype/api.ErrScalar", "linotype/api.ErrForm", "linotype/api.ErrLong", "linotype/api.ErrWord", "linotype/api.ErrFull", "linotype/api.ErrNone"], apart := false, laid := [("linotype/api.ErrScalar", laid_linotype_api_ErrScalar), ("linotype/api.ErrForm", laid_linotype_api_ErrForm), ("linotype/api.ErrRange", laid_linotype_api_ErrRange), ("linotype/api.ErrLong", laid_linotype_api_ErrLong), ("linotype/api.ErrKind", laid_linotype_api_ErrKind), ("linotype/api.ErrWord", laid_linotype_api_ErrWord), ("linotype/api.ErrFull", laid_linotype_api_ErrFull), ("linotype/api.ErrNone", laid_linotype_api_ErrNone)] }
def MarkPlaysSaid : Prop := markPlaysRow.holds Tryd.pinned (OpenSpec.ofChange markPlaysSpec)

/-- ITS FALSE NEIGHBOUR: 'it returns false'. Refute it at one input. -/
def markPlaysWrong : ChangeSpec := { name := "markPlays", fn := fun _ => fun
  | [d1, d2, d3] => { results := [.lit (.bool false)], args := [d1, d2, d3] }
  | _ => none }
def MarkPlaysWrongFalsely : Prop := markPlaysRow.holds Tryd.pinned (OpenSpec.ofChange markPlaysWrong)

/-- 'linotypelaw59.BlitBack': WHATEVER THE INPUT: true; the input reads as it did. -/
def blitBackSpec : ChangeSpec := { name := "blitBack", fn := fun _ => fun
  | [d1, d2] => { results := [.lit (.bool true)], args := [d1, d2] }
  | _ => none }
def blitBackRow : OpenClaim := { program := "ytohpkblleihmaaadoor", sum := "2f079364c5967e57d895b989821f149617538d9919cf6b89d943710e96bffeb9", func := "linotype/linotypelaw59.BlitBack", spec := "blitBack", unfollowed := true, recurses := true, named := ["linotype/api.ErrRange", "linotype/api.ErrKind"], apart := false, laid := [("linotype/api.ErrRange", laid_linotype_api_ErrRange), ("linotype/api.ErrKind", laid_linotype_api_ErrKind)] }
def BlitBackSaid : Prop := blitBackRow.holds Tryd.pinned (OpenSpec.ofChange blitBackSpec)

/-- ITS FALSE NEIGHBOUR: 'it returns false'. Refute it at one input. -/
def blitBackWrong : ChangeSpec := { name := "blitBack", fn := fun _ => fun
  | [d1, d2] => { results := [.lit (.bool false)], args := [d1, d2] }
  | _ => none }
def BlitBackWrongFalsely : Prop := blitBackRow.holds Tryd.pinned (OpenSpec.ofChange blitBackWrong)

/-- 'linotypelaw59.BlitPlays': WHATEVER THE INPUT: true; the input reads as it did. -/
def blitPlaysSpec : ChangeSpec := { name := "blitPlays", fn := fun _ => fun
  | [d1, d2] => { results := [.lit (.bool true)], args := [d1, d2] }
  | _ => none }
def blitPlaysRow : OpenClaim := { program := "ytohpkblleihmaaadoor", sum := "2f079364c5967e57d895b989821f149617538d9919cf6b89d943710e96bffeb9", func := "linotype/linotypelaw59.BlitPlays", spec := "blitPlays", unfollowed := true, recurses := true, named := ["linotype/api.ErrRange", "linotype/api.ErrKind"], apart := false, laid := [("linotype/api.ErrRange", laid_linotype_api_ErrRange), ("linotype/api.ErrKind", laid_linotype_api_ErrKind)] }
def BlitPlaysSaid : Prop := blitPlaysRow.holds Tryd.pinned (OpenSpec.ofChange blitPlaysSpec)

/-- ITS FALSE NEIGHBOUR: 'it returns false'. Refute it at one input. -/
def blitPlaysWrong : ChangeSpec := { name := "blitPlays", fn := fun _ => fun
  | [d1, d2] => { results := [.lit (.bool false)], args := [d1, d2] }
  | _ => none }
def BlitPlaysWrongFalsely : Prop := blitPlaysRow.holds Tryd.pinned (OpenSpec.ofChange blitPlaysWrong)

/-- 'linotypelaw27.ShiftPlays': WHATEVER THE INPUT: true; the input reads as it did. -/
def shiftPlaysSpec : ChangeSpec := { name := "shiftPlays", fn := fun _ => fun
  | [d1, d2, d3] => { results := [.lit (.bool true)], args := [d1, d2, d3] }
  | _ => none }
def shiftPlaysRow : OpenClaim := { program := "ytohpkblleihmaaadoor", sum := "2f079364c5967e57d895b989821f149617538d9919cf6b89d943710e96bffeb9", func := "linotype/linotypelaw27.ShiftPlays", spec := "shiftPlays", inPlace := ["slices.overlaps[linotype/api.Cell]"], unfollowed := true, recurses := true, named := ["linotype/api.ErrRange", "linotype/api.ErrKind"], apart := false, laid := [("linotype/api.ErrRange", laid_linotype_api_ErrRange), ("linotype/api.ErrKind", laid_linotype_api_ErrKind)] }
def ShiftPlaysSaid : Prop := shiftPlaysRow.holds Tryd.pinned (OpenSpec.ofChange shiftPlaysSpec)

/-- ITS FALSE NEIGHBOUR: 'it returns false'. Refute it at one input. -/
def shiftPlaysWrong : ChangeSpec := { name := "shiftPlays", fn := fun _ => fun
  | [d1, d2, d3] => { results := [.lit (.bool false)], args := [d1, d2, d3] }
  | _ => none }
def ShiftPlaysWrongFalsely : Prop := shiftPlaysRow.holds Tryd.pinned (OpenSpec.ofChange shiftPlaysWrong)

/-- 'linotypelaw27.ShiftBack': WHATEVER THE INPUT: true; the input reads as it did. -/
def shiftBackSpec : ChangeSpec := { name := "shiftBack", fn := fun _ => fun
  | [d1, d2, d3] => { results := [.lit (.bool true)], args := [d1, d2, d3] }
  | _ => none }
def shiftBackRow : OpenClaim := { program := "ytohpkblleihmaaadoor", sum := "2f079364c5967e57d895b989821f149617538d9919cf6b89d943710e96bffeb9", func := "linotype/linotypelaw27.ShiftBack", spec := "shiftBack", inPlace := ["slices.overlaps[linotype/api.Cell]"], unfollowed := true, recurses := true, named := ["linotype/api.ErrRange", "linotype/api.ErrKind"], apart := false, laid := [("linotype/api.ErrRange", laid_linotype_api_ErrRange), ("linotype/api.ErrKind", laid_linotype_api_ErrKind)] }
def ShiftBackSaid : Prop := shiftBackRow.holds Tryd.pinned (OpenSpec.ofChange shiftBackSpec)

/-- ITS FALSE NEIGHBOUR: 'it returns false'. Refute it at one input. -/
def shiftBackWrong : ChangeSpec := { name := "shiftBack", fn := fun _ => fun
  | [d1, d2, d3] => { results := [.lit (.bool false)], args := [d1, d2, d3] }
  | _ => none }
def ShiftBackWrongFalsely : Prop := shiftBackRow.holds Tryd.pinned (OpenSpec.ofChange shiftBackWrong)

/-- 'linotypelaw34.PlacePlays': WHATEVER THE INPUT: true; the input reads as it did. -/
def placePlaysSpec : ChangeSpec := { name := "placePlays", fn := fun _ => fun
  | [d1, d2, d3] => { results := [.lit (.bool true)], args := [d1, d2, d3] }
  | _ => none }
def placePlaysRow : OpenClaim := { program := "ytohpkblleihmaaadoor", sum := "2f079364c5967e57d895b989821f149617538d9919cf6b89d943710e96bffeb9", func := "linotype/linotypelaw34.PlacePlays", spec := "placePlays", unfollowed := true, recurses := true, named := ["linotype/api.ErrRange", "linotype/api.ErrKind"], apart := false, laid := [("linotype/api.ErrRange", laid_linotype_api_ErrRange), ("linotype/api.ErrKind", laid_linotype_api_ErrKind)] }
def PlacePlaysSaid : Prop := placePlaysRow.holds Tryd.pinned (OpenSpec.ofChange placePlaysSpec)

/-- ITS FALSE NEIGHBOUR: 'it returns false'. Refute it at one input. -/
def placePlaysWrong : ChangeSpec := { name := "placePlays", fn := fun _ => fun
  | [d1, d2, d3] => { results := [.lit (.bool false)], args := [d1, d2, d3] }
  | _ => none }
def PlacePlaysWrongFalsely : Prop := placePlaysRow.holds Tryd.pinned (OpenSpec.ofChange placePlaysWrong)

/-- 'linotypelaw34.PlaceSound': WHATEVER THE INPUT: true; the input reads as it did. -/
def placeSoundSpec : ChangeSpec := { name := "placeSound", fn := fun _ => fun
  | [d1, d2, d3] => { results := [.lit (.bool true)], args := [d1, d2, d3] }
  | _ => none }
def placeSoundRow : OpenClaim := { program := "ytohpkblleihmaaadoor", sum := "2f079364c5967e57d895b989821f149617538d9919cf6b89d943710e96bffeb9", func := "linotype/linotypelaw34.PlaceSound", spec := "placeSound", unfollowed := true, recurses := true, named := ["linotype/api.ErrRange", "linotype/api.ErrKind"], apart := false, laid := [("linotype/api.ErrRange", laid_linotype_api_ErrRange), ("linotype/api.ErrKind", laid_linotype_api_ErrKind)] }
def PlaceSoundSaid : Prop := placeSoundRow.holds Tryd.pinned (OpenSpec.ofChange placeSoundSpec)

/-- ITS FALSE NEIGHBOUR: 'it returns false'. Refute it at one input. -/
def placeSoundWrong : ChangeSpec := { name := "placeSound", fn := fun _ => fun
  | [d1, d2, d3] => { results := [.lit (.bool false)], args := [d1, d2, d3] }
  | _ => none }
def PlaceSoundWrongFalsely : Prop := placeSoundRow.holds Tryd.pinned (OpenSpec.ofChange placeSoundWrong)

/-- 'linotypelaw36.CtrlDoes': WHATEVER THE INPUT: true; the input reads as it did. -/
def ctrlDoesSpec : ChangeSpec := { name := "ctrlDoes", fn := fun _ => fun
  | [d1, d2] => { results := [.lit (.bool true)], args := [d1, d2] }
  | _ => none }
def ctrlDoesRow : OpenClaim := { program := "ytohpkblleihmaaadoor", sum := "2f079364c5967e57d895b989821f149617538d9919cf6b89d943710e96bffeb9", func := "linotype/linotypelaw36.CtrlDoes", spec := "ctrlDoes", unfollowed := true, recurses := true, named := ["linotype/api.ErrRange", "linotype/api.ErrKind"], apart := false, laid := [("linotype/api.ErrRange", laid_linotype_api_ErrRange), ("linotype/api.ErrKind", laid_linotype_api_ErrKind)] }
def CtrlDoesSaid : Prop := ctrlDoesRow.holds Tryd.pinned (OpenSpec.ofChange ctrlDoesSpec)

/-- ITS FALSE NEIGHBOUR: 'it returns false'. Refute it at one input. -/
def ctrlDoesWrong : ChangeSpec := { name := "ctrlDoes", fn := fun _ => fun
  | [d1, d2] => { results := [.lit (.bool false)], args := [d1, d2] }
  | _ => none }
def CtrlDoesWrongFalsely : Prop := ctrlDoesRow.holds Tryd.pinned (OpenSpec.ofChange ctrlDoesWrong)

/-- 'linotypelaw39.SizeTurns': WHATEVER THE INPUT: true; the input reads as it did. -/
def sizeTurnsSpec : ChangeSpec := { name := "sizeTurns", fn := fun _ => fun
  | [d1, d2] => { results := [.lit (.bool true)], args := [d1, d2] }
  | _ => none }
def sizeTurnsRow : OpenClaim := { program := "ytohpkblleihmaaadoor", sum := "2f079364c5967e57d895b989821f149617538d9919cf6b89d943710e96bffeb9", func := "linotype/linotypelaw39.SizeTurns", spec := "sizeTurns", unfollowed := true, recurses := true, named := ["linotype/api.ErrRange", "linotype/api.ErrKind"], apart := false, laid := [("linotype/api.ErrRange", laid_linotype_api_ErrRange), ("linotype/api.ErrKind", laid_linotype_api_ErrKind)] }
def SizeTurnsSaid : Prop := sizeTurnsRow.holds Tryd.pinned (OpenSpec.ofChange sizeTurnsSpec)

/-- ITS FALSE NEIGHBOUR: 'it returns false'. Refute it at one input. -/
def sizeTurnsWrong : ChangeSpec := { name := "sizeTurns", fn := fun _ => fun
  | [d1, d2] => { results := [.lit (.bool false)], args := [d1, d2] }
  | _ => none }
def SizeTurnsWrongFalsely : Prop := sizeTurnsRow.holds Tryd.pinned (OpenSpec.ofChange sizeTurnsWrong)

/-- 'linotypelaw39.SizeKeeps': WHATEVER THE INPUT: true; the input reads as it did. -/
def sizeKeepsSpec : ChangeSpec := { name := "sizeKeeps", fn := fun _ => fun
  | [d1, d2, d3] => { results := [.lit (.bool true)], args := [d1, d2, d3] }
  | _ => none }
def sizeKeepsRow : OpenClaim := { program := "ytohpkblleihmaaadoor", sum := "2f079364c5967e57d895b989821f149617538d9919cf6b89d943710e96bffeb9", func := "linotype/linotypelaw39.SizeKeeps", spec := "sizeKeeps", unfollowed := true, recurses := true, named := ["linotype/api.ErrRange", "linotype/api.ErrKind"], apart := false, laid := [("linotype/api.ErrRange", laid_linotype_api_ErrRange), ("linotype/api.ErrKind", laid_linotype_api_ErrKind)] }
def SizeKeepsSaid : Prop := sizeKeepsRow.holds Tryd.pinned (OpenSpec.ofChange sizeKeepsSpec)

/-- ITS FALSE NEIGHBOUR: 'it returns false'. Refute it at one input. -/
def sizeKeepsWrong : ChangeSpec := { name := "sizeKeeps", fn := fun _ => fun
  | [d1, d2, d3] => { results := [.lit (.bool false)], args := [d1, d2, d3] }
  | _ => none }
def SizeKeepsWrongFalsely : Prop := sizeKeepsRow.holds Tryd.pinned (OpenSpec.ofChange sizeKeepsWrong)

/-- 'linotypelaw35.WidenNone': WHATEVER THE INPUT: true; the input reads as it did. -/
def widenNoneSpec : ChangeSpec := { name := "widenNone", fn := fun _ => fun
  | [d1, d2] => { results := [.lit (.bool true)], args := [d1, d2] }
  | _ => none }
def widenNoneRow : OpenClaim := { program := "ytohpkblleihmaaadoor", sum := "2f079364c5967e57d895b989821f149617538d9919cf6b89d943710e96bffeb9", func := "linotype/linotypelaw35.WidenNone", spec := "widenNone", unfollowed := true, recurses := true, named := ["linotype/api.ErrRange", "linotype/api.ErrKind"], apart := false, laid := [("linotype/api.ErrRange", laid_linotype_api_ErrRange), ("linotype/api.ErrKind", laid_linotype_api_ErrKind)] }
def WidenNoneSaid : Prop := widenNoneRow.holds Tryd.pinned (OpenSpec.ofChange widenNoneSpec)

/-- ITS FALSE NEIGHBOUR: 'it returns false'. Refute it at one input. -/
def widenNoneWrong : ChangeSpec := { name := "widenNone", fn := fun _ => fun
  | [d1, d2] => { results := [.lit (.bool false)], args := [d1, d2] }
  | _ => none }
def WidenNoneWrongFalsely : Prop := widenNoneRow.holds Tryd.pinned (OpenSpec.ofChange widenNoneWrong)

/- THE SECOND FORM. 'bulk': how many values and letters a reading holds, each counted each time it is reached (what is shared counts as often as it is met; a slice's spare places count too). A statement '..UptoSaid' is the law's where the arguments, and the package variables that the reading takes, are together of bulk at most 1048576: NARROWER than '..Said'. Prove '..Said' where nothing that the law and all that it calls make is longer than what came in: it says more and counts as full. Else prove '..UptoSaid'. A law counts once. -/
mutual
def uptoBulk {H : Type} : DataW H → Nat
  | .lit (.string bytes) => bytes.length + 1
  | .lit _ => 1
  | .nil => 1
  | .ptr d => uptoBulk d + 1
  | .slice elems spare => uptoBulkAll elems + uptoBulkAll spare + 1
  | .agg parts => uptoBulkAll parts + 1
  | .iface _ d => uptoBulk d + 1
  | .map entries => uptoBulkEntries entries + 1
  | .held _ => 1
def uptoBulkAll {H : Type} : List (DataW H) → Nat
  | [] => 0
  | d :: r => uptoBulk d + uptoBulkAll r
def uptoBulkEntries {H : Type} : List (Lit × DataW H) → Nat
  | [] => 0
  | x :: r => uptoBulkEntry x + uptoBulkEntries r
def uptoBulkEntry {H : Type} : Lit × DataW H → Nat
  | (.string bytes, d) => bytes.length + uptoBulk d + 1
  | (_, d) => uptoBulk d + 1
 end
def uptoSmall : (H : Type) → List (DataW H) → Bool := fun _ ds => decide (uptoBulkAll ds ≤ 1048576)
def OpenSpec.upto (s : _root_.Go.ChangeSpec) : _root_.Go.OpenSpec := { _root_.Go.OpenSpec.ofChange s with cond := some uptoSmall }

/-- 'linotypelaw24.RowOwn', WHERE WHAT IT READS IS OF BULK AT MOST 1048576: true; the input reads as it did. -/
def rowOwnUptoRow : OpenClaim := { program := "ytohpkblleihmaaadoor", sum := "2f079364c5967e57d895b989821f149617538d9919cf6b89d943710e96bffeb9", func := "linotype/linotypelaw24.RowOwn", spec := "rowOwn", unfollowed := true, recurses := true, named := ["linotype/api.ErrRange", "linotype/api.ErrKind"], apart := false, laid := [("linotype/api.ErrRange", laid_linotype_api_ErrRange), ("linotype/api.ErrKind", laid_linotype_api_ErrKind)], narrowed := true }
def RowOwnUptoSaid : Prop := rowOwnUptoRow.holds Tryd.pinned (OpenSpec.upto rowOwnSpec)

/-- 'linotypelaw26.EraseFar', WHERE WHAT IT READS IS OF BULK AT MOST 1048576: true; the input reads as it did. -/
def eraseFarUptoRow : OpenClaim := { program := "ytohpkblleihmaaadoor", sum := "2f079364c5967e57d895b989821f149617538d9919cf6b89d943710e96bffeb9", func := "linotype/linotypelaw26.EraseFar", spec := "eraseFar", unfollowed := true, recurses := true, named := ["linotype/api.ErrRange", "linotype/api.ErrKind"], apart := false, laid := [("linotype/api.ErrRange", laid_linotype_api_ErrRange), ("linotype/api.ErrKind", laid_linotype_api_ErrKind)], narrowed := true }
def EraseFarUptoSaid : Prop := eraseFarUptoRow.holds Tryd.pinned (OpenSpec.upto eraseFarSpec)

/-- 'linotypelaw26.ErasePlays', WHERE WHAT IT READS IS OF BULK AT MOST 1048576: true; the input reads as it did. -/
def erasePlaysUptoRow : OpenClaim := { program := "ytohpkblleihmaaadoor", sum := "2f079364c5967e57d895b989821f149617538d9919cf6b89d943710e96bffeb9", func := "linotype/linotypelaw26.ErasePlays", spec := "erasePlays", unfollowed := true, recurses := true, named := ["linotype/api.ErrRange", "linotype/api.ErrKind"], apart := false, laid := [("linotype/api.ErrRange", laid_linotype_api_ErrRange), ("linotype/api.ErrKind", laid_linotype_api_ErrKind)], narrowed := true }
def ErasePlaysUptoSaid : Prop := erasePlaysUptoRow.holds Tryd.pinned (OpenSpec.upto erasePlaysSpec)

/-- 'linotypelaw33.ScrollPlays', WHERE WHAT IT READS IS OF BULK AT MOST 1048576: true; the input reads as it did. -/
def scrollPlaysUptoRow : OpenClaim := { program := "ytohpkblleihmaaadoor", sum := "2f079364c5967e57d895b989821f149617538d9919cf6b89d943710e96bffeb9", func := "linotype/linotypelaw33.ScrollPlays", spec := "scrollPlays", unfollowed := true, recurses := true, named := ["linotype/api.ErrRange", "linotype/api.ErrKind"], apart := false, laid := [("linotype/api.ErrRange", laid_linotype_api_ErrRange), ("linotype/api.ErrKind", laid_linotype_api_ErrKind)], narrowed := true }
def ScrollPlaysUptoSaid : Prop := scrollPlaysUptoRow.holds Tryd.pinned (OpenSpec.upto scrollPlaysSpec)

/-- 'linotypelaw33.ScrollFar', WHERE WHAT IT READS IS OF BULK AT MOST 1048576: true; the input reads as it did. -/
def scrollFarUptoRow : OpenClaim := { program := "ytohpkblleihmaaadoor", sum := "2f079364c5967e57d895b989821f149617538d9919cf6b89d943710e96bffeb9", func := "linotype/linotypelaw33.ScrollFar", spec := "scrollFar", unfollowed := true, recurses := true, named := ["linotype/api.ErrRange", "linotype/api.ErrKind"], apart := false, laid := [("linotype/api.ErrRange", laid_linotype_api_ErrRange), ("linotype/api.ErrKind", laid_linotype_api_ErrKind)], narrowed := true }
def ScrollFarUptoSaid : Prop := scrollFarUptoRow.holds Tryd.pinned (OpenSpec.upto scrollFarSpec)

/-- 'linotypelaw25.MarkWidens', WHERE WHAT IT READS IS OF BULK AT MOST 1048576: true; the input reads as it did. -/
def markWidensUptoRow : OpenClaim := { program := "ytohpkblleihmaaadoor", sum := "2f079364c5967e57d895b989821f149617538d9919cf6b89d943710e96bffeb9", func := "linotype/linotypelaw25.MarkWidens", spec := "markWidens", unfollowed := true, recurses := true, named := ["linotype/api.ErrRange", "linotype/api.ErrKind"], apart := false, laid := [("linotype/api.ErrRange", laid_linotype_api_ErrRange), ("linotype/api.ErrKind", laid_linotype_api_ErrKind)], narrowed := true }
def MarkWidensUptoSaid : Prop := markWidensUptoRow.holds Tryd.pinned (OpenSpec.upto markWidensSpec)

/-- 'linotypelaw24.RowPaints', WHERE WHAT IT READS IS OF BULK AT MOST 1048576: true; the input reads as it did. -/
def rowPaintsUptoRow : OpenClaim := { program := "ytohpkblleihmaaadoor", sum := "2f079364c5967e57d895b989821f149617538d9919cf6b89d943710e96bffeb9", func := "linotype/linotypelaw24.RowPaints", spec := "rowPaints", inPlace := ["internal/reflectlite.TypeOf"], unfollowed := true, recurses := true, named := ["linotype/api.ErrRange", "linotype/api.ErrKind", "linotype/api.ErrScalar", "linotype/api.ErrForm", "linotype/api.ErrLong", "linotype/api.ErrWord", "linotype/api.ErrFull", "linotype/api.ErrNone"], apart := false, laid := [("linotype/api.ErrScalar", laid_linotype_api_ErrScalar), ("linotype/api.ErrForm", laid_linotype_api_ErrForm), ("linotype/api.ErrRange", laid_linotype_api_ErrRange), ("linotype/api.ErrLong", laid_linotype_api_ErrLong), ("linotype/api.ErrKind", laid_linotype_api_ErrKind), ("linotype/api.ErrWord", laid_linotype_api_ErrWord), ("linotype/api.ErrFull", laid_linotype_api_ErrFull), ("linotype/api.ErrNone", laid_linotype_api_ErrNone)], narrowed := true }
def RowPaintsUptoSaid : Prop := rowPaintsUptoRow.holds Tryd.pinned (OpenSpec.upto rowPaintsSpec)

/-- 'linotypelaw24.RowMakes', WHERE WHAT IT READS IS OF BULK AT MOST 1048576: true; the input reads as it did. -/
def rowMakesUptoRow : OpenClaim := { program := "ytohpkblleihmaaadoor", sum := "2f079364c5967e57d895b989821f149617538d9919cf6b89d943710e96bffeb9", func := "linotype/linotypelaw24.RowMakes", spec := "rowMakes", inPlace := ["internal/reflectlite.TypeOf"], unfollowed := true, recurses := true, named := ["linotype/api.ErrRange", "linotype/api.ErrKind", "linotype/api.ErrScalar", "linotype/api.ErrForm", "linotype/api.ErrLong", "linotype/api.ErrWord", "linotype/api.ErrFull", "linotype/api.ErrNone"], apart := false, laid := [("linotype/api.ErrScalar", laid_linotype_api_ErrScalar), ("linotype/api.ErrForm", laid_linotype_api_ErrForm), ("linotype/api.ErrRange", laid_linotype_api_ErrRange), ("linotype/api.ErrLong", laid_linotype_api_ErrLong), ("linotype/api.ErrKind", laid_linotype_api_ErrKind), ("linotype/api.ErrWord", laid_linotype_api_ErrWord), ("linotype/api.ErrFull", laid_linotype_api_ErrFull), ("linotype/api.ErrNone", laid_linotype_api_ErrNone)], narrowed := true }
def RowMakesUptoSaid : Prop := rowMakesUptoRow.holds Tryd.pinned (OpenSpec.upto rowMakesSpec)

/-- 'linotypelaw25.MarkPlays', WHERE WHAT IT READS IS OF BULK AT MOST 1048576: true; the input reads as it did. -/
def markPlaysUptoRow : OpenClaim := { program := "ytohpkblleihmaaadoor", sum := "2f079364c5967e57d895b989821f149617538d9919cf6b89d943710e96bffeb9", func := "linotype/linotypelaw25.MarkPlays", spec := "markPlays", inPlace := ["internal/reflectlite.TypeOf"], unfollowed := true, recurses := true, named := ["linotype/api.ErrRange", "linotype/api.ErrKind", "linotype/api.ErrScalar", "linotype/api.ErrForm", "linotype/api.ErrLong", "linotype/api.ErrWord", "linotype/api.ErrFull", "linotype/api.ErrNone"], apart := false, laid := [("linotype/api.ErrScalar", laid_linotype_api_ErrScalar), ("linotype/api.ErrForm", laid_linotype_api_ErrForm), ("linotype/api.ErrRange", laid_linotype_api_ErrRange), ("linotype/api.ErrLong", laid_linotype_api_ErrLong), ("linotype/api.ErrKind", laid_linotype_api_ErrKind), ("linotype/api.ErrWord", laid_linotype_api_ErrWord), ("linotype/api.ErrFull", laid_linotype_api_ErrFull), ("linotype/api.ErrNone", laid_linotype_api_ErrNone)], narrowed := true }
def MarkPlaysUptoSaid : Prop := markPlaysUptoRow.holds Tryd.pinned (OpenSpec.upto markPlaysSpec)

/-- 'linotypelaw59.BlitBack', WHERE WHAT IT READS IS OF BULK AT MOST 1048576: true; the input reads as it did. -/
def blitBackUptoRow : OpenClaim := { program := "ytohpkblleihmaaadoor", sum := "2f079364c5967e57d895b989821f149617538d9919cf6b89d943710e96bffeb9", func := "linotype/linotypelaw59.BlitBack", spec := "blitBack", unfollowed := true, recurses := true, named := ["linotype/api.ErrRange", "linotype/api.ErrKind"], apart := false, laid := [("linotype/api.ErrRange", laid_linotype_api_ErrRange), ("linotype/api.ErrKind", laid_linotype_api_ErrKind)], narrowed := true }
def BlitBackUptoSaid : Prop := blitBackUptoRow.holds Tryd.pinned (OpenSpec.upto blitBackSpec)

/-- 'linotypelaw59.BlitPlays', WHERE WHAT IT READS IS OF BULK AT MOST 1048576: true; the input reads as it did. -/
def blitPlaysUptoRow : OpenClaim := { program := "ytohpkblleihmaaadoor", sum := "2f079364c5967e57d895b989821f149617538d9919cf6b89d943710e96bffeb9", func := "linotype/linotypelaw59.BlitPlays", spec := "blitPlays", unfollowed := true, recurses := true, named := ["linotype/api.ErrRange", "linotype/api.ErrKind"], apart := false, laid := [("linotype/api.ErrRange", laid_linotype_api_ErrRange), ("linotype/api.ErrKind", laid_linotype_api_ErrKind)], narrowed := true }
def BlitPlaysUptoSaid : Prop := blitPlaysUptoRow.holds Tryd.pinned (OpenSpec.upto blitPlaysSpec)

/-- 'linotypelaw27.ShiftPlays', WHERE WHAT IT READS IS OF BULK AT MOST 1048576: true; the input reads as it did. -/
def shiftPlaysUptoRow : OpenClaim := { program := "ytohpkblleihmaaadoor", sum := "2f079364c5967e57d895b989821f149617538d9919cf6b89d943710e96bffeb9", func := "linotype/linotypelaw27.ShiftPlays", spec := "shiftPlays", inPlace := ["slices.overlaps[linotype/api.Cell]"], unfollowed := true, recurses := true, named := ["linotype/api.ErrRange", "linotype/api.ErrKind"], apart := false, laid := [("linotype/api.ErrRange", laid_linotype_api_ErrRange), ("linotype/api.ErrKind", laid_linotype_api_ErrKind)], narrowed := true }
def ShiftPlaysUptoSaid : Prop := shiftPlaysUptoRow.holds Tryd.pinned (OpenSpec.upto shiftPlaysSpec)

/-- 'linotypelaw27.ShiftBack', WHERE WHAT IT READS IS OF BULK AT MOST 1048576: true; the input reads as it did. -/
def shiftBackUptoRow : OpenClaim := { program := "ytohpkblleihmaaadoor", sum := "2f079364c5967e57d895b989821f149617538d9919cf6b89d943710e96bffeb9", func := "linotype/linotypelaw27.ShiftBack", spec := "shiftBack", inPlace := ["slices.overlaps[linotype/api.Cell]"], unfollowed := true, recurses := true, named := ["linotype/api.ErrRange", "linotype/api.ErrKind"], apart := false, laid := [("linotype/api.ErrRange", laid_linotype_api_ErrRange), ("linotype/api.ErrKind", laid_linotype_api_ErrKind)], narrowed := true }
def ShiftBackUptoSaid : Prop := shiftBackUptoRow.holds Tryd.pinned (OpenSpec.upto shiftBackSpec)

/-- 'linotypelaw34.PlacePlays', WHERE WHAT IT READS IS OF BULK AT MOST 1048576: true; the input reads as it did. -/
def placePlaysUptoRow : OpenClaim := { program := "ytohpkblleihmaaadoor", sum := "2f079364c5967e57d895b989821f149617538d9919cf6b89d943710e96bffeb9", func := "linotype/linotypelaw34.PlacePlays", spec := "placePlays", unfollowed := true, recurses := true, named := ["linotype/api.ErrRange", "linotype/api.ErrKind"], apart := false, laid := [("linotype/api.ErrRange", laid_linotype_api_ErrRange), ("linotype/api.ErrKind", laid_linotype_api_ErrKind)], narrowed := true }
def PlacePlaysUptoSaid : Prop := placePlaysUptoRow.holds Tryd.pinned (OpenSpec.upto placePlaysSpec)

/-- 'linotypelaw34.PlaceSound', WHERE WHAT IT READS IS OF BULK AT MOST 1048576: true; the input reads as it did. -/
def placeSoundUptoRow : OpenClaim := { program := "ytohpkblleihmaaadoor", sum := "2f079364c5967e57d895b989821f149617538d9919cf6b89d943710e96bffeb9", func := "linotype/linotypelaw34.PlaceSound", spec := "placeSound", unfollowed := true, recurses := true, named := ["linotype/api.ErrRange", "linotype/api.ErrKind"], apart := false, laid := [("linotype/api.ErrRange", laid_linotype_api_ErrRange), ("linotype/api.ErrKind", laid_linotype_api_ErrKind)], narrowed := true }
def PlaceSoundUptoSaid : Prop := placeSoundUptoRow.holds Tryd.pinned (OpenSpec.upto placeSoundSpec)

/-- 'linotypelaw36.CtrlDoes', WHERE WHAT IT READS IS OF BULK AT MOST 1048576: true; the input reads as it did. -/
def ctrlDoesUptoRow : OpenClaim := { program := "ytohpkblleihmaaadoor", sum := "2f079364c5967e57d895b989821f149617538d9919cf6b89d943710e96bffeb9", func := "linotype/linotypelaw36.CtrlDoes", spec := "ctrlDoes", unfollowed := true, recurses := true, named := ["linotype/api.ErrRange", "linotype/api.ErrKind"], apart := false, laid := [("linotype/api.ErrRange", laid_linotype_api_ErrRange), ("linotype/api.ErrKind", laid_linotype_api_ErrKind)], narrowed := true }
def CtrlDoesUptoSaid : Prop := ctrlDoesUptoRow.holds Tryd.pinned (OpenSpec.upto ctrlDoesSpec)

/-- 'linotypelaw39.SizeTurns', WHERE WHAT IT READS IS OF BULK AT MOST 1048576: true; the input reads as it did. -/
def sizeTurnsUptoRow : OpenClaim := { program := "ytohpkblleihmaaadoor", sum := "2f079364c5967e57d895b989821f149617538d9919cf6b89d943710e96bffeb9", func := "linotype/linotypelaw39.SizeTurns", spec := "sizeTurns", unfollowed := true, recurses := true, named := ["linotype/api.ErrRange", "linotype/api.ErrKind"], apart := false, laid := [("linotype/api.ErrRange", laid_linotype_api_ErrRange), ("linotype/api.ErrKind", laid_linotype_api_ErrKind)], narrowed := true }
def SizeTurnsUptoSaid : Prop := sizeTurnsUptoRow.holds Tryd.pinned (OpenSpec.upto sizeTurnsSpec)

/-- 'linotypelaw39.SizeKeeps', WHERE WHAT IT READS IS OF BULK AT MOST 1048576: true; the input reads as it did. -/
def sizeKeepsUptoRow : OpenClaim := { program := "ytohpkblleihmaaadoor", sum := "2f079364c5967e57d895b989821f149617538d9919cf6b89d943710e96bffeb9", func := "linotype/linotypelaw39.SizeKeeps", spec := "sizeKeeps", unfollowed := true, recurses := true, named := ["linotype/api.ErrRange", "linotype/api.ErrKind"], apart := false, laid := [("linotype/api.ErrRange", laid_linotype_api_ErrRange), ("linotype/api.ErrKind", laid_linotype_api_ErrKind)], narrowed := true }
def SizeKeepsUptoSaid : Prop := sizeKeepsUptoRow.holds Tryd.pinned (OpenSpec.upto sizeKeepsSpec)

/-- 'linotypelaw35.WidenNone', WHERE WHAT IT READS IS OF BULK AT MOST 1048576: true; the input reads as it did. -/
def widenNoneUptoRow : OpenClaim := { program := "ytohpkblleihmaaadoor", sum := "2f079364c5967e57d895b989821f149617538d9919cf6b89d943710e96bffeb9", func := "linotype/linotypelaw35.WidenNone", spec := "widenNone", unfollowed := true, recurses := true, named := ["linotype/api.ErrRange", "linotype/api.ErrKind"], apart := false, laid := [("linotype/api.ErrRange", laid_linotype_api_ErrRange), ("linotype/api.ErrKind", laid_linotype_api_ErrKind)], narrowed := true }
def WidenNoneUptoSaid : Prop := widenNoneUptoRow.holds Tryd.pinned (OpenSpec.upto widenNoneSpec)

end Rows
end Go.Proofs.YtohpkblleihmaaaDoor
