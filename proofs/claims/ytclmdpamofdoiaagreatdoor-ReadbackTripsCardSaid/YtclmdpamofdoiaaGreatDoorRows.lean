/-
  NARROWER THAN 'FOR EVERY INPUT', by the rows' own cells (each row's printed sentence says how): MirrorGroups: laid · ReadbackTells: laid · MirrorRuns: laid · ReadbackTrips: laid · PlayFirst: laid · RenderAgain: laid · RenderDraws: laid · PlaySteps: laid.
  DERIVED. THE GIVEN ROWS OF THIS SEAT. 8 by the template 'for every input the law returns true; each argument reads behind the call as it read before'; 0 by the template 'total and deterministic' (their statements: YtclmdpamofdoiaaGreatDoorTotals.lean).
  GIVEN WITH THE SEED: the statements are not yours to turn. If you find one false, say at which input.
  Laid BY PROGRAM, IN A SANDBOX (cutbox-rows.mjs): the forced cells as the released guide's own fill.sh prints them over the translation 22a267cf2f4b69eb… (all of the seat's roots in one cut). By AI agents, Wed Nov 11 2026. No macro, syntax, notation, axiom, sorry.
-/
import Derived.Test.YtclmdpamofdoiaaGreatDoorChecked
import GoSem.Claim
import GoSem.ClaimJoined
import GoSem.ClaimMapViews
import Derived.JoinedTies
import Derived.KernelRfl
namespace Go.Proofs.YtclmdpamofdoiaaGreatDoor
/- THE CELL 'sum', in the pinned program and in every row, IS THE sha256 OF THE DUMP (.gsa) THAT YtclmdpamofdoiaaGreatDoorProg.lean LOADS. Nothing in Lean hashes anything: it is a label: what it is worth is what the hold of that sum in a sandbox is worth. -/
noncomputable def Tryz.pinned : Pinned := { name := "ytclmdpamofdoiaagreatdoor", sum := "22a267cf2f4b69ebd046b5a5843a722ca940cdbe68ae549d82c2e011d9859384", checked := Tryz.checked }
namespace Rows
def none {H : Type} : Left H := { results := [], args := [] }

/- WHAT THE LISTED PACKAGE-LEVEL VARIABLES READ AS WHEN THE CALL BEGINS. Each datum BY PROGRAM (the guide's laid-datum.mjs) off the statement by which the dump's own 'gosem.cut.vars' lays the variable. In a bare row this is a premise. The card (YtclmdpamofdoiaaGreatDoorCards.lean) ties it to the program's text. -/
def laid_linotype_api_ErrRange {H : Type} : DataW H := .iface "*errors.errorString" (.ptr (.agg [.lit (.string [114, 97, 110, 103, 101])]))
def laid_linotype_api_ErrKind {H : Type} : DataW H := .iface "*errors.errorString" (.ptr (.agg [.lit (.string [107, 105, 110, 100])]))
def laid_linotype_api_ErrScalar {H : Type} : DataW H := .iface "*errors.errorString" (.ptr (.agg [.lit (.string [115, 99, 97, 108, 97, 114])]))
def laid_linotype_api_ErrNone {H : Type} : DataW H := .iface "*errors.errorString" (.ptr (.agg [.lit (.string [110, 111, 110, 101])]))
def laid_errors_errorType {H : Type} : DataW H := .iface "internal/reflectlite.rtype" (.agg [.ptr (.lit (.string [101, 114, 114, 111, 114]))])
def laid_linotype_api_ErrForm {H : Type} : DataW H := .iface "*errors.errorString" (.ptr (.agg [.lit (.string [102, 111, 114, 109])]))
def laid_linotype_api_ErrLong {H : Type} : DataW H := .iface "*errors.errorString" (.ptr (.agg [.lit (.string [108, 111, 110, 103])]))
def laid_linotype_api_ErrWord {H : Type} : DataW H := .iface "*errors.errorString" (.ptr (.agg [.lit (.string [119, 111, 114, 100])]))
def laid_linotype_api_ErrFull {H : Type} : DataW H := .iface "*errors.errorString" (.ptr (.agg [.lit (.string [102, 117, 108, 108])]))

/-- 'linotypelaw41.MirrorGroups': WHATEVER THE INPUT: true; the input reads as it did. -/
def mirrorGroupsSpec : ChangeSpec := { name := "mirrorGroups", fn := fun _ => fun
  | [d] => { results := [.lit (.bool true)], args := [d] }
  | _ => none }
def mirrorGroupsRow : OpenClaim := { program := "ytclmdpamofdoiaagreatdoor", sum := "22a267cf2f4b69ebd046b5a5843a722ca940cdbe68ae549d82c2e011d9859384", func := "linotype/linotypelaw41.MirrorGroups", spec := "mirrorGroups", inPlace := ["slices.overlaps[linotype/api.Cell]"], unfollowed := true, recurses := true, named := ["linotype/api.ErrKind", "linotype/api.ErrRange"], apart := false, laid := [("linotype/api.ErrRange", laid_linotype_api_ErrRange), ("linotype/api.ErrKind", laid_linotype_api_ErrKind)] }
def MirrorGroupsSaid : Prop := mirrorGroupsRow.holds Tryz.pinned (OpenSpec.ofChange mirrorGroupsSpec)

/-- ITS FALSE NEIGHBOUR: 'it returns false'. Refute it at one input. -/
def mirrorGroupsWrong : ChangeSpec := { name := "mirrorGroups", fn := fun _ => fun
  | [d] => { results := [.lit (.bool false)], args := [d] }
  | _ => none }
def MirrorGroupsWrongFalsely : Prop := mirrorGroupsRow.holds Tryz.pinned (OpenSpec.ofChange mirrorGroupsWrong)

/-- 'linotypelaw42.ReadbackTells': WHATEVER THE INPUT: true; the input reads as it did. -/
def readbackTellsSpec : ChangeSpec := { name := "readbackTells", fn := fun _ => fun
  | [d] => { results := [.lit (.bool true)], args := [d] }
  | _ => none }
def readbackTellsRow : OpenClaim := { program := "ytclmdpamofdoiaagreatdoor", sum := "22a267cf2f4b69ebd046b5a5843a722ca940cdbe68ae549d82c2e011d9859384", func := "linotype/linotypelaw42.ReadbackTells", spec := "readbackTells", inPlace := ["slices.overlaps[linotype/api.Cell]"], unfollowed := true, recurses := true, named := ["linotype/api.ErrNone", "linotype/api.ErrRange", "linotype/api.ErrKind", "linotype/api.ErrScalar"], apart := false, laid := [("linotype/api.ErrScalar", laid_linotype_api_ErrScalar), ("linotype/api.ErrRange", laid_linotype_api_ErrRange), ("linotype/api.ErrKind", laid_linotype_api_ErrKind), ("linotype/api.ErrNone", laid_linotype_api_ErrNone)] }
def ReadbackTellsSaid : Prop := readbackTellsRow.holds Tryz.pinned (OpenSpec.ofChange readbackTellsSpec)

/-- ITS FALSE NEIGHBOUR: 'it returns false'. Refute it at one input. -/
def readbackTellsWrong : ChangeSpec := { name := "readbackTells", fn := fun _ => fun
  | [d] => { results := [.lit (.bool false)], args := [d] }
  | _ => none }
def ReadbackTellsWrongFalsely : Prop := readbackTellsRow.holds Tryz.pinned (OpenSpec.ofChange readbackTellsWrong)

/-- 'linotypelaw41.MirrorRuns': WHATEVER THE INPUT: true; the input reads as it did. -/
def mirrorRunsSpec : ChangeSpec := { name := "mirrorRuns", fn := fun _ => fun
  | [d1, d2] => { results := [.lit (.bool true)], args := [d1, d2] }
  | _ => none }
def mirrorRunsRow : OpenClaim := { program := "ytclmdpamofdoiaagreatdoor", sum := "22a267cf2f4b69ebd046b5a5843a722ca940cdbe68ae549d82c2e011d9859384", func := "linotype/linotypelaw41.MirrorRuns", spec := "mirrorRuns", inPlace := ["slices.overlaps[linotype/api.Cell]"], unfollowed := true, recurses := true, named := ["linotype/api.ErrKind", "linotype/api.ErrRange", "linotype/api.ErrNone"], apart := false, laid := [("linotype/api.ErrRange", laid_linotype_api_ErrRange), ("linotype/api.ErrKind", laid_linotype_api_ErrKind), ("linotype/api.ErrNone", laid_linotype_api_ErrNone)] }
def MirrorRunsSaid : Prop := mirrorRunsRow.holds Tryz.pinned (OpenSpec.ofChange mirrorRunsSpec)

/-- ITS FALSE NEIGHBOUR: 'it returns false'. Refute it at one input. -/
def mirrorRunsWrong : ChangeSpec := { name := "mirrorRuns", fn := fun _ => fun
  | [d1, d2] => { results := [.lit (.bool false)], args := [d1, d2] }
  | _ => none }
def MirrorRunsWrongFalsely : Prop := mirrorRunsRow.holds Tryz.pinned (OpenSpec.ofChange mirrorRunsWrong)

/-- 'linotypelaw42.ReadbackTrips': WHATEVER THE INPUT: true; the input reads as it did. -/
def readbackTripsSpec : ChangeSpec := { name := "readbackTrips", fn := fun _ => fun
  | [d1, d2] => { results := [.lit (.bool true)], args := [d1, d2] }
  | _ => none }
def readbackTripsRow : OpenClaim := { program := "ytclmdpamofdoiaagreatdoor", sum := "22a267cf2f4b69ebd046b5a5843a722ca940cdbe68ae549d82c2e011d9859384", func := "linotype/linotypelaw42.ReadbackTrips", spec := "readbackTrips", inPlace := ["slices.overlaps[linotype/api.Cell]"], unfollowed := true, recurses := true, named := ["linotype/api.ErrNone", "linotype/api.ErrRange", "linotype/api.ErrKind", "linotype/api.ErrScalar"], apart := false, laid := [("linotype/api.ErrScalar", laid_linotype_api_ErrScalar), ("linotype/api.ErrRange", laid_linotype_api_ErrRange), ("linotype/api.ErrKind", laid_linotype_api_ErrKind), ("linotype/api.ErrNone", laid_linotype_api_ErrNone)] }
def ReadbackTripsSaid : Prop := readbackTripsRow.holds Tryz.pinned (OpenSpec.ofChange readbackTripsSpec)

/-- ITS FALSE NEIGHBOUR: 'it returns false'. Refute it at one input. -/
def readbackTripsWrong : ChangeSpec := { name := "readbackTrips", fn := fun _ => fun
  | [d1, d2] => { results := [.lit (.bool false)], args := [d1, d2] }
  | _ => none }
def ReadbackTripsWrongFalsely : Prop := readbackTripsRow.holds Tryz.pinned (OpenSpec.ofChange readbackTripsWrong)

/-- 'linotypelaw45.PlayFirst': WHATEVER THE INPUT: true; the input reads as it did. -/
def playFirstSpec : ChangeSpec := { name := "playFirst", fn := fun _ => fun
  | [d1, d2] => { results := [.lit (.bool true)], args := [d1, d2] }
  | _ => none }
def playFirstRow : OpenClaim := { program := "ytclmdpamofdoiaagreatdoor", sum := "22a267cf2f4b69ebd046b5a5843a722ca940cdbe68ae549d82c2e011d9859384", func := "linotype/linotypelaw45.PlayFirst", spec := "playFirst", inPlace := ["slices.overlaps[linotype/api.Cell]", "internal/reflectlite.ValueOf", "(internal/reflectlite.Value).Type", "(internal/reflectlite.Value).IsNil", "internal/reflectlite.TypeOf", "(internal/reflectlite.Value).Elem", "(internal/reflectlite.Value).Set"], unfollowed := true, recurses := true, named := ["linotype/api.ErrNone", "linotype/api.ErrRange", "linotype/api.ErrKind", "errors.errorType"], apart := false, laid := [("errors.errorType", laid_errors_errorType), ("linotype/api.ErrRange", laid_linotype_api_ErrRange), ("linotype/api.ErrKind", laid_linotype_api_ErrKind), ("linotype/api.ErrNone", laid_linotype_api_ErrNone)] }
def PlayFirstSaid : Prop := playFirstRow.holds Tryz.pinned (OpenSpec.ofChange playFirstSpec)

/-- ITS FALSE NEIGHBOUR: 'it returns false'. Refute it at one input. -/
def playFirstWrong : ChangeSpec := { name := "playFirst", fn := fun _ => fun
  | [d1, d2] => { results := [.lit (.bool false)], args := [d1, d2] }
  | _ => none }
def PlayFirstWrongFalsely : Prop := playFirstRow.holds Tryz.pinned (OpenSpec.ofChange playFirstWrong)

/-- 'linotypelaw54.RenderAgain': WHATEVER THE INPUT: true; the input reads as it did. -/
def renderAgainSpec : ChangeSpec := { name := "renderAgain", fn := fun _ => fun
  | [d] => { results := [.lit (.bool true)], args := [d] }
  | _ => none }
def renderAgainRow : OpenClaim := { program := "ytclmdpamofdoiaagreatdoor", sum := "22a267cf2f4b69ebd046b5a5843a722ca940cdbe68ae549d82c2e011d9859384", func := "linotype/linotypelaw54.RenderAgain", spec := "renderAgain", inPlace := ["slices.overlaps[linotype/api.Cell]"], unfollowed := true, recurses := true, named := ["linotype/api.ErrRange", "linotype/api.ErrLong", "linotype/api.ErrNone", "linotype/api.ErrKind", "linotype/api.ErrForm", "linotype/api.ErrScalar"], apart := false, laid := [("linotype/api.ErrScalar", laid_linotype_api_ErrScalar), ("linotype/api.ErrForm", laid_linotype_api_ErrForm), ("linotype/api.ErrRange", laid_linotype_api_ErrRange), ("linotype/api.ErrLong", laid_linotype_api_ErrLong), ("linotype/api.ErrKind", laid_linotype_api_ErrKind), ("linotype/api.ErrNone", laid_linotype_api_ErrNone)] }
def RenderAgainSaid : Prop := renderAgainRow.holds Tryz.pinned (OpenSpec.ofChange renderAgainSpec)

/-- ITS FALSE NEIGHBOUR: 'it returns false'. Refute it at one input. -/
def renderAgainWrong : ChangeSpec := { name := "renderAgain", fn := fun _ => fun
  | [d] => { results := [.lit (.bool false)], args := [d] }
  | _ => none }
def RenderAgainWrongFalsely : Prop := renderAgainRow.holds Tryz.pinned (OpenSpec.ofChange renderAgainWrong)

/-- 'linotypelaw54.RenderDraws': WHATEVER THE INPUT: true; the input reads as it did. -/
def renderDrawsSpec : ChangeSpec := { name := "renderDraws", fn := fun _ => fun
  | [d] => { results := [.lit (.bool true)], args := [d] }
  | _ => none }
def renderDrawsRow : OpenClaim := { program := "ytclmdpamofdoiaagreatdoor", sum := "22a267cf2f4b69ebd046b5a5843a722ca940cdbe68ae549d82c2e011d9859384", func := "linotype/linotypelaw54.RenderDraws", spec := "renderDraws", inPlace := ["slices.overlaps[linotype/api.Cell]"], unfollowed := true, recurses := true, named := ["linotype/api.ErrRange", "linotype/api.ErrLong", "linotype/api.ErrNone", "linotype/api.ErrKind", "linotype/api.ErrForm", "linotype/api.ErrScalar"], apart := false, laid := [("linotype/api.ErrScalar", laid_linotype_api_ErrScalar), ("linotype/api.ErrForm", laid_linotype_api_ErrForm), ("linotype/api.ErrRange", laid_linotype_api_ErrRange), ("linotype/api.ErrLong", laid_linotype_api_ErrLong), ("linotype/api.ErrKind", laid_linotype_api_ErrKind), ("linotype/api.ErrNone", laid_linotype_api_ErrNone)] }
def RenderDrawsSaid : Prop := renderDrawsRow.holds Tryz.pinned (OpenSpec.ofChange renderDrawsSpec)

/-- ITS FALSE NEIGHBOUR: 'it returns false'. Refute it at one input. -/
def renderDrawsWrong : ChangeSpec := { name := "renderDraws", fn := fun _ => fun
  | [d] => { results := [.lit (.bool false)], args := [d] }
  | _ => none }
def RenderDrawsWrongFalsely : Prop := renderDrawsRow.holds Tryz.pinned (OpenSpec.ofChange renderDrawsWrong)

/-- 'linotypelaw45.PlaySteps': WHATEVER THE INPUT: true; the input reads as it did. -/
def playStepsSpec : ChangeSpec := { name := "playSteps", fn := fun _ => fun
  | [d1, d2] => { results := [.lit (.bool true)], args := [d1, d2] }
  | _ => none }
def playStepsRow : OpenClaim := { program := "ytclmdpamofdoiaagreatdoor", sum := "22a267cf2f4b69ebd046b5a5843a722ca940cdbe68ae549d82c2e011d9859384", func := "linotype/linotypelaw45.PlaySteps", spec := "playSteps", inPlace := ["slices.overlaps[linotype/api.Cell]", "internal/reflectlite.ValueOf", "(internal/reflectlite.Value).Type", "(internal/reflectlite.Value).IsNil", "internal/reflectlite.TypeOf", "(internal/reflectlite.Value).Elem", "(internal/reflectlite.Value).Set"], unfollowed := true, recurses := true, named := ["linotype/api.ErrNone", "linotype/api.ErrRange", "linotype/api.ErrKind", "errors.errorType", "linotype/api.ErrScalar", "linotype/api.ErrForm", "linotype/api.ErrLong", "linotype/api.ErrWord", "linotype/api.ErrFull"], apart := false, laid := [("errors.errorType", laid_errors_errorType), ("linotype/api.ErrScalar", laid_linotype_api_ErrScalar), ("linotype/api.ErrForm", laid_linotype_api_ErrForm), ("linotype/api.ErrRange", laid_linotype_api_ErrRange), ("linotype/api.ErrLong", laid_linotype_api_ErrLong), ("linotype/api.ErrKind", laid_linotype_api_ErrKind), ("linotype/api.ErrWord", laid_linotype_api_ErrWord), ("linotype/api.ErrFull", laid_linotype_api_ErrFull), ("linotype/api.ErrNone", laid_linotype_api_ErrNone)] }
def PlayStepsSaid : Prop := playStepsRow.holds Tryz.pinned (OpenSpec.ofChange playStepsSpec)

/-- ITS FALSE NEIGHBOUR: 'it returns false'. Refute it at one input. -/
def playStepsWrong : ChangeSpec := { name := "playSteps", fn := fun _ => fun
  | [d1, d2] => { results := [.lit (.bool false)], args := [d1, d2] }
  | _ => none }
def PlayStepsWrongFalsely : Prop := playStepsRow.holds Tryz.pinned (OpenSpec.ofChange playStepsWrong)

/- THE SECOND FORM. 'bulk': how many values and letters a reading holds, each counted each time it is reached (what is shared counts as often as it is met; a slice's spare places count too). A statement '..UptoSaid' is the law's where the arguments, and the package variables that the reading takes, are together of bulk at most 1048576: NARROWER than '..Said'. Prove '..Said' where nothing that the law and all that it calls make is longer than what came in: it says more and counts as full. Else prove '..UptoSaid'. A law counts once. -/
mutual
def uptoBulk {H : Type} : DataW H → Nat
  | .lit (.string bytes) => bytes.length + 1
  | .lit _ => 1
  | .nil => 1
  | .ptr d => uptoBulk d + 1
  | .slice elems spare => uptoBulkAll elems + uptoBulkAll spare + 1
  | .agg parts => uptoBulkAll parts + 1
  | .iface _ d => uptoBulk d + 1
  | .map entries => uptoBulkEntries entries + 1
  | .held _ => 1
def uptoBulkAll {H : Type} : List (DataW H) → Nat
  | [] => 0
  | d :: r => uptoBulk d + uptoBulkAll r
def uptoBulkEntries {H : Type} : List (Lit × DataW H) → Nat
  | [] => 0
  | x :: r => uptoBulkEntry x + uptoBulkEntries r
def uptoBulkEntry {H : Type} : Lit × DataW H → Nat
  | (.string bytes, d) => bytes.length + uptoBulk d + 1
  | (_, d) => uptoBulk d + 1
 end
def uptoSmall : (H : Type) → List (DataW H) → Bool := fun _ ds => decide (uptoBulkAll ds ≤ 1048576)
def OpenSpec.upto (s : _root_.Go.ChangeSpec) : _root_.Go.OpenSpec := { _root_.Go.OpenSpec.ofChange s with cond := some uptoSmall }

/-- 'linotypelaw41.MirrorGroups', WHERE WHAT IT READS IS OF BULK AT MOST 1048576: true; the input reads as it did. -/
def mirrorGroupsUptoRow : OpenClaim := { program := "ytclmdpamofdoiaagreatdoor", sum := "22a267cf2f4b69ebd046b5a5843a722ca940cdbe68ae549d82c2e011d9859384", func := "linotype/linotypelaw41.MirrorGroups", spec := "mirrorGroups", inPlace := ["slices.overlaps[linotype/api.Cell]"], unfollowed := true, recurses := true, named := ["linotype/api.ErrKind", "linotype/api.ErrRange"], apart := false, laid := [("linotype/api.ErrRange", laid_linotype_api_ErrRange), ("linotype/api.ErrKind", laid_linotype_api_ErrKind)], narrowed := true }
def MirrorGroupsUptoSaid : Prop := mirrorGroupsUptoRow.holds Tryz.pinned (OpenSpec.upto mirrorGroupsSpec)

/-- 'linotypelaw42.ReadbackTells', WHERE WHAT IT READS IS OF BULK AT MOST 1048576: true; the input reads as it did. -/
def readbackTellsUptoRow : OpenClaim := { program := "ytclmdpamofdoiaagreatdoor", sum := "22a267cf2f4b69ebd046b5a5843a722ca940cdbe68ae549d82c2e011d9859384", func := "linotype/linotypelaw42.ReadbackTells", spec := "readbackTells", inPlace := ["slices.overlaps[linotype/api.Cell]"], unfollowed := true, recurses := true, named := ["linotype/api.ErrNone", "linotype/api.ErrRange", "linotype/api.ErrKind", "linotype/api.ErrScalar"], apart := false, laid := [("linotype/api.ErrScalar", laid_linotype_api_ErrScalar), ("linotype/api.ErrRange", laid_linotype_api_ErrRange), ("linotype/api.ErrKind", laid_linotype_api_ErrKind), ("linotype/api.ErrNone", laid_linotype_api_ErrNone)], narrowed := true }
def ReadbackTellsUptoSaid : Prop := readbackTellsUptoRow.holds Tryz.pinned (OpenSpec.upto readbackTellsSpec)

/-- 'linotypelaw41.MirrorRuns', WHERE WHAT IT READS IS OF BULK AT MOST 1048576: true; the input reads as it did. -/
def mirrorRunsUptoRow : OpenClaim := { program := "ytclmdpamofdoiaagreatdoor", sum := "22a267cf2f4b69ebd046b5a5843a722ca940cdbe68ae549d82c2e011d9859384", func := "linotype/linotypelaw41.MirrorRuns", spec := "mirrorRuns", inPlace := ["slices.overlaps[linotype/api.Cell]"], unfollowed := true, recurses := true, named := ["linotype/api.ErrKind", "linotype/api.ErrRange", "linotype/api.ErrNone"], apart := false, laid := [("linotype/api.ErrRange", laid_linotype_api_ErrRange), ("linotype/api.ErrKind", laid_linotype_api_ErrKind), ("linotype/api.ErrNone", laid_linotype_api_ErrNone)], narrowed := true }
def MirrorRunsUptoSaid : Prop := mirrorRunsUptoRow.holds Tryz.pinned (OpenSpec.upto mirrorRunsSpec)

/-- 'linotypelaw42.ReadbackTrips', WHERE WHAT IT READS IS OF BULK AT MOST 1048576: true; the input reads as it did. -/
def readbackTripsUptoRow : OpenClaim := { program := "ytclmdpamofdoiaagreatdoor", sum := "22a267cf2f4b69ebd046b5a5843a722ca940cdbe68ae549d82c2e011d9859384", func := "linotype/linotypelaw42.ReadbackTrips", spec := "readbackTrips", inPlace := ["slices.overlaps[linotype/api.Cell]"], unfollowed := true, recurses := true, named := ["linotype/api.ErrNone", "linotype/api.ErrRange", "linotype/api.ErrKind", "linotype/api.ErrScalar"], apart := false, laid := [("linotype/api.ErrScalar", laid_linotype_api_ErrScalar), ("linotype/api.ErrRange", laid_linotype_api_ErrRange), ("linotype/api.ErrKind", laid_linotype_api_ErrKind), ("linotype/api.ErrNone", laid_linotype_api_ErrNone)], narrowed := true }
def ReadbackTripsUptoSaid : Prop := readbackTripsUptoRow.holds Tryz.pinned (OpenSpec.upto readbackTripsSpec)

/-- 'linotypelaw45.PlayFirst', WHERE WHAT IT READS IS OF BULK AT MOST 1048576: true; the input reads as it did. -/
def playFirstUptoRow : OpenClaim := { program := "ytclmdpamofdoiaagreatdoor", sum := "22a267cf2f4b69ebd046b5a5843a722ca940cdbe68ae549d82c2e011d9859384", func := "linotype/linotypelaw45.PlayFirst", spec := "playFirst", inPlace := ["slices.overlaps[linotype/api.Cell]", "internal/reflectlite.ValueOf", "(internal/reflectlite.Value).Type", "(internal/reflectlite.Value).IsNil", "internal/reflectlite.TypeOf", "(internal/reflectlite.Value).Elem", "(internal/reflectlite.Value).Set"], unfollowed := true, recurses := true, named := ["linotype/api.ErrNone", "linotype/api.ErrRange", "linotype/api.ErrKind", "errors.errorType"], apart := false, laid := [("errors.errorType", laid_errors_errorType), ("linotype/api.ErrRange", laid_linotype_api_ErrRange), ("linotype/api.ErrKind", laid_linotype_api_ErrKind), ("linotype/api.ErrNone", laid_linotype_api_ErrNone)], narrowed := true }
def PlayFirstUptoSaid : Prop := playFirstUptoRow.holds Tryz.pinned (OpenSpec.upto playFirstSpec)

/-- 'linotypelaw54.RenderAgain', WHERE WHAT IT READS IS OF BULK AT MOST 1048576: true; the input reads as it did. -/
def renderAgainUptoRow : OpenClaim := { program := "ytclmdpamofdoiaagreatdoor", sum := "22a267cf2f4b69ebd046b5a5843a722ca940cdbe68ae549d82c2e011d9859384", func := "linotype/linotypelaw54.RenderAgain", spec := "renderAgain", inPlace := ["slices.overlaps[linotype/api.Cell]"], unfollowed := true, recurses := true, named := ["linotype/api.ErrRange", "linotype/api.ErrLong", "linotype/api.ErrNone", "linotype/api.ErrKind", "linotype/api.ErrForm", "linotype/api.ErrScalar"], apart := false, laid := [("linotype/api.ErrScalar", laid_linotype_api_ErrScalar), ("linotype/api.ErrForm", laid_linotype_api_ErrForm), ("linotype/api.ErrRange", laid_linotype_api_ErrRange), ("linotype/api.ErrLong", laid_linotype_api_ErrLong), ("linotype/api.ErrKind", laid_linotype_api_ErrKind), ("linotype/api.ErrNone", laid_linotype_api_ErrNone)], narrowed := true }
def RenderAgainUptoSaid : Prop := renderAgainUptoRow.holds Tryz.pinned (OpenSpec.upto renderAgainSpec)

/-- 'linotypelaw54.RenderDraws', WHERE WHAT IT READS IS OF BULK AT MOST 1048576: true; the input reads as it did. -/
def renderDrawsUptoRow : OpenClaim := { program := "ytclmdpamofdoiaagreatdoor", sum := "22a267cf2f4b69ebd046b5a5843a722ca940cdbe68ae549d82c2e011d9859384", func := "linotype/linotypelaw54.RenderDraws", spec := "renderDraws", inPlace := ["slices.overlaps[linotype/api.Cell]"], unfollowed := true, recurses := true, named := ["linotype/api.ErrRange", "linotype/api.ErrLong", "linotype/api.ErrNone", "linotype/api.ErrKind", "linotype/api.ErrForm", "linotype/api.ErrScalar"], apart := false, laid := [("linotype/api.ErrScalar", laid_linotype_api_ErrScalar), ("linotype/api.ErrForm", laid_linotype_api_ErrForm), ("linotype/api.ErrRange", laid_linotype_api_ErrRange), ("linotype/api.ErrLong", laid_linotype_api_ErrLong), ("linotype/api.ErrKind", laid_linotype_api_ErrKind), ("linotype/api.ErrNone", laid_linotype_api_ErrNone)], narrowed := true }
def RenderDrawsUptoSaid : Prop := renderDrawsUptoRow.holds Tryz.pinned (OpenSpec.upto renderDrawsSpec)

/-- 'linotypelaw45.PlaySteps', WHERE WHAT IT READS IS OF BULK AT MOST 1048576: true; the input reads as it did. -/
def playStepsUptoRow : OpenClaim := { program := "ytclmdpamofdoiaagreatdoor", sum := "22a267cf2f4b69ebd046b5a5843a722ca940cdbe68ae549d82c2e011d9859384", func := "linotype/linotypelaw45.PlaySteps", spec := "playSteps", inPlace := ["slices.overlaps[linotype/api.Cell]", "internal/reflectlite.ValueOf", "(internal/reflectlite.Value).Type", "(internal/reflectlite.Value).IsNil", "internal/reflectlite.TypeOf", "(internal/reflectlite.Value).Elem", "(internal/reflectlite.Value).Set"], unfollowed := true, recurses := true, named := ["linotype/api.ErrNone", "linotype/api.ErrRange", "linotype/api.ErrKind", "errors.errorType", "linotype/api.ErrScalar", "linotype/api.ErrForm", "linotype/api.ErrLong", "linotype/api.ErrWord", "linotype/api.ErrFull"], apart := false, laid := [("errors.errorType", laid_errors_errorType), ("linotype/api.ErrScalar", laid_linotype_api_ErrScalar), ("linotype/api.ErrForm", laid_linotype_api_ErrForm), ("linotype/api.ErrRange", laid_linotype_api_ErrRange), ("linotype/api.ErrLong", laid_linotype_api_ErrLong), ("linotype/api.ErrKind", laid_linotype_api_ErrKind), ("linotype/api.ErrWord", laid_linotype_api_ErrWord), ("linotype/api.ErrFull", laid_linotype_api_ErrFull), ("linotype/api.ErrNone", laid_linotype_api_ErrNone)], narrowed := true }
def PlayStepsUptoSaid : Prop := playStepsUptoRow.holds Tryz.pinned (OpenSpec.upto playStepsSpec)

end Rows
end Go.Proofs.YtclmdpamofdoiaaGreatDoor
