/-
  No cell of these rows narrows 'for every input' (looked for: loops, veiled, ifaces, maps, wideKeys, modest, calm, conditions, laid).
  DERIVED. THE GIVEN ROWS OF THIS SEAT. 5 by the template 'for every input the law returns true; each argument reads behind the call as it read before'; 0 by the template 'total and deterministic' (their statements: YtfhhpdggmefcoaaTotals.lean).
  GIVEN WITH THE SEED: the statements are not yours to turn. If you find one false, say at which input.
  Laid BY PROGRAM, IN A SANDBOX (cutbox-rows.mjs): the forced cells as the released guide's own fill.sh prints them over the translation d28e6ae6140daf84… (all of the seat's roots in one cut). By AI agents, Wed Nov 11 2026. No macro, syntax, notation, axiom, sorry.
-/
import Derived.Test.YtfhhpdggmefcoaaChecked
import GoSem.Claim
import GoSem.ClaimJoined
import GoSem.ClaimMapViews
import Derived.JoinedTies
import Derived.KernelRfl
namespace Go.Proofs.Ytfhhpdggmefcoaa
/- THE CELL 'sum', in the pinned program and in every row, IS THE sha256 OF THE DUMP (.gsa) THAT YtfhhpdggmefcoaaProg.lean LOADS. Nothing in Lean hashes anything: it is a label: what it is worth is what the hold of that sum in a sandbox is worth. -/
noncomputable def Try.pinned : Pinned := { name := "ytfhhpdggmefcoaa", sum := "d28e6ae6140daf8414e89e064aae010a2d72503c0910e7092c91b89b70c58d81", checked := Try.checked }
namespace Rows
def none {H : Type} : Left H := { results := [], args := [] }

/-- 'linotypelaw05.ChunksCut': WHATEVER THE INPUT: true; the input reads as it did. -/
def chunksCutSpec : ChangeSpec := { name := "chunksCut", fn := fun _ => fun
  | [d1, d2] => { results := [.lit (.bool true)], args := [d1, d2] }
  | _ => none }
def chunksCutRow : OpenClaim := { program := "ytfhhpdggmefcoaa", sum := "d28e6ae6140daf8414e89e064aae010a2d72503c0910e7092c91b89b70c58d81", func := "linotype/linotypelaw05.ChunksCut", spec := "chunksCut", inPlace := ["internal/bytealg.MakeNoZero"], recurses := true, apart := false }
def ChunksCutSaid : Prop := chunksCutRow.holds Try.pinned (OpenSpec.ofChange chunksCutSpec)

/-- ITS FALSE NEIGHBOUR: 'it returns false'. Refute it at one input. -/
def chunksCutWrong : ChangeSpec := { name := "chunksCut", fn := fun _ => fun
  | [d1, d2] => { results := [.lit (.bool false)], args := [d1, d2] }
  | _ => none }
def ChunksCutWrongFalsely : Prop := chunksCutRow.holds Try.pinned (OpenSpec.ofChange chunksCutWrong)

/-- 'linotypelaw05.ChunksRead': WHATEVER THE INPUT: true; the input reads as it did. -/
def chunksReadSpec : ChangeSpec := { name := "chunksRead", fn := fun _ => fun
  | [d1, d2] => { results := [.lit (.bool true)], args := [d1, d2] }
  | _ => none }
def chunksReadRow : OpenClaim := { program := "ytfhhpdggmefcoaa", sum := "d28e6ae6140daf8414e89e064aae010a2d72503c0910e7092c91b89b70c58d81", func := "linotype/linotypelaw05.ChunksRead", spec := "chunksRead", inPlace := ["internal/bytealg.MakeNoZero"], recurses := true, apart := false }
def ChunksReadSaid : Prop := chunksReadRow.holds Try.pinned (OpenSpec.ofChange chunksReadSpec)

/-- ITS FALSE NEIGHBOUR: 'it returns false'. Refute it at one input. -/
def chunksReadWrong : ChangeSpec := { name := "chunksRead", fn := fun _ => fun
  | [d1, d2] => { results := [.lit (.bool false)], args := [d1, d2] }
  | _ => none }
def ChunksReadWrongFalsely : Prop := chunksReadRow.holds Try.pinned (OpenSpec.ofChange chunksReadWrong)

/-- 'linotypelaw06.SpansTell': WHATEVER THE INPUT: true; the input reads as it did. -/
def spansTellSpec : ChangeSpec := { name := "spansTell", fn := fun _ => fun
  | [d1, d2] => { results := [.lit (.bool true)], args := [d1, d2] }
  | _ => none }
def spansTellRow : OpenClaim := { program := "ytfhhpdggmefcoaa", sum := "d28e6ae6140daf8414e89e064aae010a2d72503c0910e7092c91b89b70c58d81", func := "linotype/linotypelaw06.SpansTell", spec := "spansTell", unfollowed := true, recurses := true, apart := false }
def SpansTellSaid : Prop := spansTellRow.holds Try.pinned (OpenSpec.ofChange spansTellSpec)

/-- ITS FALSE NEIGHBOUR: 'it returns false'. Refute it at one input. -/
def spansTellWrong : ChangeSpec := { name := "spansTell", fn := fun _ => fun
  | [d1, d2] => { results := [.lit (.bool false)], args := [d1, d2] }
  | _ => none }
def SpansTellWrongFalsely : Prop := spansTellRow.holds Try.pinned (OpenSpec.ofChange spansTellWrong)

/-- 'linotypelaw06.SpansFewest': WHATEVER THE INPUT: true; the input reads as it did. -/
def spansFewestSpec : ChangeSpec := { name := "spansFewest", fn := fun _ => fun
  | [d1, d2] => { results := [.lit (.bool true)], args := [d1, d2] }
  | _ => none }
def spansFewestRow : OpenClaim := { program := "ytfhhpdggmefcoaa", sum := "d28e6ae6140daf8414e89e064aae010a2d72503c0910e7092c91b89b70c58d81", func := "linotype/linotypelaw06.SpansFewest", spec := "spansFewest", unfollowed := true, recurses := true, apart := false }
def SpansFewestSaid : Prop := spansFewestRow.holds Try.pinned (OpenSpec.ofChange spansFewestSpec)

/-- ITS FALSE NEIGHBOUR: 'it returns false'. Refute it at one input. -/
def spansFewestWrong : ChangeSpec := { name := "spansFewest", fn := fun _ => fun
  | [d1, d2] => { results := [.lit (.bool false)], args := [d1, d2] }
  | _ => none }
def SpansFewestWrongFalsely : Prop := spansFewestRow.holds Try.pinned (OpenSpec.ofChange spansFewestWrong)

/-- 'linotypelaw06.SpansSum': WHATEVER THE INPUT: true; the input reads as it did. -/
def spansSumSpec : ChangeSpec := { name := "spansSum", fn := fun _ => fun
  | [d1, d2] => { results := [.lit (.bool true)], args := [d1, d2] }
  | _ => none }
def spansSumRow : OpenClaim := { program := "ytfhhpdggmefcoaa", sum := "d28e6ae6140daf8414e89e064aae010a2d72503c0910e7092c91b89b70c58d81", func := "linotype/linotypelaw06.SpansSum", spec := "spansSum", unfollowed := true, recurses := true, apart := false }
def SpansSumSaid : Prop := spansSumRow.holds Try.pinned (OpenSpec.ofChange spansSumSpec)

/-- ITS FALSE NEIGHBOUR: 'it returns false'. Refute it at one input. -/
def spansSumWrong : ChangeSpec := { name := "spansSum", fn := fun _ => fun
  | [d1, d2] => { results := [.lit (.bool false)], args := [d1, d2] }
  | _ => none }
def SpansSumWrongFalsely : Prop := spansSumRow.holds Try.pinned (OpenSpec.ofChange spansSumWrong)

/- THE SECOND FORM. 'bulk': how many values and letters a reading holds, each counted each time it is reached (what is shared counts as often as it is met; a slice's spare places count too). A statement '..UptoSaid' is the law's where the arguments, and the package variables that the reading takes, are together of bulk at most 1048576: NARROWER than '..Said'. Prove '..Said' where nothing that the law and all that it calls make is longer than what came in: it says more and counts as full. Else prove '..UptoSaid'. A law counts once. -/
mutual
def uptoBulk {H : Type} : DataW H → Nat
  | .lit (.string bytes) => bytes.length + 1
  | .lit _ => 1
  | .nil => 1
  | .ptr d => uptoBulk d + 1
  | .slice elems spare => uptoBulkAll elems + uptoBulkAll spare + 1
  | .agg parts => uptoBulkAll parts + 1
  | .iface _ d => uptoBulk d + 1
  | .map entries => uptoBulkEntries entries + 1
  | .held _ => 1
def uptoBulkAll {H : Type} : List (DataW H) → Nat
  | [] => 0
  | d :: r => uptoBulk d + uptoBulkAll r
def uptoBulkEntries {H : Type} : List (Lit × DataW H) → Nat
  | [] => 0
  | x :: r => uptoBulkEntry x + uptoBulkEntries r
def uptoBulkEntry {H : Type} : Lit × DataW H → Nat
  | (.string bytes, d) => bytes.length + uptoBulk d + 1
  | (_, d) => uptoBulk d + 1
 end
def uptoSmall : (H : Type) → List (DataW H) → Bool := fun _ ds => decide (uptoBulkAll ds ≤ 1048576)
def OpenSpec.upto (s : _root_.Go.ChangeSpec) : _root_.Go.OpenSpec := { _root_.Go.OpenSpec.ofChange s with cond := some uptoSmall }

/-- 'linotypelaw05.ChunksCut', WHERE WHAT IT READS IS OF BULK AT MOST 1048576: true; the input reads as it did. -/
def chunksCutUptoRow : OpenClaim := { program := "ytfhhpdggmefcoaa", sum := "d28e6ae6140daf8414e89e064aae010a2d72503c0910e7092c91b89b70c58d81", func := "linotype/linotypelaw05.ChunksCut", spec := "chunksCut", inPlace := ["internal/bytealg.MakeNoZero"], recurses := true, apart := false, narrowed := true }
def ChunksCutUptoSaid : Prop := chunksCutUptoRow.holds Try.pinned (OpenSpec.upto chunksCutSpec)

/-- 'linotypelaw05.ChunksRead', WHERE WHAT IT READS IS OF BULK AT MOST 1048576: true; the input reads as it did. -/
def chunksReadUptoRow : OpenClaim := { program := "ytfhhpdggmefcoaa", sum := "d28e6ae6140daf8414e89e064aae010a2d72503c0910e7092c91b89b70c58d81", func := "linotype/linotypelaw05.ChunksRead", spec := "chunksRead", inPlace := ["internal/bytealg.MakeNoZero"], recurses := true, apart := false, narrowed := true }
def ChunksReadUptoSaid : Prop := chunksReadUptoRow.holds Try.pinned (OpenSpec.upto chunksReadSpec)

/-- 'linotypelaw06.SpansTell', WHERE WHAT IT READS IS OF BULK AT MOST 1048576: true; the input reads as it did. -/
def spansTellUptoRow : OpenClaim := { program := "ytfhhpdggmefcoaa", sum := "d28e6ae6140daf8414e89e064aae010a2d72503c0910e7092c91b89b70c58d81", func := "linotype/linotypelaw06.SpansTell", spec := "spansTell", unfollowed := true, recurses := true, apart := false, narrowed := true }
def SpansTellUptoSaid : Prop := spansTellUptoRow.holds Try.pinned (OpenSpec.upto spansTellSpec)

/-- 'linotypelaw06.SpansFewest', WHERE WHAT IT READS IS OF BULK AT MOST 1048576: true; the input reads as it did. -/
def spansFewestUptoRow : OpenClaim := { program := "ytfhhpdggmefcoaa", sum := "d28e6ae6140daf8414e89e064aae010a2d72503c0910e7092c91b89b70c58d81", func := "linotype/linotypelaw06.SpansFewest", spec := "spansFewest", unfollowed := true, recurses := true, apart := false, narrowed := true }
def SpansFewestUptoSaid : Prop := spansFewestUptoRow.holds Try.pinned (OpenSpec.upto spansFewestSpec)

/-- 'linotypelaw06.SpansSum', WHERE WHAT IT READS IS OF BULK AT MOST 1048576: true; the input reads as it did. -/
def spansSumUptoRow : OpenClaim := { program := "ytfhhpdggmefcoaa", sum := "d28e6ae6140daf8414e89e064aae010a2d72503c0910e7092c91b89b70c58d81", func := "linotype/linotypelaw06.SpansSum", spec := "spansSum", unfollowed := true, recurses := true, apart := false, narrowed := true }
def SpansSumUptoSaid : Prop := spansSumUptoRow.holds Try.pinned (OpenSpec.upto spansSumSpec)

end Rows
end Go.Proofs.Ytfhhpdggmefcoaa
