import Derived.Test.YtfhhpdggmefcoaaFa
import Derived.Test.YtfhhpdggmefcoaaMy
import Derived.KernelRfl
namespace Go.Proofs.Ytfhhpdggmefcoaa
open Go Go.Lt
set_option linter.unusedVariables false

theorem len3 {α : Type} {cs : List α} (h : cs.length = 3) : ∃ a0 a1 a2, cs = [a0, a1, a2] := by
  match cs, h with
  | [a0, a1, a2], _ => exact ⟨_, _, _, rfl⟩

def K_5 (n : Int) : Prop := (Lit.int .u8 n).wf = true
theorem D_5 : Rd Try.prog 5 (RI .u8) K_5 := Rd.int Try.underlying5 (by kernel_rfl)

def K_22 (xs : List Int) : Prop := xs.length ≤ maxLen ∧ ∀ x ∈ xs, K_5 x
theorem D_22 : Rd Try.prog 22 (RL (RI .u8)) K_22 := Rd.slice Try.underlying22 (by kernel_rfl) (by decide) D_5

def K_3 (n : Int) : Prop := (Lit.int .i64 n).wf = true
theorem D_3 : Rd Try.prog 3 (RI .i64) K_3 := Rd.int Try.underlying3 (by kernel_rfl)

def K_23 (xs : List Int) : Prop := xs.length ≤ maxLen ∧ ∀ x ∈ xs, K_3 x
theorem D_23 : Rd Try.prog 23 (RL (RI .i64)) K_23 := Rd.slice Try.underlying23 (by kernel_rfl) (by decide) D_3

def K_41 (x : G_api_Span) : Prop := K_3 x.Lo ∧ K_3 x.Hi ∧ K_3 x.Val
theorem D_41 : Rd Try.prog 41 R_api_Span K_41 := by
  refine ⟨by kernel_rfl, fun {H enc w sp held fuel cs x} h => ?_⟩
  obtain ⟨xs, n, rfl, rfl, hl, hn, hf⟩ := DataW.trod_struct Try.underlying41 h
  replace hl := hl.trans (show Try.prog.cellsOf 41 = 3 by kernel_rfl)
  obtain ⟨a0, a1, a2, rfl⟩ := len3 hl
  obtain ⟨y0, e0, k0⟩ := Rd.field hf hn 0 rfl D_3
  have e0 : [a0] = [.int .i64 y0] := e0
  cases e0
  obtain ⟨y1, e1, k1⟩ := Rd.field hf hn 1 rfl D_3
  have e1 : [a1] = [.int .i64 y1] := e1
  cases e1
  obtain ⟨y2, e2, k2⟩ := Rd.field hf hn 2 rfl D_3
  have e2 : [a2] = [.int .i64 y2] := e2
  cases e2
  exact ⟨⟨y0, y1, y2⟩, rfl, k0, k1, k2⟩

def K_35 (xs : List G_api_Span) : Prop := xs.length ≤ maxLen ∧ ∀ x ∈ xs, K_41 x
theorem D_35 : Rd Try.prog 35 (RL R_api_Span) K_35 := Rd.slice Try.underlying35 (by kernel_rfl) (by decide) D_41

def K_44 (xs : List (List G_api_Span)) : Prop := xs.length ≤ maxLen ∧ ∀ x ∈ xs, K_35 x
theorem D_44 : Rd Try.prog 44 (RL (RL R_api_Span)) K_44 := Rd.slice Try.underlying44 (by kernel_rfl) (by decide) D_35

end Go.Proofs.Ytfhhpdggmefcoaa