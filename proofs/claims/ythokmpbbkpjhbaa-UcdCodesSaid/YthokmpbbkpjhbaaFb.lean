import Derived.Test.YthokmpbbkpjhbaaFa
import Derived.Test.YthokmpbbkpjhbaaMy
import Derived.KernelRfl
namespace Go.Proofs.Ythokmpbbkpjhbaa
open Go Go.Lt
set_option linter.unusedVariables false

theorem len4 {α : Type} {cs : List α} (h : cs.length = 4) : ∃ a0 a1 a2 a3, cs = [a0, a1, a2, a3] := by
  match cs, h with
  | [a0, a1, a2, a3], _ => exact ⟨_, _, _, _, rfl⟩

def K_21 (n : Int) : Prop := (Lit.int .i32 n).wf = true
theorem D_21 : Rd Try.prog 21 (RI .i32) K_21 := Rd.int Try.underlying21 (by kernel_rfl)

def K_3 (n : Int) : Prop := (Lit.int .i64 n).wf = true
theorem D_3 : Rd Try.prog 3 (RI .i64) K_3 := Rd.int Try.underlying3 (by kernel_rfl)

def K_4 (_ : Bool) : Prop := True
theorem D_4 : Rd Try.prog 4 RB K_4 := Rd.bool Try.underlying4 (by kernel_rfl)

def K_23 (x : G_api_Prop) : Prop := K_3 x.Break ∧ K_4 x.Pict ∧ K_3 x.Conj ∧ K_3 x.East
theorem D_23 : Rd Try.prog 23 R_api_Prop K_23 := by
  refine ⟨by kernel_rfl, fun {H enc w sp held fuel cs x} h => ?_⟩
  obtain ⟨xs, n, rfl, rfl, hl, hn, hf⟩ := DataW.trod_struct Try.underlying23 h
  replace hl := hl.trans (show Try.prog.cellsOf 23 = 4 by kernel_rfl)
  obtain ⟨a0, a1, a2, a3, rfl⟩ := len4 hl
  obtain ⟨y0, e0, k0⟩ := Rd.field hf hn 0 rfl D_3
  have e0 : [a0] = [.int .i64 y0] := e0
  cases e0
  obtain ⟨y1, e1, k1⟩ := Rd.field hf hn 1 rfl D_4
  have e1 : [a1] = [.bool y1] := e1
  cases e1
  obtain ⟨y2, e2, k2⟩ := Rd.field hf hn 2 rfl D_3
  have e2 : [a2] = [.int .i64 y2] := e2
  cases e2
  obtain ⟨y3, e3, k3⟩ := Rd.field hf hn 3 rfl D_3
  have e3 : [a3] = [.int .i64 y3] := e3
  cases e3
  exact ⟨⟨y0, y1, y2, y3⟩, rfl, k0, k1, k2, k3⟩

end Go.Proofs.Ythokmpbbkpjhbaa