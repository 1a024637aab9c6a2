/-
  Without a pen, or a grid, nothing is begun, in plain Lean: WidenNone answers true. No condition.
-/
import Derived.Test.YtohpkblleihmaaaDoorW2
import Derived.KernelRfl
namespace Go.Proofs.YtohpkblleihmaaaDoor
open Go Go.Lt
theorem of_snd {γ : Type} {x : Option (γ × Bool)} (h : x.map (fun q => q.2) = some true) : ∃ s, x = some (s, true) := by
  cases x with
  | none => cases h
  | some q =>
    obtain ⟨a, b⟩ := q
    simp only [Option.map_some, Option.some.injEq] at h
    subst h
    exact ⟨a, rfl⟩
set_option maxRecDepth 100000 in
theorem works35_0 : (f_linotypelaw35_works ⟨[], [], [], []⟩).map (fun q => q.2) = some true := by kernel_rfl
set_option maxRecDepth 100000 in
theorem widenNone_0 (r : Int) (x : G_api_Prop) : (f_linotypelaw35_WidenNone ⟨[], [], [], []⟩ r x).map (fun q => q.2) = some true := by kernel_rfl
theorem widenNone_true (r : Int) (x : G_api_Prop) : ∃ s', f_linotypelaw35_WidenNone ⟨[], [], [], []⟩ r x = some (s', true) := of_snd (widenNone_0 r x)
end Go.Proofs.YtohpkblleihmaaaDoor
