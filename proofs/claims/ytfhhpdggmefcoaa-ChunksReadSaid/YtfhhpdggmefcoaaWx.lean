/-
  What is reckoned from the empty store. Plain Lean. No condition.
-/
import Derived.Test.YtfhhpdggmefcoaaMy
namespace Go.Proofs.Ytfhhpdggmefcoaa
open Go Go.Lt
theorem of_snd {γ : Type} {x : Option (γ × Bool)} (h : x.map (fun q => q.2) = some true) : ∃ s, x = some (s, true) := by
  cases x with
  | none => cases h
  | some q =>
    obtain ⟨a, b⟩ := q
    simp only [Option.map_some, Option.some.injEq] at h
    subst h
    exact ⟨a, rfl⟩
/-- What is done twice, one behind the other. -/
theorem of_two {f : Sto → Option (Sto × Bool)} {s : Sto} (h1 : (f s).map (fun q => q.2) = some true) (h2 : ((f s).bind fun q => f q.1).map (fun q => q.2) = some true) : ∃ s1 s2, f s = some (s1, true) ∧ f s1 = some (s2, true) := by
  obtain ⟨s1, e1⟩ := of_snd h1
  rw [e1] at h2
  obtain ⟨s2, e2⟩ := of_snd h2
  exact ⟨s1, s2, e1, e2⟩
theorem wf8 {n : Int} (h : (Lit.int .u8 n).wf = true) : 0 ≤ n ∧ n ≤ 255 := by
  simp only [Lit.wf, IntKind.min, IntKind.max, IntKind.signed, IntKind.bits, Bool.and_eq_true, decide_eq_true_eq, Bool.false_eq_true, if_false] at h
  omega
end Go.Proofs.Ytfhhpdggmefcoaa
