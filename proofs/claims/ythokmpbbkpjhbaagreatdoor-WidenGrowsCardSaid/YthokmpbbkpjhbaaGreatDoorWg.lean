/-
  A strip painted over a shorter one, in plain Lean; a cluster put anew and wider leaves what had been put at once. Conditions: strips lie in their rows.
-/
import Derived.Test.YthokmpbbkpjhbaaGreatDoorPm
namespace Go.Proofs.YthokmpbbkpjhbaaGreatDoor
open Go Go.Lt
variable {s : Sto} {k g W : Nat} {l p p' : List G_api_Cell} {w : Bool} {q : G_linotyperef34_Pen} {ks : List Nat}

theorem tch_iff (l : List G_api_Cell) (a n j : Nat) : tch l a n j = true ↔ (a ≤ j ∧ j < a + n) ∨ (kd l j = 2 ∧ a ≤ j + 1 ∧ j + 1 < a + n) ∨ (kd l j = 3 ∧ a + 1 ≤ j ∧ j < a + n + 1) := by
  simp only [tch, Bool.or_eq_true, Bool.and_eq_true, decide_eq_true_eq]
  omega
/-- What a strip leaves outside. -/
theorem pc_off {c j : Nat} (h : ¬ (c ≤ j ∧ j < c + p.length)) : pc l c p j = if (kd l j = 2 ∧ j + 1 = c ∧ 0 < p.length) ∨ (kd l j = 3 ∧ j = c + p.length ∧ 0 < p.length) then bl else l.getD j bl := by
  rw [pc_out h]
  by_cases ht : tch l c p.length j = true
  · rw [if_pos ht, if_pos]
    rw [tch_iff] at ht
    omega
  · rw [if_neg ht, if_neg]
    rw [tch_iff] at ht
    omega
theorem kd_off {c j : Nat} (hj : j < l.length) (h : ¬ (c ≤ j ∧ j < c + p.length)) : kd (pl l c p) j = if (kd l j = 2 ∧ j + 1 = c ∧ 0 < p.length) ∨ (kd l j = 3 ∧ j = c + p.length ∧ 0 < p.length) then 0 else kd l j := by
  rw [kd_pl hj, pc_off h]
  split
  · rfl
  · exact kd_getD l j
theorem pl_over {a c : Nat} (h1 : a ≤ c) (h2 : c + p.length ≤ a + p'.length) (h3 : a + p'.length ≤ l.length) : pl (pl l c p) a p' = pl l a p' := by
  apply List.ext_getElem?
  intro j
  rcases Nat.lt_or_ge j l.length with hj | hj
  · rw [pl_get (by rw [pl_len]; exact hj), pl_get hj]
    congr 1
    by_cases hi : a ≤ j ∧ j < a + p'.length
    · rw [pc_in hi, pc_in hi]
    · have hc : ¬ (c ≤ j ∧ j < c + p.length) := by omega
      have hg : (pl l c p).getD j bl = pc l c p j := by rw [List.getD_eq_getElem?_getD, pl_get hj]; rfl
      rw [pc_off hi, pc_off hi, kd_off hj hc, hg, pc_off hc]
      by_cases hA : (kd l j = 2 ∧ j + 1 = c ∧ 0 < p.length) ∨ (kd l j = 3 ∧ j = c + p.length ∧ 0 < p.length)
      · rw [if_pos hA, if_pos hA, if_neg (by omega), if_pos (by omega)]
      · rw [if_neg hA, if_neg hA]
  · rw [List.getElem?_eq_none (by rw [pl_len, pl_len]; exact hj), List.getElem?_eq_none (by rw [pl_len]; exact hj)]
theorem pw_over {a c : Nat} (h1 : a ≤ c) (h2 : c + p.length ≤ a + p'.length) (h3 : a + p'.length ≤ l.length) : pw (pl l c p) (pw l w c p.length) a p'.length = pw l w a p'.length := by
  unfold pw
  rw [pl_len]
  by_cases hl : 0 < l.length
  · have e : (tch l c p.length (l.length - 1) || tch (pl l c p) a p'.length (l.length - 1)) = tch l a p'.length (l.length - 1) := by
      rw [Bool.eq_iff_iff, Bool.or_eq_true, tch_iff, tch_iff, tch_iff]
      by_cases hc : c ≤ l.length - 1 ∧ l.length - 1 < c + p.length
      · omega
      · rw [kd_off (by omega) hc]
        split <;> omega
    rw [show decide (0 < l.length) = true by simpa using hl, Bool.true_and, Bool.true_and, Bool.and_assoc, ← Bool.not_or, e, Bool.true_and]
  · rw [show decide (0 < l.length) = false by simpa using hl]
    simp
end Go.Proofs.YthokmpbbkpjhbaaGreatDoor
