/-
  The bounds of any numbers, in plain Lean: what the walk computes answers true. No condition.
-/
import Derived.Test.YtjclbilkinepmaaA
namespace Go.Proofs.Ytjclbilkinepmaa
open Go Go.Lt

theorem w64_in {n : Int} (h : -9223372036854775808 ≤ n ∧ n ≤ 9223372036854775807) : w64 n = n := IntWalk.i64_in n h

theorem bt_works : f_linotypelaw48_works = some true := by decide +kernel

theorem side_ref (n : Int) : f_linotyperef31_Side n = some (imax 1 (imin n 1024)) := by
  simp only [f_linotyperef31_Side, decide_eq_true_eq]
  split
  · simp only [imax, imin]
    congr 1
    split <;> split <;> omega
  · split
    · simp only [imax, imin]
      congr 1
      split <;> split <;> omega
    · simp only [imax, imin]
      congr 1
      split <;> split <;> omega

theorem side_in (n : Int) : 1 ≤ imax 1 (imin n 1024) ∧ imax 1 (imin n 1024) ≤ 1024 := by
  simp only [imax, imin]
  split <;> split <;> omega
theorem count_in (n : Int) : 0 ≤ imax 0 (imin n 1073741824) ∧ imax 0 (imin n 1073741824) ≤ 1073741824 := by
  simp only [imax, imin]
  split <;> split <;> omega

theorem mul_in {a b : Int} (ha : 1 ≤ a ∧ a ≤ 1024) (hb : 1 ≤ b ∧ b ≤ 1024) : 1 ≤ a * b ∧ a * b ≤ 1048576 := by
  have h1 := Int.mul_le_mul ha.1 hb.1 (by omega) (by omega)
  have h2 := Int.mul_le_mul ha.2 hb.2 (by omega) (by omega)
  omega

theorem rows_law {k s : Int} (hk : 1 ≤ k ∧ k ≤ 1073741824) (hs : 2 ≤ s ∧ s ≤ 1024) :
    (2 * k + s - 2) / (s - 1) * (s - 1) ≥ 2 * k ∧ ((2 * k + s - 2) / (s - 1) - 1) * (s - 1) < 2 * k ∧ 1 ≤ (2 * k + s - 2) / (s - 1) ∧ (2 * k + s - 2) / (s - 1) ≤ 2147484670 := by
  have h1 := Int.ediv_mul_add_emod (2 * k + s - 2) (s - 1)
  have h2 := Int.emod_nonneg (2 * k + s - 2) (show s - 1 ≠ 0 by omega)
  have h3 := Int.emod_lt_of_pos (2 * k + s - 2) (show 0 < s - 1 by omega)
  have h4 : ((2 * k + s - 2) / (s - 1) - 1) * (s - 1) = (2 * k + s - 2) / (s - 1) * (s - 1) - (s - 1) := by rw [Int.sub_mul, Int.one_mul]
  have h5 := Int.ediv_le_self (s - 1) (show 0 ≤ 2 * k + s - 2 by omega)
  have h6 : 1 ≤ (2 * k + s - 2) / (s - 1) := Int.le_ediv_of_mul_le (by omega) (by omega)
  refine ⟨by omega, by omega, by omega, by omega⟩

theorem boundTells_true (n w h : Int) : f_linotypelaw48_BoundTells n w h = some true := by
  have hk := count_in n
  have hs := side_in w
  have ht := side_in h
  have hm := mul_in hs ht
  simp only [f_linotypelaw48_BoundTells, f_bound_Most, f_bound_side, f_bound_Rows, f_bound_Columns, f_bound_count, side_ref, bt_works, Option.bind_some]
  generalize imax 0 (imin n 1073741824) = k at *
  generalize imax 1 (imin w 1024) = s at *
  generalize imax 1 (imin h 1024) = t at *
  have e1 : w64 (s * t) = s * t := w64_in (by omega)
  have e2 : w64 (16 * s) = 16 * s := w64_in (by omega)
  have e3 : 16 * s * t = s * t * 16 := by rw [Int.mul_assoc, Int.mul_comm]
  have e4 : w64 (2 * k) = 2 * k := w64_in (by omega)
  have e5 : w64 (k + k) = 2 * k := by rw [w64_in (by omega)]; omega
  have e6 : w64 (s - 1) = s - 1 := w64_in (by omega)
  have e7 : w64 (2 * k + s) = 2 * k + s := w64_in (by omega)
  have e8 : w64 (2 * k + s - 2) = 2 * k + s - 2 := w64_in (by omega)
  simp only [e1, e2, e3, e4, e5, e6, e7, e8, Bool.not_true, orE, Bool.false_eq_true, if_false, bne_self_eq_false, Option.bind_some]
  by_cases h0 : k = 0
  · simp [h0, imax]
  · by_cases h1 : s = 1
    · have : imax 1 k = k := by
        simp only [imax]
        split <;> omega
      simp [h0, h1, this]
    · have hr := rows_law (k := k) (s := s) (by omega) (by omega)
      have hq : w64 ((2 * k + s - 2).tdiv (s - 1)) = (2 * k + s - 2) / (s - 1) := IntWalk.i64_quo _ _ (by omega)
      have hd : dvg (s - 1) = some () := by simp [dvg]; omega
      generalize (2 * k + s - 2) / (s - 1) = q at *
      have e9 : w64 (q - 1) = q - 1 := w64_in (by omega)
      have hx : (q - 1) * (s - 1) = q * (s - 1) - (s - 1) := by rw [Int.sub_mul, Int.one_mul]
      have hqs : q * (s - 1) ≤ 2147484670 * 1023 := Int.mul_le_mul hr.2.2.2 (by omega) (by omega) (by omega)
      have e10 : w64 (q * (s - 1)) = q * (s - 1) := w64_in (by omega)
      have e11 : w64 ((q - 1) * (s - 1)) = (q - 1) * (s - 1) := w64_in (by omega)
      have g1 := hr.1
      have g2 := hr.2.1
      simp [h0, h1, hd, hq, e9, e10, e11, andE, g1, g2]

end Go.Proofs.Ytjclbilkinepmaa
