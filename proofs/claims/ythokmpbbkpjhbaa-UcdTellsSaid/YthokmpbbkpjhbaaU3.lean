/-
  What is known of numbers, and its codes, in plain Lean: UcdTells and UcdCodes answer true. Conditions: numbers are those of 32 bits, codes of 64.
-/
import Derived.Test.YthokmpbbkpjhbaaUb
import Derived.Test.YthokmpbbkpjhbaaU2
namespace Go.Proofs.Ythokmpbbkpjhbaa
open Go Go.Lt

theorem works13 : f_linotypelaw13_works = some true := by kernel_rfl
theorem ucdTells_true (r : Int) (h : r32 r) : f_linotypelaw13_UcdTells r = some true := by
  unfold f_linotypelaw13_UcdTells
  rw [ucd_of r h, ref13 r h, works13]
  simp only [bsm, BEq.rfl, Bool.and_true, andE_some]

/-- Has a property a code? -/
def pok (p : G_api_Prop) : Prop := (0 ≤ p.Break ∧ p.Break ≤ 13) ∧ (0 ≤ p.Conj ∧ p.Conj ≤ 3) ∧ (0 ≤ p.East ∧ p.East ≤ 3)
instance (p : G_api_Prop) : Decidable (pok p) := by unfold pok; infer_instance
def cod (p : G_api_Prop) : Int := p.East * 128 + p.Conj * 32 + (if p.Pict = true then 16 else 0) + p.Break
theorem code_eq (p : G_api_Prop) : f_ucd_Code p = some (if pok p then cod p else -1) := by
  unfold f_ucd_Code
  simp only [orE_some, bsm]
  rw [ite_b (p := ¬ pok p) (by unfold pok; simp; omega)]
  by_cases h : pok p
  · rw [if_neg (by simpa using h), if_pos h]
    have h2 := h
    unfold pok at h2
    unfold cod
    cases hp : p.Pict with
    | true =>
      simp only [if_true, bsm]
      rw [show w64 (32 * p.Conj) = 32 * p.Conj from w64_in (by omega), show w64 (128 * p.East) = 128 * p.East from w64_in (by omega), show w64 (p.Break + 32 * p.Conj) = p.Break + 32 * p.Conj from w64_in (by omega),
        show w64 (p.Break + 32 * p.Conj + 128 * p.East) = p.Break + 32 * p.Conj + 128 * p.East from w64_in (by omega), w64_in (by omega)]
      congr 1
      omega
    | false =>
      simp only [Bool.false_eq_true, if_false, bsm]
      rw [show w64 (32 * p.Conj) = 32 * p.Conj from w64_in (by omega), show w64 (128 * p.East) = 128 * p.East from w64_in (by omega), show w64 (p.Break + 32 * p.Conj) = p.Break + 32 * p.Conj from w64_in (by omega), w64_in (by omega)]
      congr 1
      omega
  · rw [if_pos h, if_neg h]
theorem rcode_eq (p : G_api_Prop) : f_linotyperef13_Code p = some (if pok p then cod p else -1) := by
  unfold f_linotyperef13_Code
  simp only [orE_some, bsm]
  rw [ite_b (p := ¬ pok p) (by unfold pok; simp; omega)]
  by_cases h : pok p
  · rw [if_neg (by simpa using h), if_pos h]
    have h2 := h
    unfold pok at h2
    unfold cod
    cases hp : p.Pict with
    | true =>
      simp only [if_true, bsm]
      rw [show w64 (p.East * 4) = p.East * 4 from w64_in (by omega), show w64 (p.East * 4 + p.Conj) = p.East * 4 + p.Conj from w64_in (by omega), show w64 ((p.East * 4 + p.Conj) * 2) = (p.East * 4 + p.Conj) * 2 from w64_in (by omega),
        show w64 ((p.East * 4 + p.Conj) * 2 + 1) = (p.East * 4 + p.Conj) * 2 + 1 from w64_in (by omega), show w64 (((p.East * 4 + p.Conj) * 2 + 1) * 16) = ((p.East * 4 + p.Conj) * 2 + 1) * 16 from w64_in (by omega), w64_in (by omega)]
      congr 1
      omega
    | false =>
      simp only [Bool.false_eq_true, if_false, bsm]
      rw [show w64 (p.East * 4) = p.East * 4 from w64_in (by omega), show w64 (p.East * 4 + p.Conj) = p.East * 4 + p.Conj from w64_in (by omega), show w64 ((p.East * 4 + p.Conj) * 2) = (p.East * 4 + p.Conj) * 2 from w64_in (by omega),
        show w64 ((p.East * 4 + p.Conj) * 2 + 0) = (p.East * 4 + p.Conj) * 2 from by rw [w64_in (by omega)]; omega, show w64 (((p.East * 4 + p.Conj) * 2) * 16) = ((p.East * 4 + p.Conj) * 2) * 16 from w64_in (by omega), w64_in (by omega)]
      congr 1
      omega
  · rw [if_pos h, if_neg h]
theorem prop_eq (c : Int) (hc : 0 ≤ c) (h2 : c ≤ 511) (h3 : c % 16 ≤ 13) : f_ucd_Prop c = some ⟨c % 16, c / 16 % 2 == 1, c / 32 % 4, c / 128⟩ := by
  unfold f_ucd_Prop
  simp only [orE_some, bsm]
  have t1 : c.tmod 16 = c % 16 := Int.tmod_eq_emod_of_nonneg hc
  have d1 : c.tdiv 16 = c / 16 := Int.tdiv_eq_ediv_of_nonneg hc
  have d2 : c.tdiv 32 = c / 32 := Int.tdiv_eq_ediv_of_nonneg hc
  have d3 : c.tdiv 128 = c / 128 := Int.tdiv_eq_ediv_of_nonneg hc
  rw [t1, d1, d2, d3, show w64 (c / 16) = c / 16 from w64_in (by omega), show w64 (c / 32) = c / 32 from w64_in (by omega), show w64 (c / 128) = c / 128 from w64_in (by omega)]
  rw [Int.tmod_eq_emod_of_nonneg (show 0 ≤ c / 16 by omega), Int.tmod_eq_emod_of_nonneg (show 0 ≤ c / 32 by omega)]
  rw [if_neg (by simp; omega)]
theorem cod_in {p : G_api_Prop} (h : pok p) : 0 ≤ cod p ∧ cod p ≤ 511 ∧ cod p % 16 ≤ 13 ∧ (⟨cod p % 16, cod p / 16 % 2 == 1, cod p / 32 % 4, cod p / 128⟩ : G_api_Prop) = p := by
  obtain ⟨b, pi, c, e⟩ := p
  unfold pok at h
  unfold cod
  simp only at h ⊢
  cases pi
  · simp only [Bool.false_eq_true, if_false]
    refine ⟨by omega, by omega, by omega, ?_⟩
    rw [show (e * 128 + c * 32 + 0 + b) % 16 = b by omega, show (e * 128 + c * 32 + 0 + b) / 16 % 2 = 0 by omega, show (e * 128 + c * 32 + 0 + b) / 32 % 4 = c by omega, show (e * 128 + c * 32 + 0 + b) / 128 = e by omega]
    rfl
  · simp only [if_true]
    refine ⟨by omega, by omega, by omega, ?_⟩
    rw [show (e * 128 + c * 32 + 16 + b) % 16 = b by omega, show (e * 128 + c * 32 + 16 + b) / 16 % 2 = 1 by omega, show (e * 128 + c * 32 + 16 + b) / 32 % 4 = c by omega, show (e * 128 + c * 32 + 16 + b) / 128 = e by omega]
    rfl
theorem ucdCodes_true (p : G_api_Prop) (c : Int) : f_linotypelaw13_UcdCodes p c = some true := by
  unfold f_linotypelaw13_UcdCodes
  rw [works13, code_eq, rcode_eq]
  simp only [bsm, Bool.not_true, orE_false, bne_self_eq_false, Bool.false_eq_true, if_false]
  have h1 : (andE (decide ((if pok p then cod p else -1) ≥ 0)) ((f_ucd_Prop (if pok p then cod p else -1)).bind fun x_24 =>
      some (!(x_24.Break == p.Break && (x_24.Pict == p.Pict && (x_24.Conj == p.Conj && (x_24.East == p.East && true))))))) = some false := by
    by_cases h : pok p
    · obtain ⟨a1, a2, a3, a4⟩ := cod_in h
      rw [if_pos h, prop_eq _ a1 a2 a3, a4]
      simp only [bsm, BEq.rfl, Bool.and_true, Bool.not_true]
      rw [andE_some, Bool.and_false]
    · rw [if_neg h]
      rfl
  rw [h1]
  simp only [bsm, Bool.false_eq_true, if_false, orE_some]
  by_cases hc : (c < 0 ∨ 511 < c) ∨ 13 < c.tmod 16
  · rw [show f_ucd_Prop c = some ⟨0, false, 0, 0⟩ by
      unfold f_ucd_Prop
      simp only [orE_some, bsm]
      rw [if_pos (by simp; omega)]]
    simp only [bsm]
    rw [if_pos (by simpa using hc)]
    rfl
  · have c0 : 0 ≤ c := by omega
    have t1 : c.tmod 16 = c % 16 := Int.tmod_eq_emod_of_nonneg c0
    rw [t1] at hc
    rw [prop_eq c c0 (by omega) (by omega), t1]
    simp only [bsm]
    rw [if_neg (by simp; omega), rcode_eq, if_pos (by unfold pok; simp only; omega)]
    simp only [bsm]
    congr 1
    rw [beq_iff_eq]
    unfold cod
    simp only [beq_iff_eq]
    split <;> omega
end Go.Proofs.Ythokmpbbkpjhbaa
