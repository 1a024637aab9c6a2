/-
  What is erased in rows, in plain Lean: what each way leaves. Conditions: lists are shorter than 2^63.
-/
import Derived.Test.YthokmpbbkpjhbaaGreatDoorPe
namespace Go.Proofs.YthokmpbbkpjhbaaGreatDoor
open Go Go.Lt
variable {s : Sto} {k : Nat} {l p : List G_api_Cell} {w : Bool}

theorem row_goon0 (on : Bool) : f_row_Row_GoOn s none on = some s := rfl
/-- What an act leaves. -/
def ac (l : List G_api_Cell) (w : Bool) (x A B : Int) : G_row_Row :=
  if x = 0 then rg l w (cl A l.length) (cl B l.length)
  else if x = 1 then rg l w 0 (cl (max (-1) (min A l.length) + 1) l.length)
  else if x = 2 then rg l w (cl A l.length) l.length
  else if x = 3 then ⟨(rg l w 0 l.length).cells, false⟩
  else if 0 ≤ A ∧ 0 < B then rg l w (cl A l.length) (cl (((cl A l.length : Nat) : Int) + ((cl B l.length : Nat) : Int)) l.length) else ⟨l, w⟩
theorem rg_no {a b : Nat} (h : b ≤ a) : rg l w a b = ⟨l, w⟩ := by
  unfold rg
  rw [if_neg (by omega)]
theorem cl_0 (m : Nat) : cl 0 m = 0 := by unfold cl; omega
theorem cl_self (m : Nat) : cl (m : Int) m = m := by unfold cl; omega

theorem erase_range (h : s.row_Row[k]? = some ⟨l, w⟩) (hs : Snd l) (hl : l.length ≤ 1024) (a b : Int) : f_erase_Range s (some k) a b = some (s.sr k (ac l w 0 a b)) := by
  rw [range_eq h hs hl]
  rfl
theorem erase_left (h : s.row_Row[k]? = some ⟨l, w⟩) (hs : Snd l) (hl : l.length ≤ 1024) (a b : Int) : f_erase_Left s (some k) a = some (s.sr k (ac l w 1 a b)) := by
  unfold f_erase_Left f_erase_held
  simp only [row_wide h, bsm, imax_eq, imin_eq]
  rw [w64_in (by omega), range_eq h hs hl, cl_0]
  rfl
theorem erase_right (h : s.row_Row[k]? = some ⟨l, w⟩) (hs : Snd l) (hl : l.length ≤ 1024) (a b : Int) : f_erase_Right s (some k) a = some (s.sr k (ac l w 2 a b)) := by
  unfold f_erase_Right
  simp only [row_wide h, bsm]
  rw [range_eq h hs hl, cl_self]
  rfl
theorem erase_all (h : s.row_Row[k]? = some ⟨l, w⟩) (hs : Snd l) (hl : l.length ≤ 1024) (a b : Int) : f_erase_All s (some k) = some (s.sr k (ac l w 3 a b)) := by
  have hk := get_lt h
  unfold f_erase_All
  simp only [row_wide h, bsm]
  rw [range_eq h hs hl, cl_self, cl_0]
  simp only [bsm]
  rw [row_goon (l := (rg l w 0 l.length).cells) (w := (rg l w 0 l.length).wrap) (sr_get hk), sr_sr]
  rfl
theorem erase_cells (h : s.row_Row[k]? = some ⟨l, w⟩) (hs : Snd l) (hl : l.length ≤ 1024) (a b : Int) : f_erase_Cells s (some k) a b = some (s.sr k (ac l w 4 a b)) := by
  rw [cells_eq h hs hl, show ac l w 4 a b = if 0 ≤ a ∧ 0 < b then rg l w (cl a l.length) (cl (((cl a l.length : Nat) : Int) + ((cl b l.length : Nat) : Int)) l.length) else ⟨l, w⟩ by rfl]
  split
  · rfl
  · rw [sr_id h]

theorem ref_act (l : List G_api_Cell) (w : Bool) (hl : l.length ≤ 1024) (x A B : Int) : f_linotyperef26_Act l w x A B = some ((ac l w x A B).cells, (ac l w x A B).wrap) := by
  unfold f_linotyperef26_Act ac
  by_cases h0 : x = 0
  · rw [if_pos (by simpa using h0), if_pos h0, ref_range l w hl]
    rfl
  rw [if_neg (by simpa using h0), if_neg h0]
  by_cases h1 : x = 1
  · rw [if_pos (by simpa using h1), if_pos h1]
    by_cases hA : A < 0
    · rw [if_pos (by simpa using hA), show max (-1) (min A (l.length : Int)) + 1 = 0 by omega, cl_0, rg_no (Nat.le_refl _)]
    · rw [if_neg (by simpa using hA), imin_eq, w64_in (by omega), ref_range l w hl, cl_0, show max (-1) (min A (l.length : Int)) = min A (l.length : Int) by omega]
      rfl
  rw [if_neg (by simpa using h1), if_neg h1]
  by_cases h2 : x = 2
  · rw [if_pos (by simpa using h2), if_pos h2, ref_range l w hl, cl_self]
    rfl
  rw [if_neg (by simpa using h2), if_neg h2]
  by_cases h3 : x = 3
  · rw [if_pos (by simpa using h3), if_pos h3, ref_range l w hl, cl_self, cl_0]
    rfl
  rw [if_neg (by simpa using h3), if_neg h3]
  simp only [orE_some, bsm]
  by_cases hA : 0 ≤ A ∧ 0 < B
  · rw [if_pos hA]
    by_cases hg : (l.length : Int) ≤ A
    · rw [if_pos (by simp; omega), show cl A l.length = l.length by unfold cl; omega, rg_no (cl_le _ _)]
    · rw [if_neg (by simp; omega), imin_eq, w64_in (by omega), ref_range l w hl]
      rw [show cl (A + min B (l.length : Int)) l.length = cl (((cl A l.length : Nat) : Int) + ((cl B l.length : Nat) : Int)) l.length by unfold cl; omega]
      rfl
  · rw [if_neg hA, if_pos (by simp; omega)]

theorem ac_snd (hs : Snd l) (x A B : Int) : Snd (ac l w x A B).cells := by
  unfold ac
  repeat' split
  all_goals first | exact hs | exact rg_snd hs (cl_le _ _) | exact rg_snd hs (Nat.le_refl _)
theorem ac_len (x A B : Int) : (ac l w x A B).cells.length = l.length := by
  unfold ac
  repeat' split
  all_goals first | rfl | exact rg_len _ _
end Go.Proofs.YthokmpbbkpjhbaaGreatDoor
