/-
  What is erased in rows, in plain Lean: Conditions: lists are shorter than 2^63.
-/
import Derived.Test.YthokmpbbkpjhbaaGreatDoorPd
import Derived.Test.YthokmpbbkpjhbaaGreatDoorE1
namespace Go.Proofs.YthokmpbbkpjhbaaGreatDoor
open Go Go.Lt
variable {s : Sto} {k : Nat} {l p : List G_api_Cell} {w : Bool}

theorem cl_id {c m : Nat} (h : c ≤ m) : cl (c : Int) m = c := by unfold cl; omega
theorem held_eq (n : Int) (m : Nat) : f_erase_held n 0 m = some ((cl n m : Nat) : Int) := by
  simp only [f_erase_held, imax_eq, imin_eq, cl, Option.some.injEq]
  omega
/-- The range made blank. -/
def rg (l : List G_api_Cell) (w : Bool) (a b : Nat) : G_row_Row := if a < b then ⟨pl l a (List.replicate (b - a) bl), pw l w a (b - a)⟩ else ⟨l, w⟩
theorem rg_snd {a b : Nat} (h : Snd l) (hb : b ≤ l.length) : Snd (rg l w a b).cells := by
  unfold rg
  split
  · exact h.paint (snd_bl _) (by simp; omega)
  · exact h
theorem rg_len (a b : Nat) : (rg l w a b).cells.length = l.length := by
  unfold rg
  split
  · exact pl_len _ _ _
  · rfl
theorem range_eq (h : s.row_Row[k]? = some ⟨l, w⟩) (hs : Snd l) (hl : l.length ≤ 1024) (a b : Int) :
    f_erase_Range s (some k) a b = some (s.sr k (rg l w (cl a l.length) (cl b l.length))) := by
  unfold f_erase_Range
  simp only [row_wide h, bsm, held_eq]
  have ha := cl_le a l.length
  have hb := cl_le b l.length
  generalize cl a l.length = a' at *
  generalize cl b l.length = b' at *
  unfold rg
  by_cases hab : a' < b'
  · have e : w64 ((b' : Int) - (a' : Int)) = ((b' - a' : Nat) : Int) := by rw [w64_in (by omega)]; omega
    rw [if_pos (by simp; omega), if_pos hab, e, blanks, show (max 0 (min (((b' - a' : Nat)) : Int) 1024)).toNat = b' - a' by omega]
    simp only [bsm]
    rw [row_paint h hs hl (snd_bl _) (by simp; omega) (by simp; omega)]
    simp
  · rw [if_neg (by simp; omega), if_neg hab, sr_id h]
theorem held0 (n : Int) : f_erase_held n 0 0 = some 0 := by
  simp only [f_erase_held, imax_eq, imin_eq, Option.some.injEq]
  omega
theorem range_nil (a b : Int) : f_erase_Range s none a b = some s := by
  unfold f_erase_Range
  simp only [row_wide0, bsm, held0]
  rw [if_neg (by simp)]
theorem ref_range (l : List G_api_Cell) (w : Bool) (hl : l.length ≤ 1024) (a b : Int) : f_linotyperef26_Range l w a b = some ((rg l w (cl a l.length) (cl b l.length)).cells, (rg l w (cl a l.length) (cl b l.length)).wrap) := by
  unfold f_linotyperef26_Range
  have ha := cl_le a l.length
  have hb := cl_le b l.length
  have ea : imax 0 (imin a (l.length : Int)) = ((cl a l.length : Nat) : Int) := by simp only [imax_eq, imin_eq, cl]; omega
  have eb : imax 0 (imin b (l.length : Int)) = ((cl b l.length : Nat) : Int) := by simp only [imax_eq, imin_eq, cl]; omega
  rw [ea, eb]
  generalize cl a l.length = a' at *
  generalize cl b l.length = b' at *
  unfold rg
  by_cases hab : a' < b'
  · have e : w64 ((b' : Int) - (a' : Int)) = ((b' - a' : Nat) : Int) := by rw [w64_in (by omega)]; omega
    rw [if_neg (by simp; omega), if_pos hab, e, rep_eq _ (by omega)]
    simp only [bsm]
    have := ref_paint l w a' (List.replicate (b' - a') bl) (by omega) (by omega) (by simp; omega)
    rw [List.length_replicate] at this
    rw [show (List.replicate (((b' - a' : Nat) : Int).toNat) (⟨0, ([] : List Int)⟩ : G_api_Cell)) = List.replicate (b' - a') bl by rfl, this]
    rfl
  · rw [if_pos (by simp; omega), if_neg hab]

theorem snd_of2 : Snd [⟨2, [19968]⟩, ⟨3, []⟩] := by
  have := snd_strip 2 (fx_vld [19968]) (by decide)
  exact this
theorem of2 : f_linotyperef23_Of 2 [19968] = some [⟨2, [19968]⟩, ⟨3, []⟩] := ref_of 2 [19968] (by decide)

theorem cells_eq (h : s.row_Row[k]? = some ⟨l, w⟩) (hs : Snd l) (hl : l.length ≤ 1024) (col n : Int) :
    f_erase_Cells s (some k) col n = some (if 0 ≤ col ∧ 0 < n then s.sr k (rg l w (cl col l.length) (cl (((cl col l.length : Nat) : Int) + ((cl n l.length : Nat) : Int)) l.length)) else s) := by
  unfold f_erase_Cells
  simp only [andE_some, bsm]
  by_cases hc : 0 ≤ col ∧ 0 < n
  · rw [if_pos (by simp; omega), if_pos hc]
    simp only [row_wide h, bsm, held_eq]
    have h1 := cl_le col l.length
    have h2 := cl_le n l.length
    rw [w64_in (by omega), range_eq h hs hl]
    simp only [bsm, cl_id h1]
  · rw [if_neg (by simp; omega), if_neg hc]
theorem cells_nil (col n : Int) : f_erase_Cells s none col n = some s := by
  unfold f_erase_Cells
  simp only [andE_some, bsm]
  split
  · simp only [row_wide0, held0, bsm, range_nil]
  · rfl

theorem rg_get {a b i : Nat} (hi : i < l.length) (hb : b ≤ l.length) : (a < b ∧ a ≤ i ∧ i < b → (rg l w a b).cells[i]? = some bl) ∧ (b ≤ a ∨ i + 1 < a ∨ b < i → (rg l w a b).cells[i]? = l[i]?) := by
  unfold rg
  by_cases hab : a < b
  · rw [if_pos hab]
    simp only [pl_get hi]
    constructor
    · rintro ⟨_, h1, h2⟩
      rw [pc, if_pos ⟨h1, by simp; omega⟩]
      simp [List.getD_eq_getElem?_getD]
      rw [List.getElem?_replicate]
      split <;> rfl
    · intro h
      rw [pc, if_neg (by simp; omega), if_neg, List.getD_eq_getElem?_getD, List.getElem?_eq_getElem hi]
      · rfl
      · simp only [tch, List.length_replicate, Bool.or_eq_true, Bool.and_eq_true, decide_eq_true_eq]
        omega
  · rw [if_neg hab]
    exact ⟨fun h => absurd h.1 hab, fun _ => rfl⟩
end Go.Proofs.YthokmpbbkpjhbaaGreatDoor
