/-
  What is erased in rows, in plain Lean: EraseFar and ErasePlays answer true. Conditions: lists are shorter than 2^63.
-/
import Derived.Test.YtohpkblleihmaaaDoorPd
import Derived.Test.YtohpkblleihmaaaDoorA2
namespace Go.Proofs.YtohpkblleihmaaaDoor
open Go Go.Lt
variable {s : Sto} {k : Nat} {l p : List G_api_Cell} {w : Bool}

/-- A number between 0 and another one, or the nearer one of both. -/
def cl (n : Int) (m : Nat) : Nat := (max 0 (min n m)).toNat
theorem cl_le (n : Int) (m : Nat) : cl n m ≤ m := by unfold cl; omega
theorem cl_id {c m : Nat} (h : c ≤ m) : cl (c : Int) m = c := by unfold cl; omega
theorem held_eq (n : Int) (m : Nat) : f_erase_held n 0 m = some ((cl n m : Nat) : Int) := by
  simp only [f_erase_held, imax_eq, imin_eq, cl, Option.some.injEq]
  omega
/-- The range made blank. -/
def rg (l : List G_api_Cell) (w : Bool) (a b : Nat) : G_row_Row := if a < b then ⟨pl l a (List.replicate (b - a) bl), pw l w a (b - a)⟩ else ⟨l, w⟩
theorem rg_snd {a b : Nat} (h : Snd l) (hb : b ≤ l.length) : Snd (rg l w a b).cells := by
  unfold rg
  split
  · exact h.paint (snd_bl _) (by simp; omega)
  · exact h
theorem rg_len (a b : Nat) : (rg l w a b).cells.length = l.length := by
  unfold rg
  split
  · exact pl_len _ _ _
  · rfl
theorem range_eq (h : s.row_Row[k]? = some ⟨l, w⟩) (hs : Snd l) (hl : l.length ≤ 1024) (a b : Int) :
    f_erase_Range s (some k) a b = some (s.sr k (rg l w (cl a l.length) (cl b l.length))) := by
  unfold f_erase_Range
  simp only [row_wide h, bsm, held_eq]
  have ha := cl_le a l.length
  have hb := cl_le b l.length
  generalize cl a l.length = a' at *
  generalize cl b l.length = b' at *
  unfold rg
  by_cases hab : a' < b'
  · have e : w64 ((b' : Int) - (a' : Int)) = ((b' - a' : Nat) : Int) := by rw [w64_in (by omega)]; omega
    rw [if_pos (by simp; omega), if_pos hab, e, blanks, show (max 0 (min (((b' - a' : Nat)) : Int) 1024)).toNat = b' - a' by omega]
    simp only [bsm]
    rw [row_paint h hs hl (snd_bl _) (by simp; omega) (by simp; omega)]
    simp
  · rw [if_neg (by simp; omega), if_neg hab, sr_id h]
theorem held0 (n : Int) : f_erase_held n 0 0 = some 0 := by
  simp only [f_erase_held, imax_eq, imin_eq, Option.some.injEq]
  omega
theorem range_nil (a b : Int) : f_erase_Range s none a b = some s := by
  unfold f_erase_Range
  simp only [row_wide0, bsm, held0]
  rw [if_neg (by simp)]
theorem ref_range (l : List G_api_Cell) (w : Bool) (hl : l.length ≤ 1024) (a b : Int) : f_linotyperef26_Range l w a b = some ((rg l w (cl a l.length) (cl b l.length)).cells, (rg l w (cl a l.length) (cl b l.length)).wrap) := by
  unfold f_linotyperef26_Range
  have ha := cl_le a l.length
  have hb := cl_le b l.length
  have ea : imax 0 (imin a (l.length : Int)) = ((cl a l.length : Nat) : Int) := by simp only [imax_eq, imin_eq, cl]; omega
  have eb : imax 0 (imin b (l.length : Int)) = ((cl b l.length : Nat) : Int) := by simp only [imax_eq, imin_eq, cl]; omega
  rw [ea, eb]
  generalize cl a l.length = a' at *
  generalize cl b l.length = b' at *
  unfold rg
  by_cases hab : a' < b'
  · have e : w64 ((b' : Int) - (a' : Int)) = ((b' - a' : Nat) : Int) := by rw [w64_in (by omega)]; omega
    rw [if_neg (by simp; omega), if_pos hab, e, rep_eq _ (by omega)]
    simp only [bsm]
    have := ref_paint l w a' (List.replicate (b' - a') bl) (by omega) (by omega) (by simp; omega)
    rw [List.length_replicate] at this
    rw [show (List.replicate (((b' - a' : Nat) : Int).toNat) (⟨0, ([] : List Int)⟩ : G_api_Cell)) = List.replicate (b' - a') bl by rfl, this]
    rfl
  · rw [if_pos (by simp; omega), if_neg hab]

theorem snd_of2 : Snd [⟨2, [19968]⟩, ⟨3, []⟩] := by
  have := snd_strip 2 (fx_vld [19968]) (by decide)
  exact this
theorem of2 : f_linotyperef23_Of 2 [19968] = some [⟨2, [19968]⟩, ⟨3, []⟩] := ref_of 2 [19968] (by decide)

theorem cells_eq (h : s.row_Row[k]? = some ⟨l, w⟩) (hs : Snd l) (hl : l.length ≤ 1024) (col n : Int) :
    f_erase_Cells s (some k) col n = some (if 0 ≤ col ∧ 0 < n then s.sr k (rg l w (cl col l.length) (cl (((cl col l.length : Nat) : Int) + ((cl n l.length : Nat) : Int)) l.length)) else s) := by
  unfold f_erase_Cells
  simp only [andE_some, bsm]
  by_cases hc : 0 ≤ col ∧ 0 < n
  · rw [if_pos (by simp; omega), if_pos hc]
    simp only [row_wide h, bsm, held_eq]
    have h1 := cl_le col l.length
    have h2 := cl_le n l.length
    rw [w64_in (by omega), range_eq h hs hl]
    simp only [bsm, cl_id h1]
  · rw [if_neg (by simp; omega), if_neg hc]
theorem cells_nil (col n : Int) : f_erase_Cells s none col n = some s := by
  unfold f_erase_Cells
  simp only [andE_some, bsm]
  split
  · simp only [row_wide0, held0, bsm, range_nil]
  · rfl

theorem works26 (s : Sto) : ∃ s', f_linotypelaw26_works s = some (s', true) := by
  unfold f_linotypelaw26_works
  rw [of2]
  simp only [bsm]
  rw [row_of (by decide) (by decide) snd_of2]
  simp only [bsm, Er.isNil, Bool.not_true, orE_false, Option.isNone_some, Bool.false_eq_true, if_false]
  rw [cells_eq (add_get _ _) snd_of2 (by decide), if_pos (by decide), add_sr]
  simp only [bsm]
  have hr : rg [⟨2, [19968]⟩, ⟨3, []⟩] false (cl 0 [(⟨2, [19968]⟩ : G_api_Cell), ⟨3, []⟩].length) (cl (((cl 0 [(⟨2, [19968]⟩ : G_api_Cell), ⟨3, []⟩].length : Nat) : Int) + ((cl 1 [(⟨2, [19968]⟩ : G_api_Cell), ⟨3, []⟩].length : Nat) : Int)) [(⟨2, [19968]⟩ : G_api_Cell), ⟨3, []⟩].length) = ⟨[bl, bl], false⟩ := by
    rfl
  rw [hr, row_cells (l := [bl, bl]) (add_get _ _) (by decide) (show Sht [bl, bl] from (snd_bl 2).sht)]
  simp only [bsm]
  rw [rep_eq _ (by decide)]
  simp only [bsm]
  rw [show List.replicate (2 : Int).toNat (⟨0, ([] : List Int)⟩ : G_api_Cell) = [bl, bl] by rfl, same_self (by decide) (show Sht [bl, bl] from (snd_bl 2).sht)]
  exact ⟨_, rfl⟩

theorem rg_get {a b i : Nat} (hi : i < l.length) (hb : b ≤ l.length) : (a < b ∧ a ≤ i ∧ i < b → (rg l w a b).cells[i]? = some bl) ∧ (b ≤ a ∨ i + 1 < a ∨ b < i → (rg l w a b).cells[i]? = l[i]?) := by
  unfold rg
  by_cases hab : a < b
  · rw [if_pos hab]
    simp only [pl_get hi]
    constructor
    · rintro ⟨_, h1, h2⟩
      rw [pc, if_pos ⟨h1, by simp; omega⟩]
      simp [List.getD_eq_getElem?_getD]
      rw [List.getElem?_replicate]
      split <;> rfl
    · intro h
      rw [pc, if_neg (by simp; omega), if_neg, List.getD_eq_getElem?_getD, List.getElem?_eq_getElem hi]
      · rfl
      · simp only [tch, List.length_replicate, Bool.or_eq_true, Bool.and_eq_true, decide_eq_true_eq]
        omega
  · rw [if_neg hab]
    exact ⟨fun h => absurd h.1 hab, fun _ => rfl⟩

theorem eraseFar_true (s : Sto) (l : List G_api_Cell) (hl : l.length ≤ 9223372036854775807) (a b : Int) : ∃ s', f_linotypelaw26_EraseFar s l a b = some (s', true) := by
  obtain ⟨s1, h1⟩ := works26 s
  obtain ⟨s2, h2⟩ := works26 s1
  unfold f_linotypelaw26_EraseFar
  rw [h1]
  simp only [bsm, Bool.not_true, orE_false]
  by_cases hlen : l.length ≤ 100 ∧ 1 ≤ l.length
  · have c1 : decide ((l.length : Int) > 100) = false := by simp; omega
    have c2 : ((l.length : Int) == 0) = false := by rw [beq_eq_false_iff_ne]; omega
    obtain ⟨t, h3, h4⟩ := ref_sound l (by omega)
    simp only [c1, c2, orE_false, bsm, h3]
    cases ht : t with
    | false =>
      simp only [Bool.not_false, if_true, h2, bsm]
      exact ⟨s2, rfl⟩
    | true =>
      have hs : Snd l := h4.1 ht
      simp only [Bool.not_true, Bool.false_eq_true, if_false]
      rw [row_of (by omega) (by omega) hs]
      simp only [bsm, Er.isNil, Bool.not_true, Bool.false_eq_true, if_false]
      rw [range_eq (add_get _ _) hs (by omega), add_sr]
      simp only [bsm]
      have ha := cl_le a l.length
      have hb := cl_le b l.length
      have ea : imax 0 (imin a (l.length : Int)) = ((cl a l.length : Nat) : Int) := by simp only [imax_eq, imin_eq, cl]; omega
      have eb : imax 0 (imin b (l.length : Int)) = ((cl b l.length : Nat) : Int) := by simp only [imax_eq, imin_eq, cl]; omega
      simp only [ea, eb]
      generalize cl a l.length = a' at *
      generalize cl b l.length = b' at *
      obtain ⟨t, h5, h6⟩ := iter_count (τ := (Sto × Bool) ⊕ Unit) (n := l.length) (by omega) (fun t => ∃ u, t = .inr u) (fun _ => True) trivial
        (step := fun s_57 =>
          if (decide (s_57 < (l.length : Int))) = true then
          (f_row_Row_Cell (s1.add_row_Row (rg l false a' b')) (some s1.row_Row.length) s_57).bind fun x_65 =>
          (andE (decide ((a' : Int) < (b' : Int))) (some (decide (s_57 ≥ (a' : Int))))).bind fun d_76 =>
          (andE d_76 (some (decide (s_57 < (b' : Int))))).bind fun d_81 =>
          (andE d_81 (some (x_65.1.Kind != 0))).bind fun d_86 =>
          if d_86 = true then
          some (.inr (.inl ((s1.add_row_Row (rg l false a' b')), false)))
          else
          (orE (decide ((a' : Int) ≥ (b' : Int))) (some (decide ((w64 (s_57 + 1)) < (a' : Int))))).bind fun d_97 =>
          (orE d_97 (some (decide (s_57 > (b' : Int))))).bind fun d_103 =>
          (andE d_103 ((slc l s_57 (w64 (s_57 + 1))).bind fun x_115 =>
          (f_linotyperef23_Same ([x_65.1] : List G_api_Cell) x_115).bind fun x_117 =>
          some (!x_117))).bind fun d_108 =>
          if d_108 = true then
          some (.inr (.inl ((s1.add_row_Row (rg l false a' b')), false)))
          else
          some (.inl ((w64 (s_57 + 1))))
          else
          some (.inr (.inr ())))
        (fun i hi _ => by
          refine .inl ⟨?_, trivial⟩
          have e3 : w64 ((i : Int) + 1) = ((i + 1 : Nat) : Int) := by rw [w64_in (by omega)]; simp
          have hd : decide ((i : Int) < (l.length : Int)) = true := by simp; exact hi
          have hsn : Snd (rg l false a' b').cells := rg_snd hs hb
          have hi2 : i < (rg l false a' b').cells.length := by rw [rg_len]; exact hi
          have hg := rg_get (w := false) (a := a') hi hb
          simp only [List.getElem?_eq_getElem hi2, List.getElem?_eq_getElem hi, Option.some.injEq] at hg
          simp only [hd, if_true, e3]
          rw [row_cell (l := (rg l false a' b').cells) (w := (rg l false a' b').wrap) (add_get _ _) hi2 hsn.sht]
          simp only [bsm, andE_some, orE_some]
          have d1 : ((decide ((a' : Int) < (b' : Int)) && decide ((i : Int) ≥ a') && decide ((i : Int) < b')) && ((rg l false a' b').cells[i].Kind != 0)) = false := by
            by_cases hin : a' < b' ∧ a' ≤ i ∧ i < b'
            · rw [hg.1 hin]; simp [bl]
            · have : (decide ((a' : Int) < (b' : Int)) && decide ((i : Int) ≥ a') && decide ((i : Int) < b')) = false := by simp; omega
              rw [this]; rfl
          rw [d1]
          simp only [Bool.false_eq_true, if_false]
          by_cases hout : b' ≤ a' ∨ i + 1 < a' ∨ b' < i
          · have d2 : ((decide ((a' : Int) ≥ (b' : Int)) || decide (((i + 1 : Nat) : Int) < a')) || decide ((i : Int) > b')) = true := by simp; omega
            rw [d2, slc_eq (by omega) (by omega)]
            have e4 : ((l.drop i).take (i + 1 - i)) = [(rg l false a' b').cells[i]] := by
              rw [show i + 1 - i = 1 by omega, hg.2 hout, List.drop_eq_getElem_cons hi]
              rfl
            rw [e4]
            simp only [bsm, andE_true]
            rw [same_self (by simp) (fun j hj => by
              have : j = 0 := by simp at hj; exact hj
              subst this
              exact hsn.sht i hi2)]
            simp
          · have d2 : ((decide ((a' : Int) ≥ (b' : Int)) || decide (((i + 1 : Nat) : Int) < a')) || decide ((i : Int) > b')) = false := by simp; omega
            rw [d2]
            simp [andE_false])
        (fun _ => ⟨.inr (), by simp, (), rfl⟩)
      obtain ⟨u, rfl⟩ := h6
      rw [h5]
      exact ⟨_, rfl⟩
  · by_cases c1 : (l.length : Int) > 100
    · simp only [c1, decide_true, orE_true, bsm, if_true, h2]
      exact ⟨s2, rfl⟩
    · have c2 : ((l.length : Int) == 0) = true := by rw [beq_iff_eq]; omega
      simp only [c1, c2, decide_false, orE_false, orE_true, bsm, if_true, h2]
      exact ⟨s2, rfl⟩
end Go.Proofs.YtohpkblleihmaaaDoor
