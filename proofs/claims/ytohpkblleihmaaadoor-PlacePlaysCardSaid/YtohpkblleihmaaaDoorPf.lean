/-
  What is erased in rows, in plain Lean: ErasePlays answers true. Conditions: lists are shorter than 2^63.
-/
import Derived.Test.YtohpkblleihmaaaDoorPe
namespace Go.Proofs.YtohpkblleihmaaaDoor
open Go Go.Lt
variable {s : Sto} {k : Nat} {l p : List G_api_Cell} {w : Bool}

theorem row_goon0 (on : Bool) : f_row_Row_GoOn s none on = some s := rfl
/-- What an act leaves. -/
def ac (l : List G_api_Cell) (w : Bool) (x : G_linotypelaw26_Act) : G_row_Row :=
  if x.Kind = 0 then rg l w (cl x.A l.length) (cl x.B l.length)
  else if x.Kind = 1 then rg l w 0 (cl (max (-1) (min x.A l.length) + 1) l.length)
  else if x.Kind = 2 then rg l w (cl x.A l.length) l.length
  else if x.Kind = 3 then ⟨(rg l w 0 l.length).cells, false⟩
  else if 0 ≤ x.A ∧ 0 < x.B then rg l w (cl x.A l.length) (cl (((cl x.A l.length : Nat) : Int) + ((cl x.B l.length : Nat) : Int)) l.length) else ⟨l, w⟩
theorem rg_no {a b : Nat} (h : b ≤ a) : rg l w a b = ⟨l, w⟩ := by
  unfold rg
  rw [if_neg (by omega)]
theorem cl_0 (m : Nat) : cl 0 m = 0 := by unfold cl; omega
theorem cl_self (m : Nat) : cl (m : Int) m = m := by unfold cl; omega

theorem do_eq (h : s.row_Row[k]? = some ⟨l, w⟩) (hs : Snd l) (hl : l.length ≤ 1024) (x : G_linotypelaw26_Act) : f_linotypelaw26_do s (some k) x = some (s.sr k (ac l w x)) := by
  have hk := get_lt h
  unfold f_linotypelaw26_do ac
  by_cases h0 : x.Kind = 0
  · rw [if_pos (by simpa using h0), if_pos h0, range_eq h hs hl]
    rfl
  rw [if_neg (by simpa using h0), if_neg h0]
  by_cases h1 : x.Kind = 1
  · rw [if_pos (by simpa using h1), if_pos h1]
    unfold f_erase_Left f_erase_held
    simp only [row_wide h, bsm, imax_eq, imin_eq]
    rw [w64_in (by omega), range_eq h hs hl, cl_0]
    rfl
  rw [if_neg (by simpa using h1), if_neg h1]
  by_cases h2 : x.Kind = 2
  · rw [if_pos (by simpa using h2), if_pos h2]
    unfold f_erase_Right
    simp only [row_wide h, bsm]
    rw [range_eq h hs hl, cl_self]
    rfl
  rw [if_neg (by simpa using h2), if_neg h2]
  by_cases h3 : x.Kind = 3
  · rw [if_pos (by simpa using h3), if_pos h3]
    unfold f_erase_All
    simp only [row_wide h, bsm]
    rw [range_eq h hs hl, cl_self, cl_0]
    simp only [bsm]
    rw [row_goon (l := (rg l w 0 l.length).cells) (w := (rg l w 0 l.length).wrap) (sr_get hk), sr_sr]
    rfl
  rw [if_neg (by simpa using h3), if_neg h3, cells_eq h hs hl]
  simp only [bsm]
  split
  · rfl
  · rw [sr_id h]

theorem do_nil (x : G_linotypelaw26_Act) : f_linotypelaw26_do s none x = some s := by
  unfold f_linotypelaw26_do f_erase_Left f_erase_Right f_erase_All f_erase_held
  simp only [row_wide0, bsm, range_nil, row_goon0, cells_nil]
  repeat' split
  all_goals rfl

theorem ref_act (l : List G_api_Cell) (w : Bool) (hl : l.length ≤ 1024) (x : G_linotypelaw26_Act) : f_linotyperef26_Act l w x.Kind x.A x.B = some ((ac l w x).cells, (ac l w x).wrap) := by
  unfold f_linotyperef26_Act ac
  by_cases h0 : x.Kind = 0
  · rw [if_pos (by simpa using h0), if_pos h0, ref_range l w hl]
    rfl
  rw [if_neg (by simpa using h0), if_neg h0]
  by_cases h1 : x.Kind = 1
  · rw [if_pos (by simpa using h1), if_pos h1]
    by_cases hA : x.A < 0
    · rw [if_pos (by simpa using hA), show max (-1) (min x.A (l.length : Int)) + 1 = 0 by omega, cl_0, rg_no (Nat.le_refl _)]
    · rw [if_neg (by simpa using hA), imin_eq, w64_in (by omega), ref_range l w hl, cl_0, show max (-1) (min x.A (l.length : Int)) = min x.A (l.length : Int) by omega]
      rfl
  rw [if_neg (by simpa using h1), if_neg h1]
  by_cases h2 : x.Kind = 2
  · rw [if_pos (by simpa using h2), if_pos h2, ref_range l w hl, cl_self]
    rfl
  rw [if_neg (by simpa using h2), if_neg h2]
  by_cases h3 : x.Kind = 3
  · rw [if_pos (by simpa using h3), if_pos h3, ref_range l w hl, cl_self, cl_0]
    rfl
  rw [if_neg (by simpa using h3), if_neg h3]
  simp only [orE_some, bsm]
  by_cases hA : 0 ≤ x.A ∧ 0 < x.B
  · rw [if_pos hA]
    by_cases hg : (l.length : Int) ≤ x.A
    · rw [if_pos (by simp; omega), show cl x.A l.length = l.length by unfold cl; omega, rg_no (cl_le _ _)]
    · rw [if_neg (by simp; omega), imin_eq, w64_in (by omega), ref_range l w hl]
      rw [show cl (x.A + min x.B (l.length : Int)) l.length = cl (((cl x.A l.length : Nat) : Int) + ((cl x.B l.length : Nat) : Int)) l.length by unfold cl; omega]
      rfl
  · rw [if_neg hA, if_pos (by simp; omega)]

theorem ac_snd (hs : Snd l) (x : G_linotypelaw26_Act) : Snd (ac l w x).cells := by
  unfold ac
  repeat' split
  all_goals first | exact hs | exact rg_snd hs (cl_le _ _) | exact rg_snd hs (Nat.le_refl _)
theorem ac_len (x : G_linotypelaw26_Act) : (ac l w x).cells.length = l.length := by
  unfold ac
  repeat' split
  all_goals first | rfl | exact rg_len _ _

theorem erasePlays_true (s : Sto) (l : List G_api_Cell) (hl : l.length ≤ 9223372036854775807) (on : Bool) (acts : List G_linotypelaw26_Act) : ∃ s', f_linotypelaw26_ErasePlays s l on acts = some (s', true) := by
  obtain ⟨s1, h1⟩ := works26 s
  obtain ⟨s2, h2⟩ := works26 s1
  unfold f_linotypelaw26_ErasePlays
  rw [h1]
  simp only [bsm, Bool.not_true, orE_false]
  by_cases hlen : l.length ≤ 60 ∧ 1 ≤ l.length
  · have c1 : decide ((l.length : Int) > 60) = false := by simp; omega
    have c2 : ((l.length : Int) == 0) = false := by rw [beq_eq_false_iff_ne]; omega
    obtain ⟨t, h3, h4⟩ := ref_sound l (by omega)
    simp only [c1, c2, orE_false, bsm, h3, orE_some]
    by_cases hg : t = false ∨ (acts.length : Int) > 60
    · rw [if_pos (by rcases hg with rfl | hg <;> simp <;> omega)]
      simp only [h2, bsm]
      exact ⟨s2, rfl⟩
    · have ht : t = true := by cases t <;> simp_all
      have ha : acts.length ≤ 60 := by
        rcases Nat.lt_or_ge 60 acts.length with h | h
        · exact absurd (Or.inr (by omega)) hg
        · exact h
      have hs : Snd l := h4.1 ht
      rw [if_neg (by simp [ht]; omega)]
      rw [row_of (by omega) (by omega) hs]
      simp only [bsm, Er.isNil, Bool.not_true, Bool.false_eq_true, if_false]
      rw [row_goon (add_get _ _), add_sr]
      simp only [bsm]
      obtain ⟨t, h5, h6⟩ := iter_for (σ := (List G_api_Cell) × Bool × Int × Sto) (τ := (Sto × Bool) ⊕ Sto) (n := acts.length) (fuel := ((acts.length : Int) - 0).toNat + 1) (s := (l, on, 0, s1.add_row_Row ⟨l, on⟩))
        (Inv := fun i q => q.2.2.1 = (i : Int) ∧ Snd q.1 ∧ q.1.length = l.length ∧ q.2.2.2.row_Row[s1.row_Row.length]? = some ⟨q.1, q.2.1⟩) (post := fun t => ∃ u, t = .inr u)
        (step := fun s_51 =>
  if (decide (s_51.2.2.1 < (acts.length : Int))) = true then
  (idx acts s_51.2.2.1).bind fun x_60 =>
  (f_linotypelaw26_do s_51.2.2.2 (some s1.row_Row.length) x_60).bind fun x_62 =>
  (idx acts s_51.2.2.1).bind fun x_68 =>
  (idx acts s_51.2.2.1).bind fun x_73 =>
  (idx acts s_51.2.2.1).bind fun x_78 =>
  (f_linotyperef26_Act s_51.1 s_51.2.1 x_68.Kind x_73.A x_78.B).bind fun x_81 =>
  (f_row_Row_Cells x_62 (some s1.row_Row.length)).bind fun x_89 =>
  (f_linotyperef23_Same x_89 x_81.1).bind fun x_91 =>
  (orE (!x_91) ((f_row_Row_Wrap x_62 (some s1.row_Row.length)).bind fun x_96 =>
  some (!(x_96 == x_81.2)))).bind fun d_93 =>
  if d_93 = true then
  some (.inr (.inl (x_62, false)))
  else
  (idx acts s_51.2.2.1).bind fun x_104 =>
  (f_linotypelaw26_do x_62 (none : Option Nat) x_104).bind fun x_106 =>
  some (.inl (x_81.1, x_81.2, (w64 (s_51.2.2.1 + 1)), x_106))
  else
  some (.inr (.inr (s_51.2.2.2))))
        (fun i q hi ⟨e1, e2, e3, e4⟩ => by
          obtain ⟨q1, q2, q3, q4⟩ := q
          simp only at e1 e2 e3 e4
          subst e1
          refine .inl ⟨((ac q1 q2 acts[i]).cells, (ac q1 q2 acts[i]).wrap, ((i + 1 : Nat) : Int), q4.sr s1.row_Row.length (ac q1 q2 acts[i])), ?_, rfl, ac_snd e2 _, by rw [ac_len]; exact e3, sr_get (get_lt e4)⟩
          have e5 : w64 ((i : Int) + 1) = ((i + 1 : Nat) : Int) := by rw [w64_in (by omega)]; simp
          have hd : decide ((i : Int) < (acts.length : Int)) = true := by simp; exact hi
          have hq := sr_get (x := ac q1 q2 acts[i]) (get_lt e4)
          have hsn := ac_snd (w := q2) e2 acts[i]
          simp only [hd, if_true, idx_at hi, bsm, do_eq e4 e2 (by omega), ref_act q1 q2 (by omega), e5, do_nil]
          rw [row_cells (l := (ac q1 q2 acts[i]).cells) (w := (ac q1 q2 acts[i]).wrap) hq (by rw [ac_len]; omega) hsn.sht]
          simp only [bsm]
          rw [same_self (by rw [ac_len]; omega) hsn.sht, row_wrap (l := (ac q1 q2 acts[i]).cells) (w := (ac q1 q2 acts[i]).wrap) hq]
          simp only [bsm, Bool.not_true, orE_false, beq_self_eq_true, Bool.false_eq_true, if_false])
        (fun q ⟨e1, _⟩ => by
          refine ⟨.inr q.2.2.2, ?_, _, rfl⟩
          rw [e1]
          simp)
        ⟨rfl, hs, rfl, add_get _ _⟩ (by omega)
      obtain ⟨u, rfl⟩ := h6
      rw [h5]
      exact ⟨_, rfl⟩
  · by_cases c1 : (l.length : Int) > 60
    · simp only [c1, decide_true, orE_true, bsm, if_true, h2]
      exact ⟨s2, rfl⟩
    · have c2 : ((l.length : Int) == 0) = true := by rw [beq_iff_eq]; omega
      simp only [c1, c2, decide_false, orE_false, orE_true, bsm, if_true, h2]
      exact ⟨s2, rfl⟩
end Go.Proofs.YtohpkblleihmaaaDoor
