/-
  Edits, in plain Lean: EditPlays and EditSound answer true. Conditions: lists are shorter than 2^63.
-/
import Derived.Test.YthokmpbbkpjhbaaGreatDoorEe
import Derived.Test.YthokmpbbkpjhbaaGreatDoorWx
import Derived.Test.YthokmpbbkpjhbaaGreatDoorLb
import Derived.KernelRfl
namespace Go.Proofs.YthokmpbbkpjhbaaGreatDoor
open Go Go.Lt
variable {s C : Sto} {g k W : Nat} {ks : List Nat} {q : G_linotyperef34_Pen}

set_option maxRecDepth 100000 in
theorem works38_1 : (f_linotypelaw38_works ⟨[], [], [], [], [], []⟩).map (fun q => q.2) = some true := by kernel_rfl
set_option maxRecDepth 100000 in
theorem works38_2 : ((f_linotypelaw38_works ⟨[], [], [], [], [], []⟩).bind fun q => f_linotypelaw38_works q.1).map (fun q => q.2) = some true := by kernel_rfl
theorem right_true {c : G_api_Cursor} {h : Nat} (hd : Hd c W h) (w1 : 1 ≤ W) (w2 : W ≤ 1024) (h1 : 1 ≤ h) (h2 : h ≤ 1024) : f_cursor_Right c W h = some true := by
  unfold f_cursor_Right
  rw [cur_hold _ w1 w2 h1 h2, hc_id hd]
  simp
theorem snd_true {l : List G_api_Cell} (h : Snd l) (hl : l.length ≤ 1000000) : f_linotyperef23_Sound l = some true := by
  obtain ⟨b, h1, h2⟩ := ref_sound l (by omega)
  rw [h1, h2.2 h]
theorem editPlays_true (p0 : G_linotypelaw35_Start) (l : List G_api_Op) (hL : p0.L.length ≤ 9223372036854775807) (hl : l.length ≤ 9223372036854775807) : ∃ st, f_linotypelaw38_EditPlays ⟨[], [], [], [], [], []⟩ p0 l = some (st, true) := by
  unfold f_linotypelaw38_EditPlays
  obtain ⟨t, hw, hw2⟩ := ref_wrong p0.L hL
  obtain ⟨s1, s2, h1, h2⟩ := of_two works38_1 works38_2
  rw [hw]
  simp only [bsm]
  rw [h1]
  simp only [bsm, Bool.not_true, orE_false, orE_some, Bool.false_or]
  by_cases hC : 20 < p0.L.length ∨ p0.L.length = 0 ∨ 0 ≤ t.1 ∨ 60 < l.length
  · rw [if_pos (by simp only [Bool.or_eq_true, decide_eq_true_eq, beq_iff_eq]; omega), h2]
    exact ⟨_, rfl⟩
  rw [if_neg (by simp only [Bool.or_eq_true, decide_eq_true_eq, beq_iff_eq]; omega)]
  have hok : Lok p0.L := by
    rcases hw2 with h | h
    · exact absurd h (by omega)
    · exact h.2
  obtain ⟨s3, ks, e1, v⟩ := start (by omega) (by omega) hok s1 p0.At p0.Auto
  rw [e1]
  simp only [bsm, Er.isNil, Bool.not_true, Bool.false_eq_true, if_false]
  generalize hW : (p0.L[0]'(by omega)).Cells.length = W at *
  refine iter_forL (n := l.length) (fun i st => st.1 = (i : Int) ∧ ∃ ks', Pv s1 st.2.2.2.2.2.2 s3.place_Pen.length s1.grid_Grid.length W ⟨st.2.1, ⟨st.2.2.1, st.2.2.2.1, st.2.2.2.2.1⟩, st.2.2.2.2.2.1⟩ ks') (fun u => ∃ st, u = .inr st) (fun i st hi hI => ?_) (fun st hI => ?_) ⟨rfl, ks, v⟩ (by omega) (fun u hu => ?_)
  · obtain ⟨i', L, c1, c2, c3, au, st⟩ := st
    obtain ⟨hi', ks', v⟩ := hI
    simp only at hi' v
    subst hi'
    simp only
    rw [if_pos (dlt hi), w64_succ hi (by omega)]
    simp only [idx_at hi, bsm, ref38_wrong]
    -- the edit done to both
    have step : ∃ q' st' ks'', (if (w38 l[i] == 0) = true then
        (f_linotyperef38_Do (⟨L, (⟨c1, c2, c3⟩ : G_api_Cursor), au⟩ : G_linotyperef34_Pen) l[i]).bind fun x_97 =>
        (some (x_97.L, x_97.At.Row, x_97.At.Col, x_97.At.Pending, x_97.Auto) : Option ((List G_api_Line) × Int × Int × Bool × Bool))
        else (some (L, c1, c2, c3, au) : Option ((List G_api_Line) × Int × Int × Bool × Bool))) = some (q'.L, q'.At.Row, q'.At.Col, q'.At.Pending, q'.Auto) ∧
        f_edit_Do st (some s3.place_Pen.length) l[i] = some (st', e38 l[i]) ∧ Pv s1 st' s3.place_Pen.length s1.grid_Grid.length W q' ks'' := by
      by_cases hw0 : w38 l[i] = 0
      · obtain ⟨st', q', ks'', a1, a2, a3, _⟩ := edit_eq v l[i] hw0
        refine ⟨q', st', ks'', ?_, ?_, a3⟩
        · rw [if_pos (by simpa using hw0), a2]
          rfl
        · rw [a1]
          have : e38 l[i] = Er.nil := by unfold e38; rw [hw0]; rfl
          rw [this]
      · exact ⟨⟨L, ⟨c1, c2, c3⟩, au⟩, st, ks', by rw [if_neg (by simpa using hw0)], edit_bad _ hw0 _ _, v⟩
    obtain ⟨q', st', ks'', a1, a2, a3⟩ := step
    rw [a1]
    simp only [bsm, edit_wrong, code_e38, bne_self_eq_false, Bool.false_eq_true, if_false]
    rw [a2]
    simp only [bsm, code_e38, bne_self_eq_false, Bool.false_eq_true, if_false, edit_none, orE_false, edit_does, does_w38, beq_self_eq_true, Bool.not_true]
    have ha := alike_true a3
    obtain ⟨qL, ⟨q1, q2, q3⟩, qa⟩ := q'
    simp only at ha ⊢
    rw [ha]
    simp only [bsm, Bool.not_true, Bool.false_eq_true, if_false]
    exact .inl ⟨_, rfl, rfl, ks'', a3⟩
  · obtain ⟨i', st⟩ := st
    obtain ⟨hi', _⟩ := hI
    simp only at hi'
    subst hi'
    exact ⟨_, by rw [if_neg (by simp)], _, rfl⟩
  · obtain ⟨st, rfl⟩ := hu
    exact ⟨_, rfl⟩
theorem editSound_true (p0 : G_linotypelaw35_Start) (o : G_api_Op) (hL : p0.L.length ≤ 9223372036854775807) : ∃ st, f_linotypelaw38_EditSound ⟨[], [], [], [], [], []⟩ p0 o = some (st, true) := by
  unfold f_linotypelaw38_EditSound
  obtain ⟨t, hw, hw2⟩ := ref_wrong p0.L hL
  obtain ⟨s1, s2, h1, h2⟩ := of_two works38_1 works38_2
  rw [hw]
  simp only [bsm]
  rw [h1]
  simp only [bsm, Bool.not_true, orE_false, orE_some, Bool.false_or, ref38_wrong]
  by_cases hC : 40 < p0.L.length ∨ p0.L.length = 0 ∨ 0 ≤ t.1 ∨ w38 o ≠ 0
  · rw [if_pos (by simp only [Bool.or_eq_true, decide_eq_true_eq, beq_iff_eq, bne_iff_ne, ne_eq]; omega), h2]
    exact ⟨_, rfl⟩
  rw [if_neg (by simp only [Bool.or_eq_true, decide_eq_true_eq, beq_iff_eq, bne_iff_ne, ne_eq]; omega)]
  have hok : Lok p0.L := by
    rcases hw2 with h | h
    · exact absurd h (by omega)
    · exact h.2
  obtain ⟨s3, ks, e1, v⟩ := start (by omega) (by omega) hok s1 p0.At p0.Auto
  rw [e1]
  simp only [bsm, Er.isNil, Bool.not_true, Bool.false_eq_true, if_false]
  have hi0 : idx p0.L (0 : Int) = some (p0.L[0]'(by omega)) := idx_at (i := 0) (by omega)
  rw [hi0]
  generalize hW : (p0.L[0]'(by omega)).Cells.length = W at *
  obtain ⟨s', q', ks', a1, a2, a3, a4, a5, a6⟩ := edit_eq v o (by omega)
  have w1 := a3.g.w1
  have w2 := a3.g.w2
  have hl := v.len
  simp only at hl
  have hh := v.g.h2
  have h1' := v.g.h1
  rw [a1]
  simp only [bsm, Er.isNil, Bool.not_true, orE_false, a3.p, a6]
  rw [grid_wide a3.g, grid_high a3.g, a4]
  simp only [bsm]
  rw [right_true a5 w1 w2 (by omega) (by omega)]
  simp only [bsm, Bool.not_true, Bool.false_eq_true, if_false]
  rw [grid_lines a3.g, a3.l]
  simp only [bsm]
  have hq := a3.len
  refine iter_forL (n := q'.L.length) (fun i st => st = (i : Int)) (fun u => u = .inr ()) (fun i st hi hI => ?_) (fun st hI => ?_) rfl (by omega) (fun u hu => ?_)
  · subst hI
    have hs := a3.ok _ (List.getElem_mem hi)
    rw [if_pos (dlt hi), w64_succ hi (by omega)]
    simp only [idx_at hi, bsm]
    rw [snd_true hs.1 (by rw [hs.2]; omega), hs.2]
    simp only [bsm, Bool.not_true, orE_false, hW, bne_self_eq_false, Bool.false_eq_true, if_false]
    exact .inl ⟨_, rfl, rfl⟩
  · subst hI
    exact ⟨_, by rw [if_neg (by simp)], rfl⟩
  · subst hu
    refine ⟨s', ?_⟩
    simp only
    rw [show ((q'.L.length : Int) == (p0.L.length : Int)) = true by rw [beq_iff_eq]; omega]
end Go.Proofs.YthokmpbbkpjhbaaGreatDoor
