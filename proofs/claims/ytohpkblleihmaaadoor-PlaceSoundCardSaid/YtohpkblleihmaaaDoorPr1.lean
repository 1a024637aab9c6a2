/-
  Pens that put, in plain Lean: PlaceSound answers true. Conditions: lists are shorter than 2^63.
-/
import Derived.Test.YtohpkblleihmaaaDoorPr
import Derived.Test.YtohpkblleihmaaaDoorA6
namespace Go.Proofs.YtohpkblleihmaaaDoor
open Go Go.Lt
variable {s : Sto} {g k W : Nat} {ks : List Nat} {q : G_linotyperef34_Pen}

theorem pl_cut {l p : List G_api_Cell} {a : Nat} (h : a + p.length ≤ l.length) : ((pl l a p).drop a).take p.length = p := by
  refine List.ext_getElem? fun j => ?_
  rw [List.getElem?_take]
  split
  · rename_i hj
    rw [List.getElem?_drop, pl_get (by omega), pc_in (by omega), Nat.add_sub_cancel_left, List.getElem?_eq_getElem hj, List.getD_eq_getElem?_getD, List.getElem?_eq_getElem hj]
    rfl
  · rename_i hj
    rw [List.getElem?_eq_none (by omega)]
theorem cl2_of (p1 : Int) (t : List Int) (ht : t.length ≤ 1000000) : ((f_linotyperef23_Of (imax 1 (imin p1 2)) t).bind fun x_145 =>
    (if (decide ((imax 1 (imin p1 2)) > (W : Int))) = true then
    (f_linotyperef23_Of 1 ([65533] : List Int)).bind fun x_154 =>
    (some (x_154) : Option ((List G_api_Cell)))
    else
    (some (x_145) : Option ((List G_api_Cell))))) = some (strip (cl2 p1 t W).1 (fx (cl2 p1 t W).2)) := by
  rw [ref_of _ _ (by omega)]
  simp only [bsm]
  rw [imin_eq, imax_eq]
  unfold cl2
  by_cases h : max 1 (min p1 2) > (W : Int)
  · rw [if_pos (by simpa using h), if_pos h, ref_of _ _ (by decide)]
    rfl
  · rw [if_neg (by simpa using h), if_neg h]
    simp only
    rw [Int.toNat_of_nonneg (by omega)]
theorem right_true {c : G_api_Cursor} {h : Nat} (hd : Hd c W h) (w1 : 1 ≤ W) (w2 : W ≤ 1024) (h1 : 1 ≤ h) (h2 : h ≤ 1024) : f_cursor_Right c W h = some true := by
  unfold f_cursor_Right
  rw [cur_hold _ w1 w2 h1 h2, hc_id hd]
  simp
theorem snd_true {l : List G_api_Cell} (h : Snd l) (hl : l.length ≤ 1000000) : f_linotyperef23_Sound l = some true := by
  obtain ⟨b, h1, h2⟩ := ref_sound l (by omega)
  rw [h1, h2.2 h]
theorem placeSound_true (s : Sto) (L : List G_api_Line) (hL : L.length ≤ 9223372036854775807) (x : G_linotypelaw34_Act) (au : Bool) : ∃ st, f_linotypelaw34_PlaceSound s L x au = some (st, true) := by
  unfold f_linotypelaw34_PlaceSound
  obtain ⟨t, hw, hw2⟩ := ref_wrong L hL
  obtain ⟨s1, h1⟩ := works34 s
  rw [hw]
  simp only [bsm]
  rw [h1]
  simp only [bsm, Bool.not_true, orE_false]
  have hbig : ∀ (b : Option (Sto × Bool)), ((orE (decide ((L.length : Int) > 20)) (some ((L.length : Int) == 0))).bind fun d_31 => (orE d_31 (some (decide (t.1 ≥ 0)))).bind fun d_36 => (orE d_36 (some ((x.Text.length : Int) == 0))).bind fun d_40 =>
      (orE d_40 (some (decide ((x.Text.length : Int) > 100)))).bind fun d_46 => if d_46 = true then (f_linotypelaw34_works s1).bind fun x_53 => some (x_53.1, x_53.2) else b) =
      if 20 < L.length ∨ L.length = 0 ∨ 0 ≤ t.1 ∨ x.Text.length = 0 ∨ 100 < x.Text.length then (f_linotypelaw34_works s1).bind fun x_53 => some (x_53.1, x_53.2) else b := fun b => by
    simp only [orE_some, bsm]
    by_cases hC : 20 < L.length ∨ L.length = 0 ∨ 0 ≤ t.1 ∨ x.Text.length = 0 ∨ 100 < x.Text.length
    · rw [if_pos hC, if_pos (by simp only [Bool.or_eq_true, decide_eq_true_eq, beq_iff_eq]; omega)]
    · rw [if_neg hC, if_neg (by simp only [Bool.or_eq_true, decide_eq_true_eq, beq_iff_eq]; omega)]
  rw [hbig]
  by_cases hC : 20 < L.length ∨ L.length = 0 ∨ 0 ≤ t.1 ∨ x.Text.length = 0 ∨ 100 < x.Text.length
  · rw [if_pos hC]
    obtain ⟨s2, h2⟩ := works34 s1
    rw [h2]
    exact ⟨_, rfl⟩
  rw [if_neg hC]
  have hok : Lok L := by
    rcases hw2 with h | h
    · exact absurd h (by omega)
    · exact h.2
  obtain ⟨s2, ks, e1, v⟩ := start (by omega) (by omega) hok s1 ⟨x.At.Row, x.At.Col, x.At.Pending⟩ au
  rw [e1]
  simp only [bsm, Er.isNil, Bool.not_true, Bool.false_eq_true, if_false]
  obtain ⟨s3, q3, ks3, i, a, hi, a1, a2, v3, n3, hd3, au3, ha, l0, w0, hl0, hln⟩ := put_eq v x.Wide x.Text (by omega)
  generalize hW : (L[0]'(by omega)).Cells.length = W at *
  rw [a1]
  simp only [bsm]
  rw [grid_wide v3.g, grid_high v3.g]
  simp only [bsm, v3.p]
  have w1 := v3.g.w1
  have w2 := v3.g.w2
  have g1 := v3.g.h1
  have g2 := v3.g.h2
  rw [n3]
  obtain ⟨hdd, hdw⟩ := cl2_d x.Wide x.Text w1
  rw [right_true hd3 w1 w2 (by omega) (by omega), right_true (c := ⟨(i : Int), (a : Int), false⟩) ⟨by simp only; omega, by simp only; omega, fun e => by cases e⟩ w1 w2 (by omega) (by omega)]
  simp only [bsm, Bool.not_true, orE_false, Bool.false_eq_true, if_false]
  rw [grid_lines v3.g, v3.l]
  simp only [bsm]
  have hq := v3.len
  obtain ⟨t2, e2, e3⟩ := iter_for (σ := Int) (τ := (Sto × Bool) ⊕ Unit) (n := q3.L.length) (fuel := ((q3.L.length : Int) - 0).toNat + 1) (s := 0)
    (fun i q => q = (i : Int)) (fun t => t = .inr ())
    (step := fun s_116 =>
  if (decide (s_116 < (q3.L.length : Int))) = true then
  (idx q3.L s_116).bind fun x_124 =>
  (f_linotyperef23_Sound x_124.Cells).bind fun x_127 =>
  if (!x_127) = true then
  some (.inr (.inl (s3, false)))
  else
  some (.inl ((w64 (s_116 + 1))))
  else
  some (.inr (.inr ())))
    (fun i q hi e => by
      subst e
      refine .inl ⟨_, ?_, rfl⟩
      have e5 : w64 ((i : Int) + 1) = ((i + 1 : Nat) : Int) := by rw [w64_in (by omega)]; simp
      have hd : decide ((i : Int) < (q3.L.length : Int)) = true := by simp; exact hi
      have hs := v3.ok _ (List.getElem_mem hi)
      simp only [hd, if_true, idx_at hi, bsm, e5]
      rw [snd_true hs.1 (by rw [hs.2]; omega)]
      rfl)
    (fun q e => ⟨_, by subst e; simp, rfl⟩)
    rfl (by omega)
  subst e3
  rw [e2]
  simp only [bsm]
  have hof := cl2_of (W := W) x.Wide x.Text (by omega)
  rw [← Option.bind_assoc, hof]
  simp only [bsm]
  have hsl := strip_d _ hdd (fx (cl2 x.Wide x.Text W).2)
  have hps := snd_fx (cl2 x.Wide x.Text W).1 (cl2 x.Wide x.Text W).2
  generalize strip (cl2 x.Wide x.Text W).1 (fx (cl2 x.Wide x.Text W).2) = p at *
  have d1 : decide ((p.length : Int) ≤ w64 ((W : Int) - (a : Int))) = true := by
    rw [w64_in (by omega)]
    simp
    omega
  have d2 : w64 ((a : Int) + (p.length : Int)) = ((a + p.length : Nat) : Int) := by rw [w64_in (by omega)]; simp
  rw [d1, idx_nat, hln, d2]
  simp only [bsm, andE_true]
  rw [slc_eq (by omega) (by rw [pl_len]; omega), Nat.add_sub_cancel_left, pl_cut (by omega)]
  simp only [bsm]
  rw [same_self (by omega) hps.sht]
  exact ⟨_, rfl⟩

end Go.Proofs.YtohpkblleihmaaaDoor
