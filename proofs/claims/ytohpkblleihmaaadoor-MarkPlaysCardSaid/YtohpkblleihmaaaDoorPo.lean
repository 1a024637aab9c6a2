/-
  Clusters put, made longer and wider, in plain Lean: MarkPlays answers true. Conditions: lists are shorter than 2^63.
-/
import Derived.Test.YtohpkblleihmaaaDoorPn
import Derived.Test.YtohpkblleihmaaaDoorA9
namespace Go.Proofs.YtohpkblleihmaaaDoor
open Go Go.Lt
variable {s : Sto} {k : Nat} {l p : List G_api_Cell} {w : Bool}

theorem ref_at (i : Int) (hi : -9223372036854775808 ≤ i ∧ i ≤ 9223372036854775807) : f_linotyperef25_At l i = some (match mat l i with | some j => (j : Int) | none => -1) ∨ ¬ Snd l := by
  by_cases hs : Snd l
  · left
    unfold f_linotyperef25_At mat
    by_cases hin : 0 ≤ i ∧ i < l.length
    · obtain ⟨j, rfl⟩ : ∃ j : Nat, i = (j : Int) := ⟨i.toNat, by omega⟩
      have hj : j < l.length := by omega
      rw [if_pos hin, Int.toNat_natCast]
      have hkd := kd_at hj
      have d1 : (decide ((j : Int) < 0) || decide ((j : Int) ≥ (l.length : Int))) = false := by simp; exact hj
      simp only [orE_some, bsm, d1, orE_false, idx_at hj]
      rw [← hkd]
      by_cases h0 : kd l j = 0
      · rw [if_pos (by simpa using h0), if_pos h0]
      · rw [if_neg (by simpa using h0), if_neg h0]
        by_cases h3 : kd l j = 3
        · have hp := hs.three h3
          rw [if_pos (by simpa using h3), if_pos h3, w64_in (by omega)]
          simp only [Option.some.injEq]
          omega
        · rw [if_neg (by simpa using h3), if_neg h3]
    · rw [if_neg hin]
      have d1 : (decide (i < 0) || decide (i ≥ (l.length : Int))) = true := by
        simp only [Bool.or_eq_true, decide_eq_true_eq]
        omega
      simp only [orE_some, bsm, d1, orE_true, if_true]
  · exact .inr hs
theorem at_true (h : s.row_Row[k]? = some ⟨l, w⟩) (hs : Snd l) (i : Int) (hi : -9223372036854775808 ≤ i ∧ i ≤ 9223372036854775807) : f_linotypelaw25_at s (some k) l i = some true := by
  unfold f_linotypelaw25_at
  rw [mark_at h hs i hi, (ref_at (l := l) i hi).resolve_right (fun e => e hs)]
  cases hm : mat l i with
  | none =>
    simp only [bsm]
    rw [if_pos (by decide)]
    rfl
  | some j =>
    have hj := mat_lt hm
    have hgd : l.getD j bl = l[j] := by rw [List.getD_eq_getElem?_getD, List.getElem?_eq_getElem hj]; rfl
    obtain ⟨t, h1, h2⟩ := same_text l[j].Text (by have := hs.sht j hj; omega) l[j].Text
    rw [h2.2 rfl] at h1
    simp only [bsm]
    rw [if_neg (by simp)]
    simp only [bsm, idx_at hj, hgd, h1, kd_at hj, beq_self_eq_true, andE_true, andE_some, Bool.and_self]

theorem fixv_fixv (x : Int) : fixv (fixv x) = fixv x := by
  unfold fixv
  by_cases h : vld x = true
  · rw [if_pos h, if_pos h]
  · rw [if_neg h]
    rfl
theorem fx_snoc {t : List Int} (ht : t.length ≤ 15) (x : Int) : fx (t ++ [fixv x]) = fx (t ++ [x]) := by
  unfold fx
  rw [List.take_of_length_le (by simp; omega), List.take_of_length_le (by simp; omega), List.map_append, List.map_append]
  simp [fixv_fixv]
theorem ref_fix (x : Int) : ((f_linotyperef01_Valid x).bind fun x_30 => if (!x_30) = true then (some (65533) : Option (Int)) else (some (x) : Option (Int))) = some (fixv x) := by
  rw [ref_valid]
  unfold fixv
  cases vld x <;> rfl
/-- What a mark's step leaves. -/
def Stp (s s' : Sto) (k : Nat) (l : List G_api_Cell) (c2 : List G_api_Cell) (w2 : Bool) : Prop := s'.row_Row[k]? = some ⟨c2, w2⟩ ∧ Snd c2 ∧ c2.length = l.length
theorem add_step (h : s.row_Row[k]? = some ⟨l, w⟩) (hs : Snd l) (hl : l.length ≤ 1024) (i : Int) (hi : -9223372036854775808 ≤ i ∧ i ≤ 9223372036854775807) (x : Int) :
    ∃ s' c2 w2 b, f_mark_Add s (some k) i x = some (s', b) ∧ f_linotyperef25_Add l w i x = some (c2, w2, b) ∧ Stp s s' k l c2 w2 := by
  unfold f_mark_Add f_linotyperef25_Add
  rw [mark_at h hs i hi, (ref_at (l := l) i hi).resolve_right (fun e => e hs)]
  cases hm : mat l i with
  | none =>
    simp only [bsm, Bool.not_false, orE_true, if_true]
    rw [show decide ((-1 : Int) < 0) = true from rfl]
    simp only [orE_true, bsm, if_true]
    exact ⟨_, _, _, _, rfl, rfl, h, hs, rfl⟩
  | some j =>
    have hj := mat_lt hm
    have hgd : l.getD j bl = l[j] := by rw [List.getD_eq_getElem?_getD, List.getElem?_eq_getElem hj]; rfl
    have hk12 : kd l j = 1 ∨ kd l j = 2 := by
      unfold mat at hm
      split at hm
      · split at hm
        · cases hm
        · split at hm
          · rename_i h3
            cases hm
            exact .inr (hs.three h3).2
          · cases hm
            rcases kd_rgt hs i.toNat with h0 | h0 | h0 | h0
            · contradiction
            · exact .inl h0
            · exact .inr h0
            · contradiction
      · cases hm
    have htx := txt_ok hs hk12
    rw [hgd] at htx
    have d0 : decide ((j : Int) < 0) = false := by simp
    simp only [bsm, Bool.not_true, orE_false, d0, idx_at hj, hgd]
    by_cases hL : 16 ≤ l[j].Text.length
    · rw [if_pos (by simp; omega), if_pos (by simp; omega)]
      exact ⟨_, _, _, _, rfl, rfl, h, hs, rfl⟩
    · rw [if_neg (by simp; omega), if_neg (by simp; omega), app_eq (by simp; omega), ref_fix]
      simp only [bsm]
      rw [app_eq (by simp; omega), List.nil_append]
      simp only [bsm]
      rw [app_eq (by simp; omega)]
      simp only [bsm]
      rw [ref_of _ _ (by simp; omega), fx_snoc (by omega), ← kd_at hj]
      simp only [bsm]
      have hsl : (strip (kd l j) (fx (l[j].Text ++ [x]))).length = (kd l j).toNat ∧ j + (kd l j).toNat ≤ l.length := by
        have hne : fx (l[j].Text ++ [x]) ≠ [] := fun e => by
          have := congrArg List.length e
          unfold fx at this
          simp at this
        unfold strip
        rw [if_neg hne]
        rcases hk12 with h1 | h1
        · rw [h1, if_neg (by decide)]
          exact ⟨rfl, by show j + 1 ≤ _; omega⟩
        · rw [h1, if_pos (by decide)]
          have := kd_lt (l := l) (j := j + 1) (by rw [hs.two h1]; decide)
          exact ⟨rfl, by show j + 2 ≤ _; omega⟩
      rw [mark_put h hs hl _ (by simp; omega) (by rw [hsl.1]; exact hsl.2), ref_paint _ _ _ _ (by omega) (by omega) (by rw [hsl.1]; rcases hk12 with h1 | h1 <;> rw [h1] <;> decide)]
      exact ⟨_, _, _, _, rfl, rfl, sr_get (get_lt h), hs.paint (snd_fx _ _) (by rw [hsl.1]; exact hsl.2), pl_len _ _ _⟩
theorem widen_step (h : s.row_Row[k]? = some ⟨l, w⟩) (hs : Snd l) (hl1 : 1 ≤ l.length) (hl : l.length ≤ 1024) (i : Int) (hi : -9223372036854775808 ≤ i ∧ i ≤ 9223372036854775807) :
    ∃ s' c2 w2 b, f_mark_Widen s (some k) i = some (s', b) ∧ f_linotyperef25_Widen l w i = some (c2, w2, b) ∧ Stp s s' k l c2 w2 := by
  unfold f_linotyperef25_Widen
  rw [w64_in (by omega)]
  by_cases hc : 0 ≤ i ∧ i < (l.length : Int) - 1 ∧ kd l i.toNat = 1
  · obtain ⟨j, rfl⟩ : ∃ j : Nat, i = (j : Int) := ⟨i.toNat, by omega⟩
    rw [Int.toNat_natCast] at hc
    have hj : j < l.length := by omega
    have hgd : l.getD j bl = l[j] := by rw [List.getD_eq_getElem?_getD, List.getElem?_eq_getElem hj]; rfl
    have hm : mat l (j : Int) = some j := by
      unfold mat
      rw [if_pos (by omega), Int.toNat_natCast, if_neg (by omega), if_neg (by omega)]
    have htx := txt_ok hs (.inl hc.2.2)
    have hst : strip 2 (fx (l.getD j bl).Text) = [⟨2, (l.getD j bl).Text⟩, ⟨3, []⟩] := by
      rw [htx.1]
      unfold strip
      rw [if_neg (fun e => by rw [e] at htx; simp at htx), if_pos (by decide)]
    have d1 : decide ((j : Int) < 0) = false := by simp
    have d2 : decide ((j : Int) ≥ (l.length : Int) - 1) = false := by simp; omega
    rw [mark_widen h hs hl _ hi, hm]
    simp only
    rw [if_pos ⟨hc.2.2, by omega⟩]
    simp only [d1, d2, orE_some, orE_false, bsm, Bool.or_false, idx_at hj, ← kd_at hj]
    rw [if_neg (by simp [hc.2.2]), ← hgd, ref_of _ _ (by omega), hst]
    simp only [bsm]
    rw [ref_paint _ _ _ _ (by omega) (by omega) (by simp)]
    have hs2 : Snd [⟨2, (l.getD j bl).Text⟩, ⟨3, []⟩] := by rw [← hst]; exact snd_fx _ _
    exact ⟨_, _, _, _, rfl, rfl, sr_get (get_lt h), hs.paint hs2 (by simp; omega), pl_len _ _ _⟩
  · have e1 : f_mark_Widen s (some k) i = some (s, false) := by
      rw [mark_widen h hs hl i hi]
      cases hm : mat l i with
      | none => rfl
      | some j =>
        simp only
        rw [if_neg]
        rintro ⟨h1, h2⟩
        unfold mat at hm
        split at hm
        · split at hm
          · cases hm
          · split at hm
            · rename_i h3
              cases hm
              have := (hs.three h3).2
              omega
            · cases hm
              exact hc ⟨by omega, by omega, h1⟩
        · cases hm
    rw [e1]
    have e2 : ((orE (decide (i < 0)) (some (decide (i ≥ (l.length : Int) - 1)))).bind fun d_7 => (orE d_7 ((idx l i).bind fun x_18 => some (x_18.Kind != 1)))) = some true := by
      simp only [orE_some, bsm]
      by_cases hb : i < 0 ∨ i ≥ (l.length : Int) - 1
      · rw [show (decide (i < 0) || decide (i ≥ (l.length : Int) - 1)) = true by simpa using hb]
        rfl
      · obtain ⟨j, rfl⟩ : ∃ j : Nat, i = (j : Int) := ⟨i.toNat, by omega⟩
        have hj : j < l.length := by omega
        rw [show (decide ((j : Int) < 0) || decide ((j : Int) ≥ (l.length : Int) - 1)) = false by simpa using hb, orE_false, idx_at hj]
        rw [Int.toNat_natCast] at hc
        simp only [bsm, ← kd_at hj, Option.some.injEq, bne_iff_ne]
        omega
    rw [← Option.bind_assoc, e2]
    simp only [bsm, if_true]
    exact ⟨_, _, _, _, rfl, rfl, h, hs, rfl⟩

theorem markPlays_true (s : Sto) (n : Int) (L : List G_linotypelaw25_Act) (hL : ∀ x ∈ L, -9223372036854775808 ≤ x.Col ∧ x.Col ≤ 9223372036854775807) (c0 : Int) (hc0 : -9223372036854775808 ≤ c0 ∧ c0 ≤ 9223372036854775807) :
    ∃ st, f_linotypelaw25_MarkPlays s n L c0 = some (st, true) := by
  unfold f_linotypelaw25_MarkPlays
  obtain ⟨s1, h1⟩ := works25 s
  rw [h1]
  simp only [bsm, Bool.not_true, orE_false]
  by_cases hL2 : 60 < L.length
  · rw [if_pos (by simp; omega)]
    obtain ⟨s2, h2⟩ := works25 s1
    rw [h2]
    exact ⟨_, rfl⟩
  rw [if_neg (by simp; omega)]
  obtain ⟨W, hW, hW1, hW2⟩ := w_mod n 16 (by decide) (by decide)
  rw [show ((16 : Nat) : Int) = 16 from rfl] at hW
  rw [hW, row_new, rep_eq _ (by omega), sd_id hW1 (by omega)]
  simp only [bsm]
  rw [show ((W : Int).toNat) = W from rfl, show (⟨0, []⟩ : G_api_Cell) = bl from rfl]
  obtain ⟨k, hk⟩ : ∃ k, k = s1.row_Row.length := ⟨_, rfl⟩
  obtain ⟨s3, hs3⟩ : ∃ s3, s3 = s1.add_row_Row ⟨List.replicate W bl, false⟩ := ⟨_, rfl⟩
  have hg3 : s3.row_Row[k]? = some ⟨List.replicate W bl, false⟩ := by rw [hs3, hk]; exact add_get _ _
  rw [← hs3, ← hk]
  obtain ⟨t, e1, e2⟩ := iter_for (σ := (List G_api_Cell) × Bool × Int × Sto) (τ := (Sto × Bool) ⊕ Sto) (n := L.length) (fuel := ((L.length : Int) - 0).toNat + 1) (s := (List.replicate W bl, false, 0, s3))
    (fun i q => q.2.2.1 = (i : Int) ∧ q.2.2.2.row_Row[k]? = some ⟨q.1, q.2.1⟩ ∧ Snd q.1 ∧ q.1.length = W) (fun t => match t with | .inl x => x.2 = true | .inr _ => True)
    (step := fun s_33 =>
  if (decide (s_33.2.2.1 < (L.length : Int))) = true then
  (idx L s_33.2.2.1).bind fun x_41 =>
  if (decide ((x_41.Text.length : Int) > 40)) = true then
  some (.inr (.inl (s_33.2.2.2, true)))
  else
  (if x_41.On = true then
  (f_row_Row_GoOn s_33.2.2.2 (some k) true).bind fun x_58 =>
  (some (true, x_58) : Option (Bool × Sto))
  else
  (some (s_33.2.1, s_33.2.2.2) : Option (Bool × Sto))).bind fun z_53 =>
  (if (x_41.Kind == 0) = true then
  (f_linotyperef23_Of x_41.Wide x_41.Text).bind fun x_75 =>
  (f_linotyperef24_Wrong (W : Int) x_41.Col x_75).bind fun x_82 =>
  (if (x_82 == 0) = true then
  (f_linotyperef24_Paint s_33.1 z_53.1 x_41.Col x_75).bind fun x_94 =>
  (some (x_94.1, x_94.2) : Option ((List G_api_Cell) × Bool))
  else
  (some (s_33.1, z_53.1) : Option ((List G_api_Cell) × Bool))).bind fun z_85 =>
  (f_mark_Put z_53.2 (some k) x_41.Col x_41.Wide x_41.Text).bind fun x_108 =>
  (f_api_Code x_108.2).bind fun x_109 =>
  (some (z_85.1, z_85.2, x_109 == x_82, x_108.1) : Option ((List G_api_Cell) × Bool × Bool × Sto))
  else
  (andE (x_41.Kind == 1) (some (decide ((x_41.Text.length : Int) > 0)))).bind fun d_117 =>
  if d_117 = true then
  (idx x_41.Text 0).bind fun x_131 =>
  (f_linotyperef25_Add s_33.1 z_53.1 x_41.Col x_131).bind fun x_133 =>
  (idx x_41.Text 0).bind fun x_147 =>
  (f_mark_Add z_53.2 (some k) x_41.Col x_147).bind fun x_150 =>
  (some (x_133.1, x_133.2.1, x_150.2 == x_133.2.2, x_150.1) : Option ((List G_api_Cell) × Bool × Bool × Sto))
  else
  (f_linotyperef25_Widen s_33.1 z_53.1 x_41.Col).bind fun x_158 =>
  (f_mark_Widen z_53.2 (some k) x_41.Col).bind fun x_170 =>
  (some (x_158.1, x_158.2.1, x_170.2 == x_158.2.2, x_170.1) : Option ((List G_api_Cell) × Bool × Bool × Sto))).bind fun z_65 =>
  (orE (!z_65.2.2.1) ((f_row_Row_Cells z_65.2.2.2 (some k)).bind fun x_180 =>
  (f_linotyperef23_Same x_180 z_65.1).bind fun x_182 =>
  some (!x_182))).bind fun d_177 =>
  (orE d_177 ((f_row_Row_Wrap z_65.2.2.2 (some k)).bind fun x_187 =>
  some (!(x_187 == z_65.2.1)))).bind fun d_184 =>
  (orE d_184 ((f_linotypelaw25_at z_65.2.2.2 (some k) z_65.1 x_41.Col).bind fun x_196 =>
  some (!x_196))).bind fun d_190 =>
  (orE d_190 ((f_linotypelaw25_at z_65.2.2.2 (some k) z_65.1 c0).bind fun x_203 =>
  some (!x_203))).bind fun d_198 =>
  if d_198 = true then
  some (.inr (.inl (z_65.2.2.2, false)))
  else
  some (.inl (z_65.1, z_65.2.1, (w64 (s_33.2.2.1 + 1)), z_65.2.2.2))
  else
  some (.inr (.inr (s_33.2.2.2))))
    (fun i q hi ⟨e, hg, hs, hl⟩ => by
      obtain ⟨cells, wr, j, s4⟩ := q
      simp only at e hg hs hl
      subst e
      have e5 : w64 ((i : Int) + 1) = ((i + 1 : Nat) : Int) := by rw [w64_in (by omega)]; simp
      have hd : decide ((i : Int) < (L.length : Int)) = true := by simp; exact hi
      simp only [hd, if_true, idx_at hi, bsm, e5]
      have hAt := hL _ (List.getElem_mem hi)
      generalize L[i] = x at hAt ⊢
      by_cases h40 : 40 < x.Text.length
      · rw [if_pos (by simp; omega)]
        exact .inr ⟨_, rfl, rfl⟩
      rw [if_neg (by simp; omega)]
      obtain ⟨wr2, s5, hz, hg5⟩ : ∃ wr2 s5, (if x.On = true then (f_row_Row_GoOn s4 (some k) true).bind fun x_58 => (some (true, x_58) : Option (Bool × Sto)) else (some (wr, s4) : Option (Bool × Sto))) = some (wr2, s5) ∧ s5.row_Row[k]? = some ⟨cells, wr2⟩ := by
        cases x.On with
        | true =>
          rw [if_pos rfl, row_goon hg]
          exact ⟨_, _, rfl, sr_get (get_lt hg)⟩
        | false => exact ⟨wr, s4, rfl, hg⟩
      rw [hz]
      simp only [bsm]
      have key : ∃ c2 w2 s6, (if (x.Kind == 0) = true then
  (f_linotyperef23_Of x.Wide x.Text).bind fun x_75 =>
  (f_linotyperef24_Wrong (W : Int) x.Col x_75).bind fun x_82 =>
  (if (x_82 == 0) = true then
  (f_linotyperef24_Paint cells wr2 x.Col x_75).bind fun x_94 =>
  (some (x_94.1, x_94.2) : Option ((List G_api_Cell) × Bool))
  else
  (some (cells, wr2) : Option ((List G_api_Cell) × Bool))).bind fun z_85 =>
  (f_mark_Put s5 (some k) x.Col x.Wide x.Text).bind fun x_108 =>
  (f_api_Code x_108.2).bind fun x_109 =>
  (some (z_85.1, z_85.2, x_109 == x_82, x_108.1) : Option ((List G_api_Cell) × Bool × Bool × Sto))
  else
  (andE (x.Kind == 1) (some (decide ((x.Text.length : Int) > 0)))).bind fun d_117 =>
  if d_117 = true then
  (idx x.Text 0).bind fun x_131 =>
  (f_linotyperef25_Add cells wr2 x.Col x_131).bind fun x_133 =>
  (idx x.Text 0).bind fun x_147 =>
  (f_mark_Add s5 (some k) x.Col x_147).bind fun x_150 =>
  (some (x_133.1, x_133.2.1, x_150.2 == x_133.2.2, x_150.1) : Option ((List G_api_Cell) × Bool × Bool × Sto))
  else
  (f_linotyperef25_Widen cells wr2 x.Col).bind fun x_158 =>
  (f_mark_Widen s5 (some k) x.Col).bind fun x_170 =>
  (some (x_158.1, x_158.2.1, x_170.2 == x_158.2.2, x_170.1) : Option ((List G_api_Cell) × Bool × Bool × Sto))) = some (c2, w2, true, s6) ∧ s6.row_Row[k]? = some ⟨c2, w2⟩ ∧ Snd c2 ∧ c2.length = W := by
        by_cases k0 : x.Kind = 0
        · rw [if_pos (by simpa using k0), ref_of _ _ (by omega)]
          simp only [bsm]
          have hsl := strip_len x.Wide (fx x.Text)
          obtain ⟨c, er, s6, p1, p2, p3, p4⟩ := paint_all (p := strip x.Wide (fx x.Text)) hg5 hs (by omega) x.Col hAt (by omega)
          rw [hl] at p1
          rw [p1]
          unfold f_mark_Put
          rw [cell_of _ _ (by omega)]
          simp only [bsm]
          rcases p4 with ⟨rfl, rfl, a, ha, hb, hc, rfl⟩ | ⟨hc, _, rfl⟩
          · rw [if_pos (by simp), p2, ha, ref_paint _ _ _ _ (by omega) (by omega) (by omega)]
            simp only [bsm, code_nil]
            exact ⟨_, _, _, rfl, sr_get (get_lt hg5), hs.paint hc hb, by rw [pl_len]; exact hl⟩
          · rw [if_neg (by simpa using hc), p2]
            simp only [bsm]
            rw [p3]
            simp only [bsm, beq_self_eq_true]
            exact ⟨_, _, _, rfl, hg5, hs, hl⟩
        · rw [if_neg (by simpa using k0)]
          simp only [andE_some, bsm]
          by_cases k1 : x.Kind = 1 ∧ 0 < x.Text.length
          · rw [if_pos (by simp only [Bool.and_eq_true, beq_iff_eq, decide_eq_true_eq]; omega)]
            have h0 : idx x.Text (0 : Int) = some (x.Text[0]'k1.2) := idx_at (i := 0) k1.2
            rw [h0]
            simp only [bsm]
            obtain ⟨s6, c2, w2, b, q1, q2, q3, q4, q5⟩ := add_step hg5 hs (by omega) x.Col hAt (x.Text[0]'k1.2)
            rw [q1, q2]
            simp only [bsm, beq_self_eq_true]
            exact ⟨_, _, _, rfl, q3, q4, by rw [q5]; exact hl⟩
          · rw [if_neg (by simp only [Bool.and_eq_true, beq_iff_eq, decide_eq_true_eq]; omega)]
            obtain ⟨s6, c2, w2, b, q1, q2, q3, q4, q5⟩ := widen_step hg5 hs (by omega) (by omega) x.Col hAt
            rw [q1, q2]
            simp only [bsm, beq_self_eq_true]
            exact ⟨_, _, _, rfl, q3, q4, by rw [q5]; exact hl⟩
      obtain ⟨c2, w2, s6, k1, k2, k3, k4⟩ := key
      rw [k1]
      simp only [bsm, row_cells k2 (by omega) k3.sht, same_self (a := c2) (by omega) k3.sht, row_wrap k2, at_true k2 k3 _ hAt, at_true k2 k3 _ hc0, Bool.not_true, orE_false, beq_self_eq_true, Bool.false_eq_true, if_false]
      exact .inl ⟨_, rfl, rfl, k2, k3, k4⟩)
    (fun q ⟨e, _⟩ => ⟨.inr q.2.2.2, by
      have hd : decide (q.2.2.1 < (L.length : Int)) = false := by rw [e]; simp
      simp only [hd, Bool.false_eq_true, if_false], trivial⟩)
    ⟨rfl, hg3, snd_bl W, List.length_replicate⟩ (by omega)
  rw [e1]
  simp only [bsm]
  cases t with
  | inl x =>
    obtain ⟨x1, x2⟩ := x
    simp only at e2
    subst e2
    exact ⟨_, rfl⟩
  | inr s7 =>
    simp only
    have a0 : f_mark_Add s7 none 0 65 = some (s7, false) := rfl
    have b0 : f_mark_Widen s7 none 0 = some (s7, false) := rfl
    have c0 : f_mark_Put s7 none 0 1 [65] = some (s7, Er.sent 0) := by
      unfold f_mark_Put
      rw [cell_of _ _ (by decide)]
      rfl
    simp only [a0, b0, c0, bsm, Bool.not_false, if_true, code_range]
    exact ⟨_, rfl⟩
end Go.Proofs.YtohpkblleihmaaaDoor
