/-
  Clusters in rows, in plain Lean: MarkWidens answers true. Conditions: lists are shorter than 2^63.
-/
import Derived.Test.YthokmpbbkpjhbaaGreatDoorPd
import Derived.Test.YthokmpbbkpjhbaaGreatDoorM1
namespace Go.Proofs.YthokmpbbkpjhbaaGreatDoor
open Go Go.Lt
variable {s : Sto} {k : Nat} {l p : List G_api_Cell} {w : Bool}

theorem sca_replace (p : List Int) (hp : p.length ≤ 1000000) : f_scalar_Replace p = some (p.map fixv) := by
  unfold f_scalar_Replace
  rw [rep_eq _ (by omega), rep_eq _ (by omega)]
  simp only [bsm]
  obtain ⟨t, h1, h2⟩ := iter_for (σ := (List Int) × Int) (τ := List Int) (n := p.length) (fuel := ((p.length : Int) - 0).toNat + 1) (s := (List.replicate (0 : Int).toNat 0, 0))
    (fun i q => q = ((p.take i).map fixv, (i : Int))) (fun t => t = p.map fixv)
    (step := fun s_12 =>
  if (decide (s_12.2 < (p.length : Int))) = true then
  (idx p s_12.2).bind fun x_15 =>
  ((f_scalar_Valid x_15).bind fun x_21 =>
  if (!x_21) = true then
  (some (65533) : Option (Int))
  else
  (some (x_15) : Option (Int))).bind fun z_19 =>
  (app s_12.1 ([z_19] : List Int)).bind fun x_29 =>
  some (.inl (x_29, (w64 (s_12.2 + 1))))
  else
  some (.inr (s_12.1)))
    (fun i q hi e => by
      subst e
      refine .inl ⟨_, ?_, rfl⟩
      have e5 : w64 ((i : Int) + 1) = ((i + 1 : Nat) : Int) := by rw [w64_in (by omega)]; simp
      have hd : decide ((i : Int) < (p.length : Int)) = true := by simp; exact hi
      simp only [hd, if_true, idx_at hi, bsm, sca_valid, e5]
      have hz : (if (!vld p[i]) = true then (some (65533) : Option Int) else some p[i]) = some (fixv p[i]) := by
        unfold fixv
        cases vld p[i] <;> rfl
      rw [hz]
      simp only [bsm]
      rw [app_eq (by simp; omega)]
      simp only [bsm]
      rw [List.take_succ_eq_append_getElem hi, List.map_append]
      rfl)
    (fun q e => ⟨_, by subst e; simp, rfl⟩)
    rfl (by omega)
  subst h2
  rw [h1]
  rfl
theorem cell_of (wide : Int) (t : List Int) (ht : t.length ≤ 9223372036854775807) : f_cell_Of wide t = some (strip wide (fx t)) := by
  unfold f_cell_Of
  have hz : (if (decide (wide ≥ 2)) = true then (app ([(⟨0, ([] : List Int)⟩ : G_api_Cell)] : List G_api_Cell) ([(⟨0, ([] : List Int)⟩ : G_api_Cell)] : List G_api_Cell)).bind fun x_14 => (some (x_14) : Option ((List G_api_Cell))) else
      (some (([(⟨0, ([] : List Int)⟩ : G_api_Cell)] : List G_api_Cell)) : Option ((List G_api_Cell)))) = some (if 2 ≤ wide then [bl, bl] else [bl]) := by
    by_cases h : 2 ≤ wide
    · rw [if_pos (by simpa using h), if_pos h, app_eq (by simp)]
      rfl
    · rw [if_neg (by simpa using h), if_neg h]
      rfl
  rw [hz]
  simp only [bsm]
  unfold strip
  by_cases h0 : t = []
  · subst h0
    rw [if_pos (show ((([] : List Int).length : Int) == 0) = true from rfl), if_pos (show fx [] = [] from rfl)]
    by_cases h : 2 ≤ wide
    · rw [if_pos h, if_pos (show wide > 1 by omega)]
    · rw [if_neg h, if_neg (show ¬ (wide > 1) by omega)]
  · have hl : 0 < t.length := List.length_pos_iff.2 h0
    have hf : fx t ≠ [] := by
      have := fx_len' t
      intro h
      rw [h, List.length_nil] at this
      omega
    rw [if_neg (by rw [beq_iff_eq]; omega), if_neg hf, imin_eq, show (min (t.length : Int) 16) = ((min t.length 16 : Nat) : Int) by omega, show (0 : Int) = ((0 : Nat) : Int) from rfl, slc_eq (Nat.zero_le _) (Nat.min_le_left _ _)]
    simp only [bsm]
    rw [sca_replace _ (by simp; omega)]
    have ef : ((t.drop 0).take (min t.length 16 - 0)).map fixv = fx t := by
      unfold fx
      rw [List.drop_zero, Nat.sub_zero]
      congr 1
      rcases Nat.le_total t.length 16 with h | h
      · rw [Nat.min_eq_left h, List.take_of_length_le (Nat.le_refl _), List.take_of_length_le h]
      · rw [Nat.min_eq_right h]
    rw [ef]
    by_cases h : 2 ≤ wide
    · rw [if_pos h, if_pos (show wide > 1 by omega), show decide (wide ≥ 2) = true by simpa using h]
      rfl
    · rw [if_neg h, if_neg (show ¬ (wide > 1) by omega), show decide (wide ≥ 2) = false by simpa using h]
      rfl
theorem strip_len (wide : Int) (t : List Int) : 1 ≤ (strip wide t).length ∧ (strip wide t).length ≤ 2 := by
  unfold strip
  repeat' split
  all_goals simp
theorem snd_fx (wide : Int) (t : List Int) : Snd (strip wide (fx t)) := snd_strip wide (fx_vld t) (fx_len t)
theorem fx_id {t : List Int} (h : ∀ x ∈ t, vld x = true) (hl : t.length ≤ 16) : fx t = t := by
  unfold fx
  rw [List.take_of_length_le hl]
  conv => rhs; rw [← List.map_id t]
  refine List.map_congr_left fun x hx => ?_
  unfold fixv
  rw [if_pos (h x hx)]
  rfl
theorem mark_put (h : s.row_Row[k]? = some ⟨l, w⟩) (hs : Snd l) (hl : l.length ≤ 1024) {a : Nat} (wide : Int) {t : List Int} (ht : t.length ≤ 9223372036854775807) (ha : a + (strip wide (fx t)).length ≤ l.length) :
    f_mark_Put s (some k) a wide t = some (s.sr k ⟨pl l a (strip wide (fx t)), pw l w a (strip wide (fx t)).length⟩, Er.nil) := by
  unfold f_mark_Put
  rw [cell_of wide t ht]
  simp only [bsm]
  rw [row_paint h hs hl (snd_fx wide t) (strip_len wide _).1 ha]
  rfl

/-- The cluster that stands at a column, where it begins. -/
def mat (l : List G_api_Cell) (i : Int) : Option Nat := if 0 ≤ i ∧ i < l.length then (if kd l i.toNat = 0 then none else if kd l i.toNat = 3 then some (i.toNat - 1) else some i.toNat) else none
theorem row_cell_out (h : s.row_Row[k]? = some ⟨l, w⟩) {i : Int} (hi : ¬ (0 ≤ i ∧ i < l.length)) : f_row_Row_Cell s (some k) i = some (bl, false) := by
  unfold f_row_Row_Cell
  rw [row_wide h]
  simp only [bsm, orE_some]
  rw [if_pos (by simp; omega)]
  rfl
theorem kd_rgt (hs : Snd l) (j : Nat) : kd l j = 0 ∨ kd l j = 1 ∨ kd l j = 2 ∨ kd l j = 3 := by
  rcases Nat.lt_or_ge j l.length with h | h
  · have := (hs j h).1
    unfold rgt at this
    rw [kd_at h]
    split at this
    · omega
    · simp only [Bool.and_eq_true, Bool.or_eq_true, decide_eq_true_eq] at this
      omega
  · exact .inl (kd_out h)
theorem mark_at (h : s.row_Row[k]? = some ⟨l, w⟩) (hs : Snd l) (i : Int) (hi : -9223372036854775808 ≤ i ∧ i ≤ 9223372036854775807) :
    f_mark_At s (some k) i = some (match mat l i with | some j => ((j : Int), ⟨kd l j, (l.getD j bl).Text⟩, true) | none => (0, ⟨0, []⟩, false)) := by
  unfold f_mark_At mat
  by_cases hin : 0 ≤ i ∧ i < l.length
  · obtain ⟨j, rfl⟩ : ∃ j : Nat, i = (j : Int) := ⟨i.toNat, by omega⟩
    have hj : j < l.length := by omega
    rw [if_pos hin, row_cell h hj hs.sht, Int.toNat_natCast]
    have hkd := kd_at hj
    have hgd : l.getD j bl = l[j] := by rw [List.getD_eq_getElem?_getD, List.getElem?_eq_getElem hj]; rfl
    simp only [bsm, andE_true]
    by_cases h3 : kd l j = 3
    · obtain ⟨p1, p2⟩ := hs.three h3
      have hj2 : j - 1 < l.length := by omega
      have hkd2 := kd_at hj2
      rw [if_pos (by rw [beq_iff_eq, ← hkd]; exact h3), w64_in (by omega), show ((j : Int) - 1) = ((j - 1 : Nat) : Int) by omega, row_cell h hj2 hs.sht]
      simp only [bsm, andE_true]
      rw [if_neg (show ¬ kd l j = 0 by omega), if_pos h3, if_neg (by rw [beq_iff_eq, ← hkd2]; omega), if_pos (by rw [beq_iff_eq, ← hkd2]; exact p2)]
      simp only
      rw [p2, List.getD_eq_getElem?_getD, List.getElem?_eq_getElem hj2]
      rfl
    · rw [if_neg (by rw [beq_iff_eq, ← hkd]; exact h3)]
      simp only [bsm, andE_true]
      rcases kd_rgt hs j with h0 | h1 | h2 | h4
      · rw [if_neg (by rw [beq_iff_eq, ← hkd]; omega), if_neg (by rw [beq_iff_eq, ← hkd]; omega), if_pos h0]
      · rw [if_pos (by rw [beq_iff_eq, ← hkd]; exact h1), if_neg (by omega), if_neg h3]
        simp only
        rw [h1, hgd]
      · rw [if_neg (by rw [beq_iff_eq, ← hkd]; omega), if_pos (by rw [beq_iff_eq, ← hkd]; exact h2), if_neg (by omega), if_neg h3]
        simp only
        rw [h2, hgd]
      · exact absurd h4 h3
  · rw [if_neg hin, row_cell_out h hin]
    rfl
theorem mat_lt {i : Int} {j : Nat} (h : mat l i = some j) : j < l.length := by
  unfold mat at h
  repeat' split at h
  all_goals first
    | (obtain rfl := Option.some.inj h; omega)
    | cases h
theorem txt_ok (hs : Snd l) {j : Nat} (h : kd l j = 1 ∨ kd l j = 2) : fx (l.getD j bl).Text = (l.getD j bl).Text ∧ 1 ≤ (l.getD j bl).Text.length ∧ (l.getD j bl).Text.length ≤ 16 := by
  have hj : j < l.length := kd_lt (by omega)
  have hr := hs.rg hj
  rw [← kd_getD] at h
  generalize l.getD j bl = c at *
  unfold rgt at hr
  rw [if_neg (by omega)] at hr
  simp only [Bool.and_eq_true, Bool.or_eq_true, decide_eq_true_eq, List.all_eq_true] at hr
  exact ⟨fx_id hr.2 hr.1.2, hr.1.1.2, hr.1.2⟩
theorem wr_u64 (n : Int) : 0 ≤ IntKind.u64.wrap n ∧ IntKind.u64.wrap n < 18446744073709551616 := by
  simp only [IntKind.wrap, IntKind.signed, IntKind.bits, Bool.false_and, Bool.false_eq_true, if_false]
  omega
theorem wr_u64_in {n : Int} (h : 0 ≤ n ∧ n < 18446744073709551616) : IntKind.u64.wrap n = n := by
  simp only [IntKind.wrap, IntKind.signed, IntKind.bits, Bool.false_and, Bool.false_eq_true, if_false]
  omega

theorem pc_in {a j : Nat} (h : a ≤ j ∧ j < a + p.length) : pc l a p j = p.getD (j - a) bl := by unfold pc; rw [if_pos h]
theorem pc_out {a j : Nat} (h : ¬(a ≤ j ∧ j < a + p.length)) : pc l a p j = if tch l a p.length j = true then bl else l.getD j bl := by unfold pc; rw [if_neg h]
theorem add_old {x y : G_row_Row} (h : s.row_Row[k]? = some x) : (s.add_row_Row y).row_Row[k]? = some x := by
  rw [← h]
  exact List.getElem?_append_left (get_lt h)
theorem mod_in (c : Int) {n : Nat} (h1 : 1 ≤ n) (h2 : n ≤ 9223372036854775807) : ∃ j : Nat, w64 ((IntKind.u64.wrap c).tmod (IntKind.u64.wrap (n : Int))) = (j : Int) ∧ j < n := by
  rw [wr_u64_in (show (0 : Int) ≤ (n : Int) ∧ (n : Int) < 18446744073709551616 by omega)]
  have g1 := Int.tmod_nonneg (n : Int) (wr_u64 c).1
  have g2 := Int.tmod_lt_of_pos (IntKind.u64.wrap c) (show (0 : Int) < (n : Int) by omega)
  generalize (IntKind.u64.wrap c).tmod (n : Int) = z at *
  exact ⟨z.toNat, by rw [w64_in (by omega)]; omega, by omega⟩

theorem w_mod (n : Int) (m : Nat) (hm : 1 ≤ m) (hm2 : m ≤ 1000) : ∃ W : Nat, w64 (1 + w64 ((IntKind.u64.wrap n).tmod m)) = (W : Int) ∧ 1 ≤ W ∧ W ≤ m := by
  have h := wr_u64 n
  obtain ⟨u, hu⟩ : ∃ u : Nat, IntKind.u64.wrap n = (u : Int) := ⟨(IntKind.u64.wrap n).toNat, by omega⟩
  rw [hu]
  have e : (u : Int).tmod (m : Int) = ((u % m : Nat) : Int) := by rw [Int.tmod_eq_emod_of_nonneg (by omega)]; rfl
  have hlt : u % m < m := Nat.mod_lt _ (by omega)
  refine ⟨1 + u % m, ?_, by omega, by omega⟩
  rw [e, w64_in (n := ((u % m : Nat) : Int)) (by omega), w64_in (by omega)]
  omega
end Go.Proofs.YthokmpbbkpjhbaaGreatDoor
