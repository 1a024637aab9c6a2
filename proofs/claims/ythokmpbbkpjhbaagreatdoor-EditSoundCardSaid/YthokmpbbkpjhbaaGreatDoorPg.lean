/-
  Grids, in plain Lean: what the functions of grid answer. Conditions: each lemma's own.
-/
import Derived.Test.YthokmpbbkpjhbaaGreatDoorPd
import Derived.Test.YthokmpbbkpjhbaaGreatDoorG1
namespace Go.Proofs.YthokmpbbkpjhbaaGreatDoor
open Go Go.Lt
variable {s : Sto} {g k W : Nat} {ks : List Nat} {l p : List G_api_Cell} {w : Bool}

def Sto.sg (s : Sto) (g : Nat) (x : G_grid_Grid) : Sto := { s with grid_Grid := s.grid_Grid.set g x }
theorem set_grid {x : G_grid_Grid} (h : g < s.grid_Grid.length) : s.set_grid_Grid g x = some (s.sg g x) := by
  simp only [Sto.set_grid_Grid, h, if_true]
  rfl
theorem sg_get {x : G_grid_Grid} (h : g < s.grid_Grid.length) : (s.sg g x).grid_Grid[g]? = some x := by simp [Sto.sg, h]
theorem sg_sg (s : Sto) (g : Nat) (x y : G_grid_Grid) : (s.sg g x).sg g y = s.sg g y := by simp [Sto.sg]
theorem sg_row (s : Sto) (g : Nat) (x : G_grid_Grid) : (s.sg g x).row_Row = s.row_Row := rfl
theorem sr_grid (s : Sto) (k : Nat) (x : G_row_Row) : (s.sr k x).grid_Grid = s.grid_Grid := rfl
theorem sg_id {x : G_grid_Grid} (h : s.grid_Grid[g]? = some x) : s.sg g x = s := by
  obtain ⟨h1, h2⟩ := List.getElem?_eq_some_iff.1 h
  unfold Sto.sg
  rw [← h2, List.set_getElem_self]

/-- What a row shows. -/
def ln (s : Sto) (k : Nat) : G_api_Line := match s.row_Row[k]? with | some r => ⟨r.cells, r.wrap⟩ | none => ⟨[], false⟩
theorem ln_eq {r : G_row_Row} (h : s.row_Row[k]? = some r) : ln s k = ⟨r.cells, r.wrap⟩ := by simp [ln, h]
/-- A row that is sound, W wide. -/
def Rw (s : Sto) (W k : Nat) : Prop := ∃ r, s.row_Row[k]? = some r ∧ Snd r.cells ∧ r.cells.length = W
/-- The grid g holds the rows ks, all W wide. -/
structure Gw (s : Sto) (g : Nat) (ks : List Nat) (W : Nat) : Prop where
  g : s.grid_Grid[g]? = some ⟨ks.map some⟩
  r : ∀ k ∈ ks, Rw s W k
  h1 : 1 ≤ ks.length
  h2 : ks.length ≤ 1024
  w1 : 1 ≤ W
  w2 : W ≤ 1024
theorem Gw.at (h : Gw s g ks W) {i : Nat} (hi : i < ks.length) : Rw s W ks[i] := h.r _ (List.getElem_mem hi)

theorem grid_high (h : Gw s g ks W) : f_grid_Grid_High s (some g) = some (ks.length : Int) := by simp [f_grid_Grid_High, h.g]
theorem grid_high0 : f_grid_Grid_High s none = some 0 := rfl
theorem grid_row (h : Gw s g ks W) {i : Nat} (hi : i < ks.length) : f_grid_Grid_Row s (some g) i = some (some ks[i]) := by
  unfold f_grid_Grid_Row
  rw [grid_high h]
  simp only [bsm, orE_some]
  rw [if_neg (by simp; omega)]
  simp only [bsm, h.g]
  rw [idx_at (by simpa using hi)]
  simp
theorem grid_row_out (h : Gw s g ks W) {i : Int} (hi : i < 0 ∨ (ks.length : Int) ≤ i) : f_grid_Grid_Row s (some g) i = some none := by
  unfold f_grid_Grid_Row
  rw [grid_high h]
  simp only [bsm, orE_some]
  rw [if_pos (by simp; omega)]
theorem grid_row0 (i : Int) : f_grid_Grid_Row s none i = some none := by
  unfold f_grid_Grid_Row
  rw [grid_high0]
  simp only [bsm, orE_some]
  rw [if_pos (by simp; omega)]
theorem wide_of (h : Rw s W k) : f_row_Row_Wide s (some k) = some (W : Int) := by
  obtain ⟨r, h1, _, h3⟩ := h
  rw [row_wide (l := r.cells) (w := r.wrap) h1, h3]
theorem grid_wide (h : Gw s g ks W) : f_grid_Grid_Wide s (some g) = some (W : Int) := by
  unfold f_grid_Grid_Wide
  rw [show (0 : Int) = ((0 : Nat) : Int) from rfl, grid_row h (show 0 < ks.length from h.h1)]
  simp only [bsm]
  rw [wide_of (h.at h.h1)]
  rfl
theorem grid_wide0 : f_grid_Grid_Wide s none = some 0 := by
  unfold f_grid_Grid_Wide
  rw [grid_row0]
  rfl
theorem grid_set (h : Gw s g ks W) {i : Nat} (hi : i < ks.length) (hk : Rw s W k) : f_grid_Grid_Set s (some g) i (some k) = some (s.sg g ⟨(ks.set i k).map some⟩, true) := by
  unfold f_grid_Grid_Set
  rw [grid_row h hi]
  simp only [bsm, wide_of (h.at hi), wide_of hk, Option.isNone_some, orE_false]
  rw [if_neg (by simp)]
  simp only [h.g, bsm]
  rw [idx_at (by simpa using hi), sets_nat (by simpa using hi)]
  simp only [bsm]
  rw [set_grid (get_lt h.g)]
  simp
theorem Gw.set (h : Gw s g ks W) {i : Nat} (hk : Rw s W k) : Gw (s.sg g ⟨(ks.set i k).map some⟩) g (ks.set i k) W :=
  ⟨sg_get (get_lt h.g), fun j hj => by
    rcases List.mem_or_eq_of_mem_set hj with hj | rfl
    · exact h.r j hj
    · exact hk, by simpa using h.h1, by simpa using h.h2, h.w1, h.w2⟩

theorem grid_lines (h : Gw s g ks W) : f_grid_Grid_Lines s (some g) = some (ks.map (ln s)) := by
  have hh := h.h2
  have hw := h.w2
  unfold f_grid_Grid_Lines
  rw [grid_high h]
  simp only [bsm]
  obtain ⟨t, h1, h2⟩ := iter_for (σ := (List G_api_Line) × Int) (τ := List G_api_Line) (n := ks.length) (fuel := ((ks.length : Int) - 0).toNat + 1) (s := (([] : List G_api_Line), 0))
    (fun i q => q = ((ks.take i).map (ln s), (i : Int))) (fun t => t = ks.map (ln s))
    (step := fun s_9 =>
  if (decide (s_9.2 < (ks.length : Int))) = true then
  (s.grid_Grid[g]?).bind fun o_19 =>
  (idx o_19.rows s_9.2).bind fun x_21 =>
  (idx o_19.rows s_9.2).bind fun x_28 =>
  (f_row_Row_Cells s x_21).bind fun x_30 =>
  (f_row_Row_Wrap s x_28).bind fun x_31 =>
  (app s_9.1 ([(⟨x_30, x_31⟩ : G_api_Line)] : List G_api_Line)).bind fun x_34 =>
  some (.inl (x_34, (w64 (s_9.2 + 1))))
  else
  some (.inr (s_9.1)))
    (fun i q hi e => by
      subst e
      refine .inl ⟨_, ?_, rfl⟩
      obtain ⟨r, r1, r2, r3⟩ := h.at hi
      have e5 : w64 ((i : Int) + 1) = ((i + 1 : Nat) : Int) := by rw [w64_in (by omega)]; simp
      have hd : decide ((i : Int) < (ks.length : Int)) = true := by simp; exact hi
      have hi2 : i < (ks.map some).length := by simpa using hi
      simp only [hd, if_true, bsm, h.g, idx_at hi2, List.getElem_map, e5]
      rw [row_cells (l := r.cells) (w := r.wrap) r1 (by omega) r2.sht, row_wrap (l := r.cells) (w := r.wrap) r1]
      simp only [bsm]
      rw [app_eq (by simp; omega)]
      simp only [bsm]
      rw [List.take_succ_eq_append_getElem hi, List.map_append]
      simp [ln_eq r1])
    (fun q e => ⟨_, by subst e; simp, rfl⟩)
    (by simp) (by omega)
  subst h2
  rw [h1]
  rfl

/-! ### lines -/
def Okl (W : Nat) (x : G_api_Line) : Prop := Snd x.Cells ∧ x.Cells.length = W
theorem lines_self {a : List G_api_Line} (ha : a.length ≤ 1000000) (hs : ∀ x ∈ a, x.Cells.length ≤ 1000000 ∧ Sht x.Cells) : f_linotyperef32_Same a a = some true := by
  unfold f_linotyperef32_Same
  rw [if_neg (by simp)]
  obtain ⟨t, h1, h2⟩ := iter_for (σ := Int) (τ := Bool ⊕ Unit) (n := a.length) (fuel := ((a.length : Int) - 0).toNat + 1) (s := 0)
    (fun i q => q = (i : Int)) (fun t => t = .inr ())
    (step := fun s_13 =>
  if (decide (s_13 < (a.length : Int))) = true then
  (idx a s_13).bind fun x_21 =>
  (idx a s_13).bind fun x_26 =>
  (orE (!(x_21.Wrap == x_26.Wrap)) ((idx a s_13).bind fun x_34 =>
  (idx a s_13).bind fun x_39 =>
  (f_linotyperef23_Same x_34.Cells x_39.Cells).bind fun x_42 =>
  some (!x_42))).bind fun d_30 =>
  if d_30 = true then
  some (.inr (.inl false))
  else
  some (.inl ((w64 (s_13 + 1))))
  else
  some (.inr (.inr ())))
    (fun i q hi e => by
      subst e
      refine .inl ⟨_, ?_, rfl⟩
      have hm := hs _ (List.getElem_mem hi)
      have e5 : w64 ((i : Int) + 1) = ((i + 1 : Nat) : Int) := by rw [w64_in (by omega)]; simp
      have hd : decide ((i : Int) < (a.length : Int)) = true := by simp; exact hi
      simp only [hd, if_true, idx_at hi, bsm, e5, same_self (show a[i].Cells.length ≤ 9223372036854775807 by omega) hm.2, beq_self_eq_true, Bool.not_true, orE_false, Bool.false_eq_true, if_false])
    (fun q e => ⟨_, by subst e; simp, rfl⟩)
    rfl (by omega)
  subst h2
  rw [h1]
  rfl
theorem grid_lines_ok (h : Gw s g ks W) : ∀ x ∈ ks.map (ln s), Okl W x := fun x hx => by
  obtain ⟨k, hk, rfl⟩ := List.mem_map.1 hx
  obtain ⟨r, r1, r2, r3⟩ := h.r k hk
  rw [ln_eq r1]
  exact ⟨r2, r3⟩
theorem same_lines {a : List G_api_Line} (ha : a.length ≤ 1024) (hw : W ≤ 1024) (hs : ∀ x ∈ a, Okl W x) : f_linotyperef32_Same a a = some true :=
  lines_self (by omega) fun x hx => ⟨by rw [(hs x hx).2]; omega, (hs x hx).1.sht⟩

/-- What Wrong says of lines. -/
theorem ref_wrong (a : List G_api_Line) (ha : a.length ≤ 9223372036854775807) : ∃ t, f_linotyperef32_Wrong a = some t ∧
    (0 ≤ t.1 ∨ (t.1 < 0 ∧ ∀ i (h : i < a.length), 1 ≤ a[i].Cells.length ∧ a[i].Cells.length ≤ 1024 ∧ Snd a[i].Cells ∧ a[i].Cells.length = (a[0]'(by omega)).Cells.length)) := by
  unfold f_linotyperef32_Wrong
  obtain ⟨t, h1, h2⟩ := iter_for (σ := Int) (τ := (Int × Int) ⊕ Unit) (n := a.length) (fuel := ((a.length : Int) - 0).toNat + 1) (s := 0)
    (fun i q => q = (i : Int) ∧ ∀ j (h : j < a.length), j < i → 1 ≤ a[j].Cells.length ∧ a[j].Cells.length ≤ 1024 ∧ Snd a[j].Cells ∧ a[j].Cells.length = (a[0]'(by omega)).Cells.length)
    (fun t => match t with | .inl x => 0 ≤ x.1 | .inr _ => ∀ i (h : i < a.length), 1 ≤ a[i].Cells.length ∧ a[i].Cells.length ≤ 1024 ∧ Snd a[i].Cells ∧ a[i].Cells.length = (a[0]'(by omega)).Cells.length)
    (step := fun s_6 =>
  if (decide (s_6 < (a.length : Int))) = true then
  (idx a s_6).bind fun x_14 =>
  (orE ((x_14.Cells.length : Int) == 0) (some (decide ((x_14.Cells.length : Int) > 1024)))).bind fun d_22 =>
  if d_22 = true then
  some (.inr (.inl (s_6, 3)))
  else
  (idx a s_6).bind fun x_33 =>
  (f_linotyperef23_Sound x_33.Cells).bind fun x_36 =>
  if (!x_36) = true then
  some (.inr (.inl (s_6, 5)))
  else
  (idx a 0).bind fun x_45 =>
  if ((x_14.Cells.length : Int) != (x_45.Cells.length : Int)) = true then
  some (.inr (.inl (s_6, 3)))
  else
  some (.inl ((w64 (s_6 + 1))))
  else
  some (.inr (.inr ())))
    (fun i q hi ⟨e, hI⟩ => by
      subst e
      have e5 : w64 ((i : Int) + 1) = ((i + 1 : Nat) : Int) := by rw [w64_in (by omega)]; simp
      have hd : decide ((i : Int) < (a.length : Int)) = true := by simp; exact hi
      have h0 : idx a (0 : Int) = some (a[0]'(by omega)) := idx_at (i := 0) (by omega)
      simp only [hd, if_true, idx_at hi, bsm, orE_some, e5, h0]
      by_cases hc : a[i].Cells.length = 0 ∨ 1024 < a[i].Cells.length
      · rw [if_pos (by rw [Bool.or_eq_true, beq_iff_eq, decide_eq_true_eq]; omega)]
        exact .inr ⟨_, rfl, Int.natCast_nonneg i⟩
      · rw [if_neg (by rw [Bool.or_eq_true, beq_iff_eq, decide_eq_true_eq]; omega)]
        obtain ⟨b, h3, h4⟩ := ref_sound a[i].Cells (by omega)
        simp only [h3, bsm]
        cases b with
        | false => exact .inr ⟨.inl ((i : Int), 5), by simp, Int.natCast_nonneg i⟩
        | true =>
          simp only [Bool.not_true, Bool.false_eq_true, if_false]
          by_cases hw : a[i].Cells.length = (a[0]'(by omega)).Cells.length
          · rw [if_neg (by simp [hw])]
            refine .inl ⟨_, rfl, rfl, fun j hj hlt => ?_⟩
            by_cases hji : j < i
            · exact hI j hj hji
            · obtain rfl : j = i := by omega
              exact ⟨by omega, by omega, h4.1 rfl, hw⟩
          · rw [if_pos (by simp; omega)]
            exact .inr ⟨_, rfl, Int.natCast_nonneg i⟩)
    (fun q ⟨e, hI⟩ => ⟨.inr (), by subst e; simp, fun i h => hI i h h⟩)
    ⟨rfl, fun j _ h => by omega⟩ (by omega)
  rw [h1]
  cases t with
  | inl x => exact ⟨x, rfl, .inl h2⟩
  | inr u => exact ⟨_, rfl, .inr ⟨by decide, h2⟩⟩
end Go.Proofs.YthokmpbbkpjhbaaGreatDoor
