/-
  Rectangles on grids, in plain Lean: BlitPlays answers true. Conditions: lists are shorter than 2^63.
-/
import Derived.Test.YtohpkblleihmaaaDoorBq
namespace Go.Proofs.YtohpkblleihmaaaDoor
open Go Go.Lt
variable {s : Sto} {g k W : Nat} {ks : List Nat} {l p : List G_api_Cell} {L P : List G_api_Line}

def Aok (x : G_linotypelaw59_Act) : Prop := I64 x.Row ∧ I64 x.Col ∧ Rok x.R ∧ ∀ y ∈ x.L, y.Cells.length ≤ maxLen
theorem take_none (s : Sto) (R : G_blit_Rect) (h : f_blit_within R.Row R.High 0 = some (0, 0)) (h2 : f_blit_within R.Col R.Wide 0 = some (0, 0)) : f_blit_Take s none R = some [] := by
  unfold f_blit_Take
  rw [grid_high0, grid_wide0]
  simp only [bsm]
  rw [h]
  simp only [bsm]
  rw [h2]
  rfl
theorem blitPlays_true (s : Sto) (L : List G_api_Line) (hL : L.length ≤ 9223372036854775807) (l : List G_linotypelaw59_Act) (hA : ∀ x ∈ l, Aok x) : ∃ st, f_linotypelaw59_BlitPlays s L l = some (st, true) := by
  unfold f_linotypelaw59_BlitPlays
  obtain ⟨t, hw, hw2⟩ := ref_wrong L hL
  obtain ⟨s1, h1⟩ := works59 s
  rw [hw]
  simp only [bsm]
  rw [h1]
  simp only [bsm, Bool.not_true, orE_false]
  have hbig : ∀ (b : Option (Sto × Bool)), ((orE (decide ((L.length : Int) > 30)) (some ((L.length : Int) == 0))).bind fun d_31 => (orE d_31 (some (decide (t.1 ≥ 0)))).bind fun d_36 =>
      (orE d_36 (some (decide ((l.length : Int) > 30)))).bind fun d_46 => if d_46 = true then (f_linotypelaw59_works s1).bind fun x_53 => some (x_53.1, x_53.2) else b) =
      if 30 < L.length ∨ L.length = 0 ∨ 0 ≤ t.1 ∨ 30 < l.length then (f_linotypelaw59_works s1).bind fun x_53 => some (x_53.1, x_53.2) else b := fun b => by
    simp only [orE_some, bsm]
    by_cases hC : 30 < L.length ∨ L.length = 0 ∨ 0 ≤ t.1 ∨ 30 < l.length
    · rw [if_pos hC, if_pos (by simp only [Bool.or_eq_true, decide_eq_true_eq, beq_iff_eq]; omega)]
    · rw [if_neg hC, if_neg (by simp only [Bool.or_eq_true, decide_eq_true_eq, beq_iff_eq]; omega)]
  rw [hbig]
  by_cases hC : 30 < L.length ∨ L.length = 0 ∨ 0 ≤ t.1 ∨ 30 < l.length
  · rw [if_pos hC]
    obtain ⟨s2, h2⟩ := works59 s1
    rw [h2]
    exact ⟨_, rfl⟩
  rw [if_neg hC]
  have hok : Lk L := by
    rcases hw2 with h | h
    · exact absurd h (by omega)
    · exact h.2
  obtain ⟨s2, ks, e1, v⟩ := gv_of (by omega) (by omega) hok s1
  rw [e1]
  simp only [bsm, Er.isNil, Bool.not_true, Bool.false_eq_true, if_false]
  generalize hW : (L[0]'(by omega)).Cells.length = W at *
  generalize s1.grid_Grid.length = g at *
  have w1 := v.g.w1
  have w2 := v.g.w2
  have g1 := v.g.h1
  have g2 := v.g.h2
  obtain ⟨t, e1, e2⟩ := iter_for (σ := (List G_api_Line) × Int × Sto) (τ := (Sto × Bool) ⊕ ((List G_api_Line) × Sto)) (n := l.length) (fuel := ((l.length : Int) - 0).toNat + 1) (s := (L, 0, s2))
    (fun i q => q.2.1 = (i : Int) ∧ Gv q.2.2 g W q.1 ks) (fun t => match t with | .inl x => x.2 = true | .inr x => x.1.length ≤ 1024)
    (step := fun s_51 =>
  if (decide (s_51.2.1 < (l.length : Int))) = true then
  (idx l s_51.2.1).bind fun x_59 =>
  (orE (decide ((x_59.L.length : Int) > 30)) ((idx s_51.1 0).bind fun x_71 =>
  some (decide ((x_71.Cells.length : Int) > 100)))).bind fun d_68 =>
  if d_68 = true then
  some (.inr (.inl (s_51.2.2, true)))
  else
  (if (x_59.Kind == 0) = true then
  (f_linotyperef59_Put s_51.1 x_59.Row x_59.Col x_59.L).bind fun x_96 =>
  (f_blit_Put s_51.2.2 (some g) x_59.Row x_59.Col x_59.L).bind fun x_110 =>
  (some (x_96.1, x_96.2, x_110.2, x_110.1) : Option ((List G_api_Line) × Int × Int × Sto))
  else
  if (x_59.Kind == 1) = true then
  ((f_linotyperef29_Right (⟨x_59.X.Wide, x_59.X.Text⟩ : G_api_Item)).bind fun x_119 =>
  if x_119 = true then
  (f_linotypelaw59_rect (⟨x_59.R.Row, x_59.R.Col, x_59.R.Wide, x_59.R.High⟩ : G_blit_Rect)).bind fun x_126 =>
  (f_linotyperef59_Fill s_51.1 x_126 (⟨x_59.X.Wide, x_59.X.Text⟩ : G_api_Item)).bind fun x_127 =>
  (some (x_127.1, x_127.2) : Option ((List G_api_Line) × Int))
  else
  (some (s_51.1, 0) : Option ((List G_api_Line) × Int))).bind fun z_116 =>
  (f_blit_Fill s_51.2.2 (some g) (⟨x_59.R.Row, x_59.R.Col, x_59.R.Wide, x_59.R.High⟩ : G_blit_Rect) (⟨x_59.X.Wide, x_59.X.Text⟩ : G_api_Item)).bind fun x_139 =>
  (some (z_116.1, z_116.2, x_139.2, x_139.1) : Option ((List G_api_Line) × Int × Int × Sto))
  else
  (f_linotypelaw59_rect (⟨x_59.R.Row, x_59.R.Col, x_59.R.Wide, x_59.R.High⟩ : G_blit_Rect)).bind fun x_150 =>
  (f_linotyperef59_Take s_51.1 x_150).bind fun x_151 =>
  (f_linotyperef59_Put s_51.1 x_59.Row x_59.Col x_151).bind fun x_152 =>
  (f_blit_Copy s_51.2.2 (some g) x_59.Row x_59.Col (some g) (⟨x_59.R.Row, x_59.R.Col, x_59.R.Wide, x_59.R.High⟩ : G_blit_Rect)).bind fun x_167 =>
  (some (x_152.1, x_152.2, x_167.2, x_167.1) : Option ((List G_api_Line) × Int × Int × Sto))).bind fun z_82 =>
  (orE (z_82.2.1 != z_82.2.2.1) ((f_grid_Grid_Lines z_82.2.2.2 (some g)).bind fun x_177 =>
  (f_linotyperef32_Same x_177 z_82.1).bind fun x_178 =>
  some (!x_178))).bind fun d_173 =>
  (orE d_173 ((f_blit_Take z_82.2.2.2 (some g) (⟨x_59.R.Row, x_59.R.Col, x_59.R.Wide, x_59.R.High⟩ : G_blit_Rect)).bind fun x_188 =>
  (f_linotypelaw59_rect (⟨x_59.R.Row, x_59.R.Col, x_59.R.Wide, x_59.R.High⟩ : G_blit_Rect)).bind fun x_189 =>
  (f_linotyperef59_Take z_82.1 x_189).bind fun x_190 =>
  (f_linotyperef32_Same x_188 x_190).bind fun x_191 =>
  some (!x_191))).bind fun d_180 =>
  if d_180 = true then
  some (.inr (.inl (z_82.2.2.2, false)))
  else
  some (.inl (z_82.1, (w64 (s_51.2.1 + 1)), z_82.2.2.2))
  else
  some (.inr (.inr (s_51.1, s_51.2.2))))
    (fun i q hi ⟨e, hv⟩ => by
      obtain ⟨L1, j, sq⟩ := q
      simp only at e hv
      subst e
      have e5 : w64 ((i : Int) + 1) = ((i + 1 : Nat) : Int) := by rw [w64_in (by omega)]; simp
      have hd : decide ((i : Int) < (l.length : Int)) = true := by simp; exact hi
      obtain ⟨a1, a2, a3, a4⟩ := hA _ (List.getElem_mem hi)
      simp only [hd, if_true, idx_at hi, bsm, e5]
      generalize l[i] = x at a1 a2 a3 a4 ⊢
      have hl1 := hv.len
      have h01 : idx L1 (0 : Int) = some (L1[0]'(by omega)) := idx_at (i := 0) (by omega)
      rw [h01]
      simp only [bsm, orE_some]
      by_cases hb : (decide ((x.L.length : Int) > 30) || decide ((((L1[0]'(by omega)).Cells.length : Nat) : Int) > 100)) = true
      · rw [if_pos hb]
        exact .inr ⟨_, rfl, rfl⟩
      rw [if_neg hb]
      have hx30 : x.L.length ≤ 30 := by
        simp only [Bool.or_eq_true, decide_eq_true_eq] at hb
        omega
      have hml : ∀ y ∈ x.L, y.Cells.length ≤ 9223372036854775807 := fun y hy => by
        have := a4 y hy
        unfold maxLen at this
        omega
      have hRr : (⟨x.R.Row, x.R.Col, x.R.Wide, x.R.High⟩ : G_blit_Rect) = x.R := rfl
      have hXr : (⟨x.X.Wide, x.X.Text⟩ : G_api_Item) = x.X := rfl
      rw [hRr, hXr]
      have key : ∃ L2 n s3, (if (x.Kind == 0) = true then
  (f_linotyperef59_Put L1 x.Row x.Col x.L).bind fun x_96 =>
  (f_blit_Put sq (some g) x.Row x.Col x.L).bind fun x_110 =>
  (some (x_96.1, x_96.2, x_110.2, x_110.1) : Option ((List G_api_Line) × Int × Int × Sto))
  else
  if (x.Kind == 1) = true then
  ((f_linotyperef29_Right x.X).bind fun x_119 =>
  if x_119 = true then
  (f_linotypelaw59_rect x.R).bind fun x_126 =>
  (f_linotyperef59_Fill L1 x_126 x.X).bind fun x_127 =>
  (some (x_127.1, x_127.2) : Option ((List G_api_Line) × Int))
  else
  (some (L1, 0) : Option ((List G_api_Line) × Int))).bind fun z_116 =>
  (f_blit_Fill sq (some g) x.R x.X).bind fun x_139 =>
  (some (z_116.1, z_116.2, x_139.2, x_139.1) : Option ((List G_api_Line) × Int × Int × Sto))
  else
  (f_linotypelaw59_rect x.R).bind fun x_150 =>
  (f_linotyperef59_Take L1 x_150).bind fun x_151 =>
  (f_linotyperef59_Put L1 x.Row x.Col x_151).bind fun x_152 =>
  (f_blit_Copy sq (some g) x.Row x.Col (some g) x.R).bind fun x_167 =>
  (some (x_152.1, x_152.2, x_167.2, x_167.1) : Option ((List G_api_Line) × Int × Int × Sto))) = some (L2, n, n, s3) ∧ Gv s3 g W L2 ks := by
        have hrect : f_linotypelaw59_rect x.R = some (x.R.Row, x.R.Col, x.R.Wide, x.R.High) := rfl
        by_cases k0 : x.Kind = 0
        · rw [if_pos (by simpa using k0), put_ref (by omega) (by omega) w1 w2 hv.ok x.Row x.Col a1 a2 (by omega) hml]
          obtain ⟨s3, b1, v3⟩ := put_b hv x.Row x.Col x.L a1 a2 (by omega) hml
          simp only [bsm]
          rw [b1]
          exact ⟨_, _, _, rfl, v3⟩
        rw [if_neg (by simpa using k0)]
        by_cases k1 : x.Kind = 1
        · rw [if_pos (by simpa using k1), right29]
          simp only [bsm]
          cases hrt : rt x.X with
          | true =>
            rw [if_pos rfl, hrect]
            simp only [bsm]
            rw [fill_ref (by omega) (by omega) w1 w2 hv.ok x.R a3 x.X hrt]
            obtain ⟨s3, b1, v3⟩ := fill_b hv x.R a3 x.X hrt
            simp only [bsm]
            rw [b1]
            exact ⟨_, _, _, rfl, v3⟩
          | false =>
            rw [if_neg (by decide)]
            have hf : f_blit_Fill sq (some g) x.R x.X = some (sq, 0) := by
              unfold f_blit_Fill
              rw [items_right, hrt]
              rfl
            simp only [bsm]
            rw [hf]
            exact ⟨_, _, _, rfl, hv⟩
        rw [if_neg (by simpa using k1), hrect]
        simp only [bsm]
        rw [take_ref (by omega) (by omega) w1 w2 hv.ok x.R a3]
        simp only [bsm]
        have htl := tk_len_le L1 W x.R.Row x.R.Col x.R.Wide x.R.High
        have htc := tk_cells w1 hv.ok x.R.Row x.R.Col x.R.Wide x.R.High
        have hcp : ∀ y ∈ tk L1 W x.R.Row x.R.Col x.R.Wide x.R.High, y.Cells.length ≤ 9223372036854775807 := fun y hy => by
          have := (htc y hy).1
          omega
        rw [put_ref (by omega) (by omega) w1 w2 hv.ok x.Row x.Col a1 a2 (by omega) hcp]
        obtain ⟨s3, b1, v3⟩ := put_b hv x.Row x.Col (tk L1 W x.R.Row x.R.Col x.R.Wide x.R.High) a1 a2 (by omega) hcp
        simp only [bsm]
        unfold f_blit_Copy
        rw [take_eq hv x.R a3]
        simp only [bsm]
        rw [b1]
        exact ⟨_, _, _, rfl, v3⟩
      obtain ⟨L2, n, s3, k1, v3⟩ := key
      rw [k1]
      have hl3 := v3.len
      have hrect : f_linotypelaw59_rect x.R = some (x.R.Row, x.R.Col, x.R.Wide, x.R.High) := rfl
      have htc := tk_cells w1 v3.ok x.R.Row x.R.Col x.R.Wide x.R.High
      have htl := tk_len_le L2 W x.R.Row x.R.Col x.R.Wide x.R.High
      have hsm : f_linotyperef32_Same (tk L2 W x.R.Row x.R.Col x.R.Wide x.R.High) (tk L2 W x.R.Row x.R.Col x.R.Wide x.R.High) = some true :=
        lines_self (by omega) (fun y hy => ⟨by have := (htc y hy).1; omega, (htc y hy).2.sht⟩)
      simp only [bsm, bne_self_eq_false, orE_false, grid_lines v3.g, v3.l, same_lines (by omega : L2.length ≤ 1024) w2 v3.ok, take_eq v3 x.R a3, hrect, take_ref (by omega) (by omega) w1 w2 v3.ok x.R a3, hsm, Bool.not_true, Bool.false_eq_true, if_false]
      exact .inl ⟨_, rfl, rfl, v3⟩)
    (fun q ⟨e, hv⟩ => ⟨.inr (q.1, q.2.2), by
      have hd : decide (q.2.1 < (l.length : Int)) = false := by rw [e]; simp
      simp only [hd, Bool.false_eq_true, if_false], by have := hv.len; simp only; omega⟩)
    ⟨rfl, v⟩ (by omega)
  rw [e1]
  simp only [bsm]
  cases t with
  | inl x =>
    obtain ⟨x1, x2⟩ := x
    simp only at e2
    subst e2
    exact ⟨_, rfl⟩
  | inr q =>
    obtain ⟨L9, s9⟩ := q
    simp only at e2 ⊢
    have t0 : f_blit_Take s9 none ⟨0, 0, 1, 1⟩ = some [] := take_none _ _ rfl rfl
    have p0 : f_blit_Put s9 none 0 0 L9 = some (s9, 0) := by
      have hwi : f_blit_within 0 (L9.length : Int) 0 = some (0, 0) := by
        unfold f_blit_within
        simp only [orE_some, bsm]
        rw [show (decide ((L9.length : Int) < 1) || decide ((0 : Int) ≥ 0)) = true by simp, orE_true]
        rfl
      unfold f_blit_Put
      rw [grid_high0]
      simp only [bsm]
      rw [hwi]
      rfl
    have f0 : f_blit_Fill s9 none ⟨0, 0, 1, 1⟩ ⟨1, []⟩ = some (s9, 0) := by
      unfold f_blit_Fill
      rw [items_right, show rt ⟨1, []⟩ = true from rfl, grid_high0, grid_wide0]
      rfl
    rw [t0]
    simp only [bsm, List.length_nil]
    rw [if_pos (by rfl), p0]
    simp only [bsm]
    rw [if_pos (by rfl), f0]
    exact ⟨_, rfl⟩
end Go.Proofs.YtohpkblleihmaaaDoor
