/-
  Screens of other sizes, in plain Lean: SizeTurns answers true. Conditions: lists are shorter than 2^63.
-/
import Derived.Test.YtohpkblleihmaaaDoorPs
import Derived.Test.YtohpkblleihmaaaDoorA7
namespace Go.Proofs.YtohpkblleihmaaaDoor
open Go Go.Lt
variable {s : Sto} {g k W : Nat} {ks : List Nat} {q : G_linotyperef34_Pen} {l : List G_api_Cell}

theorem sizeTurns_true (s : Sto) (x : G_linotypelaw35_Start) (hL : x.L.length ≤ 9223372036854775807) (l : List (Int × Int)) : ∃ st, f_linotypelaw39_SizeTurns s x l = some (st, true) := by
  obtain ⟨L, c, au⟩ := x
  simp only at hL
  unfold f_linotypelaw39_SizeTurns
  obtain ⟨t, hw, hw2⟩ := ref_wrong L hL
  obtain ⟨s1, h1⟩ := works39 s
  simp only
  rw [hw]
  simp only [bsm]
  rw [h1]
  simp only [bsm, Bool.not_true, orE_false]
  have hbig : ∀ (b : Option (Sto × Bool)), ((orE (decide ((L.length : Int) > 20)) (some ((L.length : Int) == 0))).bind fun d_31 => (orE d_31 (some (decide (t.1 ≥ 0)))).bind fun d_36 =>
      (orE d_36 (some (decide ((l.length : Int) > 8)))).bind fun d_46 => if d_46 = true then (f_linotypelaw39_works s1).bind fun x_53 => some (x_53.1, x_53.2) else b) =
      if 20 < L.length ∨ L.length = 0 ∨ 0 ≤ t.1 ∨ 8 < l.length then (f_linotypelaw39_works s1).bind fun x_53 => some (x_53.1, x_53.2) else b := fun b => by
    simp only [orE_some, bsm]
    by_cases hC : 20 < L.length ∨ L.length = 0 ∨ 0 ≤ t.1 ∨ 8 < l.length
    · rw [if_pos hC, if_pos (by simp only [Bool.or_eq_true, decide_eq_true_eq, beq_iff_eq]; omega)]
    · rw [if_neg hC, if_neg (by simp only [Bool.or_eq_true, decide_eq_true_eq, beq_iff_eq]; omega)]
  rw [hbig]
  by_cases hC : 20 < L.length ∨ L.length = 0 ∨ 0 ≤ t.1 ∨ 8 < l.length
  · rw [if_pos hC]
    obtain ⟨s2, h2⟩ := works39 s1
    rw [h2]
    exact ⟨_, rfl⟩
  rw [if_neg hC]
  have hok : Lok L := by
    rcases hw2 with h | h
    · exact absurd h (by omega)
    · exact h.2
  obtain ⟨s2, ks, e1, v⟩ := start (by omega) (by omega) hok s1 c au
  rw [e1]
  simp only [bsm, Er.isNil, Bool.not_true, Bool.false_eq_true, if_false]
  generalize hk : s2.place_Pen.length = k at *
  generalize s1.grid_Grid.length = g at *
  generalize hW : (L[0]'(by omega)).Cells.length = W at *
  rw [show (⟨c.Row, c.Col, c.Pending⟩ : G_api_Cursor) = c from rfl]
  generalize s2.add_place_Pen ⟨some g, c, au⟩ = s3 at *
  obtain ⟨t, e1, e2⟩ := iter_for (σ := Int × (List G_api_Line) × Int × Int × Bool × Bool × Sto) (τ := (Sto × Bool) ⊕ ((List G_api_Line) × Int × Int × Bool × Bool × Sto)) (n := l.length) (fuel := ((l.length : Int) - 0).toNat + 1) (s := (0, L, c.Row, c.Col, c.Pending, au, s3))
    (fun i q => q.1 = (i : Int) ∧ ∃ g W ks, Pv q.2.2.2.2.2.2 k g W ⟨q.2.1, ⟨q.2.2.1, q.2.2.2.1, q.2.2.2.2.1⟩, q.2.2.2.2.2.1⟩ ks) (fun t => match t with | .inl x => x.2 = true | .inr _ => True)
    (step := fun s_75 =>
  if (decide (s_75.1 < (l.length : Int))) = true then
  (idx l s_75.1).bind fun x_83 =>
  (andE (decide (x_83.1 > 200)) ((idx l s_75.1).bind fun x_91 =>
  some (decide (x_91.2 > 200)))).bind fun d_87 =>
  if d_87 = true then
  some (.inr (.inl (s_75.2.2.2.2.2.2, true)))
  else
  (idx l s_75.1).bind fun x_101 =>
  (idx l s_75.1).bind fun x_106 =>
  (f_size_Resize s_75.2.2.2.2.2.2 (some k) x_101.1 x_106.2).bind fun x_109 =>
  (idx l s_75.1).bind fun x_113 =>
  (idx l s_75.1).bind fun x_118 =>
  (f_size_Resize x_109 (none : Option Nat) x_113.1 x_118.2).bind fun x_121 =>
  (idx l s_75.1).bind fun x_126 =>
  (idx l s_75.1).bind fun x_131 =>
  (f_linotyperef39_Resize (⟨s_75.2.1, (⟨s_75.2.2.1, s_75.2.2.2.1, s_75.2.2.2.2.1⟩ : G_api_Cursor), s_75.2.2.2.2.2.1⟩ : G_linotyperef34_Pen) x_126.1 x_131.2).bind fun x_134 =>
  (f_linotypelaw34_Alike x_121 (some k) x_134).bind fun x_139 =>
  if (!x_139) = true then
  some (.inr (.inl (x_121, false)))
  else
  some (.inl ((w64 (s_75.1 + 1)), x_134.L, x_134.At.Row, x_134.At.Col, x_134.At.Pending, x_134.Auto, x_121))
  else
  some (.inr (.inr (s_75.2.1, s_75.2.2.1, s_75.2.2.2.1, s_75.2.2.2.2.1, s_75.2.2.2.2.2.1, s_75.2.2.2.2.2.2))))
    (fun i q hi ⟨e, g, W, ks, hv⟩ => by
      obtain ⟨j, Lq, rq, cq, pq, aq, sq⟩ := q
      simp only at e hv
      subst e
      have e5 : w64 ((i : Int) + 1) = ((i + 1 : Nat) : Int) := by rw [w64_in (by omega)]; simp
      have hd : decide ((i : Int) < (l.length : Int)) = true := by simp; exact hi
      simp only [hd, if_true, idx_at hi, bsm, e5, andE_some]
      generalize l[i] = r
      by_cases hb : (decide (r.1 > 200) && decide (r.2 > 200)) = true
      · rw [if_pos hb]
        exact .inr ⟨_, rfl, rfl⟩
      rw [if_neg hb]
      obtain ⟨s', q', g', ks', a1, a2, v', _⟩ := size_eq hv r.1 r.2
      rw [a1]
      simp only [bsm, size_none]
      rw [a2]
      simp only [bsm, Bool.not_true, Bool.false_eq_true, if_false, alike_true v']
      exact .inl ⟨_, rfl, rfl, g', _, ks', v'⟩)
    (fun q ⟨e, _⟩ => ⟨.inr q.2, by
      have hd : decide (q.1 < (l.length : Int)) = false := by rw [e]; simp
      simp only [hd, Bool.false_eq_true, if_false], trivial⟩)
    ⟨rfl, g, W, ks, v⟩ (by omega)
  rw [e1]
  simp only [bsm]
  cases t with
  | inl x =>
    obtain ⟨x1, x2⟩ := x
    simp only at e2
    subst e2
    exact ⟨_, rfl⟩
  | inr q => exact ⟨_, rfl⟩
end Go.Proofs.YtohpkblleihmaaaDoor
