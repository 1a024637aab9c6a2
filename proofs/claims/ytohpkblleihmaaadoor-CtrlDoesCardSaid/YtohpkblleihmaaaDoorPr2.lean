/-
  Controls, in plain Lean: CtrlDoes answers true. Conditions: lists are shorter than 2^63.
-/
import Derived.Test.YtohpkblleihmaaaDoorPr
import Derived.Test.YtohpkblleihmaaaDoorC1
namespace Go.Proofs.YtohpkblleihmaaaDoor
open Go Go.Lt
variable {s : Sto} {g k W : Nat} {ks : List Nat} {q : G_linotyperef34_Pen}

def sil (r : Int) : Bool := (decide (0 ≤ r) && decide (r < 32)) || (decide (127 ≤ r) && decide (r ≤ 159))
theorem silent (r : Int) : f_basew_Silent r = some (sil r) := by
  simp only [f_basew_Silent, andE_some, orE_some, bsm, sil, ge_iff_le]
theorem ref_silent (r : Int) : f_linotyperef18_Silent r = some (sil r) := by
  simp only [f_linotyperef18_Silent, andE_some, orE_some, bsm, sil, ge_iff_le, Option.some.injEq]
  rw [Bool.eq_iff_iff]
  simp
  omega
theorem ctrl_none (s : Sto) (r : Int) : f_ctrl_Do s none r = some (s, sil r) := by
  unfold f_ctrl_Do
  rw [silent]
  cases sil r <;> rfl
theorem ctrl_empty {x : G_place_Pen} (h : s.place_Pen[k]? = some x) (hx : x.G = none) (r : Int) : f_ctrl_Do s (some k) r = some (s, sil r) := by
  unfold f_ctrl_Do
  rw [silent]
  simp only [bsm, Option.isNone_some, orE_false, h, hx, Option.isNone_none]
  cases sil r <;> rfl
theorem ref_do_id (r : Int) (h : r ≠ 13 ∧ r ≠ 10 ∧ r ≠ 8) : f_linotyperef36_Do q r = some (q, sil r) := by
  unfold f_linotyperef36_Do
  rw [if_neg (by simpa using h.1)]
  simp only [bsm]
  rw [if_neg (by simpa using h.2.1)]
  simp only [bsm]
  rw [if_neg (by simpa using h.2.2)]
  simp only [bsm]
  rw [ref_silent]
  rfl
theorem ctrl_eq (h : Pv s k g W q ks) (r : Int) : ∃ s' q' ks', f_ctrl_Do s (some k) r = some (s', sil r) ∧ f_linotyperef36_Do q r = some (q', sil r) ∧ Pv s' k g W q' ks' := by
  have w1 := h.g.w1
  have w2 := h.g.w2
  unfold f_ctrl_Do
  rw [silent]
  simp only [bsm, Option.isNone_some, orE_false, h.p]
  by_cases hs : sil r = true
  · rw [hs]
    simp only [Bool.not_true, Bool.false_eq_true, if_false]
    rw [grid_wide h.g, grid_high h.g]
    simp only [bsm]
    rw [cur_hold _ h.g.w1 h.g.w2 h.g.h1 h.g.h2]
    have hd := hc_hd q.At h.g.w1 h.g.h1
    have hh := ref_Hold h
    by_cases h13 : r = 13
    · subst h13
      simp only [bsm, beq_self_eq_true, if_true, f_cursor_Return]
      rw [set_pen (get_lt h.p)]
      refine ⟨_, _, ks, rfl, ?_, h.set ⟨(hc q.At W ks.length).Row, 0, false⟩ q.Auto⟩
      unfold f_linotyperef36_Do
      rw [hh, ref_silent, hs]
      rfl
    by_cases h10 : r = 10
    · subst h10
      obtain ⟨s', q', ks', a1, a2, v, _⟩ := newline_eq h
      simp only [bsm]
      rw [if_neg (by decide), if_pos (by decide), a1]
      refine ⟨s', q', ks', rfl, ?_, v⟩
      unfold f_linotyperef36_Do
      rw [if_neg (by decide)]
      simp only [bsm]
      rw [if_pos (by decide), show (⟨q.L, ⟨q.At.Row, q.At.Col, q.At.Pending⟩, q.Auto⟩ : G_linotyperef34_Pen) = q from rfl, a2]
      simp only [bsm]
      rw [if_neg (by decide), ref_silent, hs]
      rfl
    by_cases h8 : r = 8
    · subst h8
      have hcc := hd.cc
      have hb : f_cursor_Back (hc q.At W ks.length) = some ⟨(hc q.At W ks.length).Row, max 0 ((hc q.At W ks.length).Col - 1), false⟩ := by
        unfold f_cursor_Back
        by_cases h0 : (hc q.At W ks.length).Col > 0
        · rw [if_pos (by simpa using h0), w64_in (by omega)]
          simp only [bsm, Option.some.injEq, G_api_Cursor.mk.injEq, true_and, and_true]
          omega
        · rw [if_neg (by simpa using h0)]
          simp only [bsm, Option.some.injEq, G_api_Cursor.mk.injEq, true_and, and_true]
          omega
      simp only [bsm]
      rw [if_neg (by decide), if_neg (by decide), if_pos (by decide), hb]
      simp only [bsm]
      rw [set_pen (get_lt h.p)]
      refine ⟨_, _, ks, rfl, ?_, h.set ⟨(hc q.At W ks.length).Row, max 0 ((hc q.At W ks.length).Col - 1), false⟩ q.Auto⟩
      unfold f_linotyperef36_Do
      rw [if_neg (by decide)]
      simp only [bsm]
      rw [if_neg (by decide)]
      simp only [bsm]
      rw [if_pos (by decide), show (⟨q.L, ⟨q.At.Row, q.At.Col, q.At.Pending⟩, q.Auto⟩ : G_linotyperef34_Pen) = q from rfl, hh]
      simp only [bsm]
      rw [ref_silent, hs, w64_in (by omega), imax_eq]
      rfl
    · simp only [bsm]
      rw [if_neg (by simpa using h13), if_neg (by simpa using h10), if_neg (by simpa using h8)]
      exact ⟨s, q, ks, rfl, by rw [ref_do_id r ⟨h13, h10, h8⟩, hs], h⟩
  · have hf : sil r = false := by simpa using hs
    rw [hf]
    simp only [Bool.not_false, if_true]
    have hn : r ≠ 13 ∧ r ≠ 10 ∧ r ≠ 8 := by
      refine ⟨?_, ?_, ?_⟩ <;> (rintro rfl; revert hf; decide)
    exact ⟨s, q, ks, rfl, by rw [ref_do_id r hn, hf], h⟩
theorem ctrl_at (h : Pv s k g W q ks) {r : Int} {q2 : G_linotyperef34_Pen} {b : Bool} (hr : f_linotyperef36_Do q r = some (q2, b)) : ∃ s' ks', f_ctrl_Do s (some k) r = some (s', b) ∧ Pv s' k g W q2 ks' := by
  obtain ⟨s', q', ks', a1, a2, a3⟩ := ctrl_eq h r
  rw [hr] at a2
  cases a2
  exact ⟨s', ks', a1, a3⟩
theorem works36 (s : Sto) : ∃ s', f_linotypelaw36_works s = some (s', true) := by
  unfold f_linotypelaw36_works
  obtain ⟨s1, ks1, h1, v1⟩ := place_new (s := s) 3 2
  rw [h1]
  simp only [bsm, Option.isNone_some, Bool.false_eq_true, if_false]
  obtain ⟨s2, ks2, h2, v2⟩ := put_at v1 (p1 := 1) (t := [97]) (by decide) (q2 := ⟨[⟨[⟨1, [97]⟩, bl, bl], false⟩, ⟨[bl, bl, bl], false⟩], ⟨0, 1, false⟩, true⟩) (c := ⟨0, 0, false⟩) (by rfl)
  rw [h2]
  simp only [bsm]
  obtain ⟨s3, ks3, h3, v3⟩ := ctrl_at v2 (r := 10) (q2 := ⟨[⟨[⟨1, [97]⟩, bl, bl], false⟩, ⟨[bl, bl, bl], false⟩], ⟨1, 1, false⟩, true⟩) (b := true) (by rfl)
  rw [h3]
  simp only [bsm, v3.p, andE_true, beq_self_eq_true, Bool.and_self, if_true]
  obtain ⟨s4, ks4, h4, v4⟩ := ctrl_at v3 (r := 13) (q2 := ⟨[⟨[⟨1, [97]⟩, bl, bl], false⟩, ⟨[bl, bl, bl], false⟩], ⟨1, 0, false⟩, true⟩) (b := true) (by rfl)
  rw [h4]
  simp only [bsm, v4.p, andE_true, beq_self_eq_true, if_true]
  obtain ⟨s5, ks5, h5, v5⟩ := ctrl_at v4 (r := 27) (q2 := ⟨[⟨[⟨1, [97]⟩, bl, bl], false⟩, ⟨[bl, bl, bl], false⟩], ⟨1, 0, false⟩, true⟩) (b := true) (by rfl)
  rw [h5]
  simp only [bsm, if_true]
  obtain ⟨s6, ks6, h6, v6⟩ := ctrl_at v5 (r := 97) (q2 := ⟨[⟨[⟨1, [97]⟩, bl, bl], false⟩, ⟨[bl, bl, bl], false⟩], ⟨1, 0, false⟩, true⟩) (b := false) (by rfl)
  rw [h6]
  exact ⟨_, rfl⟩
theorem Pv.addp (h : Pv s k g W q ks) (x : G_place_Pen) : Pv (s.add_place_Pen x) k g W q ks := by
  refine ⟨?_, h.g.addp x, h.nd, h.l⟩
  have := get_lt h.p
  simp only [Sto.add_place_Pen]
  rw [List.getElem?_append_left this]
  exact h.p
theorem ctrlDoes_true (s : Sto) (x : G_linotypelaw35_Start) (hL : x.L.length ≤ 9223372036854775807) (l : List Int) : ∃ st, f_linotypelaw36_CtrlDoes s x l = some (st, true) := by
  obtain ⟨L, c, au⟩ := x
  simp only at hL
  unfold f_linotypelaw36_CtrlDoes
  obtain ⟨t, hw, hw2⟩ := ref_wrong L hL
  obtain ⟨s1, h1⟩ := works36 s
  simp only
  rw [hw]
  simp only [bsm]
  rw [h1]
  simp only [bsm, Bool.not_true, orE_false]
  have hbig : ∀ (b : Option (Sto × Bool)), ((orE (decide ((L.length : Int) > 20)) (some ((L.length : Int) == 0))).bind fun d_31 => (orE d_31 (some (decide (t.1 ≥ 0)))).bind fun d_36 =>
      (orE d_36 (some (decide ((l.length : Int) > 60)))).bind fun d_46 => if d_46 = true then (f_linotypelaw36_works s1).bind fun x_53 => some (x_53.1, x_53.2) else b) =
      if 20 < L.length ∨ L.length = 0 ∨ 0 ≤ t.1 ∨ 60 < l.length then (f_linotypelaw36_works s1).bind fun x_53 => some (x_53.1, x_53.2) else b := fun b => by
    simp only [orE_some, bsm]
    by_cases hC : 20 < L.length ∨ L.length = 0 ∨ 0 ≤ t.1 ∨ 60 < l.length
    · rw [if_pos hC, if_pos (by simp only [Bool.or_eq_true, decide_eq_true_eq, beq_iff_eq]; omega)]
    · rw [if_neg hC, if_neg (by simp only [Bool.or_eq_true, decide_eq_true_eq, beq_iff_eq]; omega)]
  rw [hbig]
  by_cases hC : 20 < L.length ∨ L.length = 0 ∨ 0 ≤ t.1 ∨ 60 < l.length
  · rw [if_pos hC]
    obtain ⟨s2, h2⟩ := works36 s1
    rw [h2]
    exact ⟨_, rfl⟩
  rw [if_neg hC]
  have hok : Lok L := by
    rcases hw2 with h | h
    · exact absurd h (by omega)
    · exact h.2
  obtain ⟨s2, ks, e1, v⟩ := start (by omega) (by omega) hok s1 c au
  rw [e1]
  simp only [bsm, Er.isNil, Bool.not_true, Bool.false_eq_true, if_false]
  generalize hk : s2.place_Pen.length = k at *
  generalize s1.grid_Grid.length = g at *
  generalize hW : (L[0]'(by omega)).Cells.length = W at *
  rw [show (⟨c.Row, c.Col, c.Pending⟩ : G_api_Cursor) = c from rfl]
  generalize s2.add_place_Pen ⟨some g, c, au⟩ = s3 at *
  obtain ⟨t, e1, e2⟩ := iter_for (σ := Int × (List G_api_Line) × Int × Int × Bool × Bool × Sto) (τ := (Sto × Bool) ⊕ ((List G_api_Line) × Int × Int × Bool × Bool × Sto)) (n := l.length) (fuel := ((l.length : Int) - 0).toNat + 1) (s := (0, L, c.Row, c.Col, c.Pending, au, s3))
    (fun i q => q.1 = (i : Int) ∧ ∃ ks, Pv q.2.2.2.2.2.2 k g W ⟨q.2.1, ⟨q.2.2.1, q.2.2.2.1, q.2.2.2.2.1⟩, q.2.2.2.2.2.1⟩ ks) (fun t => match t with | .inl x => x.2 = true | .inr _ => True)
    (step := fun s_75 =>
  if (decide (s_75.1 < (l.length : Int))) = true then
  (idx l s_75.1).bind fun x_86 =>
  (f_linotyperef36_Do (⟨s_75.2.1, (⟨s_75.2.2.1, s_75.2.2.2.1, s_75.2.2.2.2.1⟩ : G_api_Cursor), s_75.2.2.2.2.2.1⟩ : G_linotyperef34_Pen) x_86).bind fun x_88 =>
  (idx l s_75.1).bind fun x_98 =>
  (f_ctrl_Do s_75.2.2.2.2.2.2 (some k) x_98).bind fun x_100 =>
  (if (!(x_100.2 == x_88.2)) = true then some (true, x_100.1) else (idx l s_75.1).bind fun x_107 =>
  (f_ctrl_Do x_100.1 (none : Option Nat) x_107).bind fun x_109 =>
  some (!(x_109.2 == x_88.2), x_109.1)).bind fun d_103 =>
  (if d_103.1 = true then some (true, d_103.2) else   (idx l s_75.1).bind fun x_118 =>
  (f_ctrl_Do (d_103.2.add_place_Pen (⟨(none : Option Nat), (⟨0, 0, false⟩ : G_api_Cursor), false⟩ : G_place_Pen)) (some d_103.2.place_Pen.length) x_118).bind fun x_120 =>
  some (!(x_120.2 == x_88.2), x_120.1)).bind fun d_112 =>
  (orE d_112.1 ((f_linotypelaw34_Alike d_112.2 (some k) x_88.1).bind fun x_127 =>
  some (!x_127))).bind fun d_123 =>
  if d_123 = true then
  some (.inr (.inl (d_112.2, false)))
  else
  some (.inl ((w64 (s_75.1 + 1)), x_88.1.L, x_88.1.At.Row, x_88.1.At.Col, x_88.1.At.Pending, x_88.1.Auto, d_112.2))
  else
  some (.inr (.inr (s_75.2.1, s_75.2.2.1, s_75.2.2.2.1, s_75.2.2.2.2.1, s_75.2.2.2.2.2.1, s_75.2.2.2.2.2.2))))
    (fun i q hi ⟨e, ks, hv⟩ => by
      obtain ⟨j, Lq, rq, cq, pq, aq, sq⟩ := q
      simp only at e hv
      subst e
      have e5 : w64 ((i : Int) + 1) = ((i + 1 : Nat) : Int) := by rw [w64_in (by omega)]; simp
      have hd : decide ((i : Int) < (l.length : Int)) = true := by simp; exact hi
      simp only [hd, if_true, idx_at hi, bsm, e5]
      generalize l[i] = r
      obtain ⟨s', q', ks', a1, a2, v'⟩ := ctrl_eq hv r
      rw [a2]
      simp only [bsm]
      rw [a1]
      have v2 := v'.addp ⟨none, ⟨0, 0, false⟩, false⟩
      have hn : (s'.add_place_Pen ⟨none, ⟨0, 0, false⟩, false⟩).place_Pen[s'.place_Pen.length]? = some ⟨none, ⟨0, 0, false⟩, false⟩ := by simp [Sto.add_place_Pen]
      simp only [bsm, beq_self_eq_true, Bool.not_true, Bool.false_eq_true, if_false, ctrl_none, ctrl_empty hn rfl, orE_false, alike_true v2]
      exact .inl ⟨_, rfl, rfl, ks', v2⟩)
    (fun q ⟨e, _⟩ => ⟨.inr q.2, by
      have hd : decide (q.1 < (l.length : Int)) = false := by rw [e]; simp
      simp only [hd, Bool.false_eq_true, if_false], trivial⟩)
    ⟨rfl, ks, v⟩ (by omega)
  rw [e1]
  simp only [bsm]
  cases t with
  | inl x =>
    obtain ⟨x1, x2⟩ := x
    simp only at e2
    subst e2
    exact ⟨_, rfl⟩
  | inr q => exact ⟨_, rfl⟩
end Go.Proofs.YtohpkblleihmaaaDoor
