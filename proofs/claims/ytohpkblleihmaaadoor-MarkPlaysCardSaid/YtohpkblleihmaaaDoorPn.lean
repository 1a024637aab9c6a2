/-
  Rows that are made and painted, in plain Lean: RowMakes and RowPaints answer true. Conditions: lists are shorter than 2^63.
-/
import Derived.Test.YtohpkblleihmaaaDoorPk
import Derived.Test.YtohpkblleihmaaaDoorA8
namespace Go.Proofs.YtohpkblleihmaaaDoor
open Go Go.Lt
variable {s : Sto} {k : Nat} {l p : List G_api_Cell} {w : Bool}

theorem code_nil : f_api_Code Er.nil = some 0 := rfl
theorem code_range : f_api_Code (Er.sent 0) = some 3 := by simp [f_api_Code, f_errors_Is, erAll, erHas, Er.isNil]
theorem code_kind : f_api_Code (Er.sent 1) = some 5 := by simp [f_api_Code, f_errors_Is, erAll, erHas, Er.isNil]
theorem pw_nil (l : List G_api_Cell) (w : Bool) (a : Nat) : pw l w a 0 = w := by
  unfold pw
  have h : tch l a 0 (l.length - 1) = false := by
    rw [Bool.eq_false_iff]
    intro e
    simp only [tch, Bool.or_eq_true, Bool.and_eq_true, decide_eq_true_eq] at e
    omega
  rw [h]
  simp
theorem paint_all (h : s.row_Row[k]? = some ⟨l, w⟩) (hs : Snd l) (hl : l.length ≤ 1024) (i : Int) (hi : -9223372036854775808 ≤ i ∧ i ≤ 9223372036854775807) (hp : p.length ≤ 1000000) :
    ∃ c e s', f_linotyperef24_Wrong (l.length : Int) i p = some c ∧ f_row_Row_Paint s (some k) i p = some (s', e) ∧ f_api_Code e = some c ∧
      ((c = 0 ∧ e = Er.nil ∧ ∃ a : Nat, i = (a : Int) ∧ a + p.length ≤ l.length ∧ Snd p ∧ s' = s.sr k ⟨pl l a p, pw l w a p.length⟩) ∨ (c ≠ 0 ∧ e.isNil = false ∧ s' = s)) := by
  by_cases hr : 0 ≤ i ∧ i + p.length ≤ l.length
  · obtain ⟨a, rfl⟩ : ∃ a : Nat, i = (a : Int) := ⟨i.toNat, by omega⟩
    have e1 : w64 ((l.length : Int) - (a : Int)) = (l.length : Int) - a := w64_in (by omega)
    have o1 : decide ((a : Int) < 0) = false := by simp
    have o2 : decide ((a : Int) > (l.length : Int)) = false := by simp; omega
    have o3 : decide ((p.length : Int) > (l.length : Int) - (a : Int)) = false := by simp; omega
    obtain ⟨b, h3, h4⟩ := ref_sound p (by omega)
    obtain ⟨b2, h5, h6⟩ := cell_sound p (by omega)
    have hw : f_linotyperef24_Wrong (l.length : Int) a p = some (if b then 0 else 5) := by
      unfold f_linotyperef24_Wrong
      simp only [o1, o2, o3, e1, orE_some, bsm, Bool.or_false, Bool.false_eq_true, if_false, h3]
      cases b <;> rfl
    by_cases hb : Snd p
    · have hbt := h4.2 hb
      subst hbt
      refine ⟨0, Er.nil, _, hw, ?_, code_nil, .inl ⟨rfl, rfl, a, rfl, by omega, hb, rfl⟩⟩
      rcases Nat.eq_zero_or_pos p.length with hn | hn
      · have hb2 := h6.2 hb
        subst hb2
        have hpn : p = [] := List.length_eq_zero_iff.1 hn
        subst hpn
        have e0 : s.sr k ⟨pl l a [], pw l w a ([] : List G_api_Cell).length⟩ = s := by rw [pl_nil, List.length_nil, pw_nil, sr_id h]
        rw [e0]
        unfold f_row_Row_Paint
        simp only [Option.isNone_some, orE_false, o1, o2, h, e1, o3, h5, bsm, Bool.false_eq_true, if_false, Bool.not_true]
        rfl
      · exact row_paint h hs hl hb (by omega) (by omega)
    · have hbf : b = false := by cases b with | false => rfl | true => exact absurd (h4.1 rfl) hb
      have hbf2 : b2 = false := by cases b2 with | false => rfl | true => exact absurd (h6.1 rfl) hb
      subst hbf hbf2
      refine ⟨5, Er.sent 1, s, hw, ?_, code_kind, .inr ⟨by decide, rfl, rfl⟩⟩
      unfold f_row_Row_Paint
      simp only [Option.isNone_some, orE_false, o1, o2, h, e1, o3, h5, bsm, Bool.false_eq_true, if_false, Bool.not_false, if_true]
  · refine ⟨3, Er.sent 0, s, ?_, ?_, code_range, .inr ⟨by decide, rfl, rfl⟩⟩
    · unfold f_linotyperef24_Wrong
      simp only [orE_some, bsm]
      rw [if_pos]
      simp only [Bool.or_eq_true, decide_eq_true_eq]
      by_cases h0 : i < 0 ∨ i > l.length
      · exact .inl h0
      · right
        rw [w64_in (by omega)]
        omega
    · unfold f_row_Row_Paint
      simp only [Option.isNone_some, h, bsm, orE_some]
      rw [if_pos]
      simp only [Bool.or_eq_true, decide_eq_true_eq]
      by_cases h0 : i < 0 ∨ i > l.length
      · exact .inl (h0.imp_left .inr)
      · right
        rw [w64_in (by omega)]
        omega

theorem works24 (s : Sto) : ∃ s', f_linotypelaw24_works s = some (s', true) := by
  have hb : List.replicate (sd 3) bl = [bl, bl, bl] := rfl
  have h0 : Snd [bl, bl, bl] := snd_bl 3
  have e1 : strip 2 (fx [19968]) = [⟨2, [19968]⟩, ⟨3, []⟩] := rfl
  have p1 : pl [bl, bl, bl] 0 [⟨2, [19968]⟩, ⟨3, []⟩] = [⟨2, [19968]⟩, ⟨3, []⟩, bl] := rfl
  have g1 : Snd [⟨2, [19968]⟩, ⟨3, []⟩] := e1 ▸ snd_fx 2 [19968]
  have s1 : Snd [⟨2, [19968]⟩, ⟨3, []⟩, bl] := p1 ▸ h0.paint (a := 0) g1 (by decide)
  have e2 : strip 1 (fx [97]) = [⟨1, [97]⟩] := rfl
  have g2 : Snd [⟨1, [97]⟩] := e2 ▸ snd_fx 1 [97]
  have p2 : pl [⟨2, [19968]⟩, ⟨3, []⟩, bl] 1 [⟨1, [97]⟩] = [bl, ⟨1, [97]⟩, bl] := rfl
  have s2 : Snd [bl, ⟨1, [97]⟩, bl] := p2 ▸ s1.paint (a := 1) g2 (by decide)
  unfold f_linotypelaw24_works
  rw [row_new, hb]
  simp only [bsm, Option.isNone_some, Bool.false_eq_true, if_false]
  have q1 := row_paint (k := s.row_Row.length) (add_get s ⟨[bl, bl, bl], false⟩) h0 (by decide) (a := 0) g1 (by decide) (by decide)
  rw [p1, add_sr, show (((0 : Nat)) : Int) = 0 from rfl] at q1
  rw [q1]
  simp only [bsm, Er.isNil, Bool.not_true, Bool.false_eq_true, if_false]
  have q2 := row_paint (k := s.row_Row.length) (add_get s ⟨[⟨2, [19968]⟩, ⟨3, []⟩, bl], pw [bl, bl, bl] false 0 [(⟨2, [19968]⟩ : G_api_Cell), ⟨3, []⟩].length⟩) s1 (by decide) (a := 1) g2 (by decide) (by decide)
  rw [p2, add_sr, show (((1 : Nat)) : Int) = 1 from rfl] at q2
  rw [q2]
  simp only [bsm, Er.isNil, Bool.not_true, Bool.false_eq_true, if_false]
  have q3 := fun w' => row_cell (s := s.add_row_Row ⟨[bl, ⟨1, [97]⟩, bl], w'⟩) (k := s.row_Row.length) (l := [bl, ⟨1, [97]⟩, bl]) (w := w') (add_get s _) (i := 0) (by decide) s2.sht
  simp only [show (((0 : Nat)) : Int) = 0 from rfl] at q3
  rw [q3]
  simp only [bsm]
  rw [row_wide (l := [bl, ⟨1, [97]⟩, bl]) (add_get s _), row_cells (l := [bl, ⟨1, [97]⟩, bl]) (add_get s _) (by decide) s2.sht]
  exact ⟨_, rfl⟩

theorem sound_true (h : Snd l) (hl : l.length ≤ 1000000) : f_linotyperef23_Sound l = some true := by
  obtain ⟨b, h1, h2⟩ := ref_sound l (by omega)
  rw [h1, h2.2 h]
theorem sound_false (h : ¬ Snd l) (hl : l.length ≤ 1000000) : f_linotyperef23_Sound l = some false := by
  obtain ⟨b, h1, h2⟩ := ref_sound l (by omega)
  rw [h1]
  cases b with
  | false => rfl
  | true => exact absurd (h2.1 rfl) h

theorem rowMakes_true (s : Sto) (n : Int) (l : List G_api_Cell) : ∃ st, f_linotypelaw24_RowMakes s n l = some (st, true) := by
  unfold f_linotypelaw24_RowMakes
  obtain ⟨s1, h1⟩ := works24 s
  rw [h1]
  simp only [bsm, Bool.not_true, orE_false]
  by_cases hL : 1100 < l.length
  · rw [if_pos (by simp; omega)]
    obtain ⟨s2, h2⟩ := works24 s1
    rw [h2]
    exact ⟨_, rfl⟩
  rw [if_neg (by simp; omega), row_new]
  have hsd := sd_in n
  have hg := add_get s1 ⟨List.replicate (sd n) bl, false⟩
  have hlen : (List.replicate (sd n) bl).length = sd n := List.length_replicate
  have hne : (((List.replicate (sd n) bl).length : Int) != imax 1 (imin n 1024)) = false := by
    rw [hlen, imin_eq, imax_eq]
    unfold sd
    simp
    omega
  simp only [bsm, Option.isNone_some, orE_false, row_wide hg, row_wrap hg, row_cells hg (by rw [hlen]; omega) (snd_bl _).sht, sound_true (snd_bl (sd n)) (by rw [hlen]; omega), hne, bne_self_eq_false, Bool.not_true, Bool.false_eq_true, if_false]
  generalize s1.add_row_Row ⟨List.replicate (sd n) bl, false⟩ = s3
  by_cases hr : l.length = 0 ∨ 1024 < l.length
  · rw [row_of_long hr]
    simp only [bsm]
    simp only [orE_some, bsm]
    rw [if_pos (by simp only [Bool.or_eq_true, beq_iff_eq, decide_eq_true_eq]; omega), code_range]
    exact ⟨_, rfl⟩
  by_cases hs : Snd l
  · rw [row_of (by omega) (by omega) hs]
    have hz : ((l.length : Int) == 0) = false := by rw [beq_eq_false_iff_ne]; omega
    have hz2 : decide ((l.length : Int) > 1024) = false := by simp; omega
    simp only [bsm, hz, hz2, orE_false, Bool.false_eq_true, if_false]
    have hg := add_get s3 ⟨l, false⟩
    simp only [sound_true hs (by omega), bsm, Bool.not_true, Bool.false_eq_true, if_false, Er.isNil, Option.isNone_some, orE_false, row_wrap hg, row_cells hg (by omega) hs.sht, same_self (a := l) (by omega) hs.sht]
    obtain ⟨t, e1, e2⟩ := iter_for (σ := Int) (τ := (Sto × Bool) ⊕ Unit) (n := l.length + 2) (fuel := ((l.length : Int) - (-1)).toNat + 2) (s := -1)
      (fun i q => q = (i : Int) - 1) (fun t => t = .inr ())
      (step := fun s_110 =>
  if (decide (s_110 ≤ (l.length : Int))) = true then
  (f_row_Row_Cell (s3.add_row_Row ⟨l, false⟩) (some s3.row_Row.length) s_110).bind fun x_118 =>
  (andE (decide (s_110 ≥ 0)) (some (decide (s_110 < (l.length : Int))))).bind fun d_129 =>
  (orE (!(x_118.2 == d_129)) ((andE x_118.2 ((idx l s_110).bind fun x_144 =>
  (f_linotyperef23_Same ([x_118.1] : List G_api_Cell) ([x_144] : List G_api_Cell)).bind fun x_148 =>
  some (!x_148))).bind fun d_139 =>
  some d_139)).bind fun d_136 =>
  (orE d_136 ((andE (!x_118.2) ((orE (x_118.1.Kind != 0) (some ((x_118.1.Text.length : Int) != 0))).bind fun d_159 =>
  some d_159)).bind fun d_154 =>
  some d_154)).bind fun d_150 =>
  if d_150 = true then
  some (.inr (.inl (s3.add_row_Row ⟨l, false⟩, false)))
  else
  some (.inl ((w64 (s_110 + 1))))
  else
  some (.inr (.inr ())))
      (fun i q hi e => by
        subst e
        refine .inl ⟨_, ?_, rfl⟩
        have e5 : w64 ((i : Int) - 1 + 1) = ((i + 1 : Nat) : Int) - 1 := by rw [w64_in (by omega)]; simp
        have hd : decide ((i : Int) - 1 ≤ (l.length : Int)) = true := by simp; omega
        simp only [hd, if_true, e5]
        by_cases hin : 0 ≤ (i : Int) - 1 ∧ (i : Int) - 1 < l.length
        · obtain ⟨j, hj⟩ : ∃ j : Nat, (i : Int) - 1 = (j : Int) := ⟨i - 1, by omega⟩
          rw [hj] at hin ⊢
          have hjl : j < l.length := by omega
          have d1 : decide ((j : Int) ≥ 0) = true := by simp
          have d2 : decide ((j : Int) < (l.length : Int)) = true := by simp; exact hjl
          have sh : Sht [l[j]] := fun x hx => by
            have : x = 0 := by simp at hx; exact hx
            subst this
            exact hs.sht j hjl
          rw [row_cell hg hjl hs.sht]
          simp only [bsm, andE_some, d1, d2, Bool.and_self, idx_at hjl, andE_true, orE_false, Bool.not_true, andE_false, beq_self_eq_true, same_self (a := [l[j]]) (by simp) sh]
          rfl
        · rw [row_cell_out hg hin]
          have d1 : (decide ((i : Int) - 1 ≥ 0) && decide ((i : Int) - 1 < (l.length : Int))) = false := by
            rw [Bool.eq_false_iff]
            simp only [ne_eq, Bool.and_eq_true, decide_eq_true_eq]
            omega
          simp only [bsm, andE_some, d1, andE_false, andE_true, Bool.not_false, orE_some, orE_false, beq_self_eq_true, Bool.not_true]
          rfl)
      (fun q e => ⟨_, by
        subst e
        have hd : decide (((l.length + 2 : Nat) : Int) - 1 ≤ (l.length : Int)) = false := by simp; omega
        simp only [hd, Bool.false_eq_true, if_false], rfl⟩)
      (by simp) (by omega)
    subst e2
    rw [e1]
    exact ⟨_, rfl⟩
  · rw [row_of_torn (by omega) (by omega) hs]
    have hz : ((l.length : Int) == 0) = false := by rw [beq_eq_false_iff_ne]; omega
    have hz2 : decide ((l.length : Int) > 1024) = false := by simp; omega
    simp only [bsm, hz, hz2, orE_false, Bool.false_eq_true, if_false]
    simp only [sound_false hs (by omega), bsm, Bool.not_false, if_true, code_kind]
    exact ⟨_, rfl⟩

theorem row_copy (h : s.row_Row[k]? = some ⟨l, w⟩) (hl : l.length ≤ 1000000) (hs : Sht l) : f_row_Row_Copy s (some k) = some (s.add_row_Row ⟨l, w⟩, some s.row_Row.length) := by
  unfold f_row_Row_Copy
  simp only [Option.isNone_some, Bool.false_eq_true, if_false, bsm, h, row_cells h hl hs]
theorem add_old' {x : G_row_Row} (h : k < s.row_Row.length) : (s.add_row_Row x).row_Row[k]? = s.row_Row[k]? := by
  simp only [Sto.add_row_Row]
  rw [List.getElem?_append_left h]
theorem rowPaints_true (s : Sto) (n : Int) (L : List G_linotypelaw24_Stroke) (hL : ∀ x ∈ L, -9223372036854775808 ≤ x.At ∧ x.At ≤ 9223372036854775807) : ∃ st, f_linotypelaw24_RowPaints s n L = some (st, true) := by
  unfold f_linotypelaw24_RowPaints
  obtain ⟨s1, h1⟩ := works24 s
  rw [h1]
  simp only [bsm, Bool.not_true, orE_false]
  by_cases hL2 : 60 < L.length
  · rw [if_pos (by simp; omega)]
    obtain ⟨s2, h2⟩ := works24 s1
    rw [h2]
    exact ⟨_, rfl⟩
  rw [if_neg (by simp; omega)]
  obtain ⟨W, hW, hW1, hW2⟩ := w_mod n 20 (by decide) (by decide)
  rw [show ((20 : Nat) : Int) = 20 from rfl] at hW
  rw [hW, row_new, rep_eq _ (by omega), sd_id hW1 (by omega)]
  simp only [bsm]
  rw [show ((W : Int).toNat) = W from rfl, show (⟨0, []⟩ : G_api_Cell) = bl from rfl]
  obtain ⟨k, hk⟩ : ∃ k, k = s1.row_Row.length := ⟨_, rfl⟩
  obtain ⟨s3, hs3⟩ : ∃ s3, s3 = s1.add_row_Row ⟨List.replicate W bl, false⟩ := ⟨_, rfl⟩
  have hg3 : s3.row_Row[k]? = some ⟨List.replicate W bl, false⟩ := by rw [hs3, hk]; exact add_get _ _
  rw [← hs3, ← hk]
  obtain ⟨t, e1, e2⟩ := iter_for (σ := (List G_api_Cell) × Bool × Int × Sto) (τ := (Sto × Bool) ⊕ Sto) (n := L.length) (fuel := ((L.length : Int) - 0).toNat + 1) (s := (List.replicate W bl, false, 0, s3))
    (fun i q => q.2.2.1 = (i : Int) ∧ q.2.2.2.row_Row[k]? = some ⟨q.1, q.2.1⟩ ∧ Snd q.1 ∧ q.1.length = W) (fun t => match t with | .inl x => x.2 = true | .inr _ => True)
    (step := fun s_33 =>
  if (decide (s_33.2.2.1 < (L.length : Int))) = true then
  (idx L s_33.2.2.1).bind fun x_41 =>
  if (decide ((x_41.L.length : Int) > 40)) = true then
  some (.inr (.inl (s_33.2.2.2, true)))
  else
  ((idx L s_33.2.2.1).bind fun x_52 =>
  if x_52.On = true then
  (f_row_Row_GoOn s_33.2.2.2 (some k) true).bind fun x_57 =>
  (some (true, x_57) : Option (Bool × Sto))
  else
  (some (s_33.2.1, s_33.2.2.2) : Option (Bool × Sto))).bind fun z_49 =>
  (f_row_Row_Copy z_49.2 (some k)).bind fun x_62 =>
  (idx L s_33.2.2.1).bind fun x_73 =>
  (idx L s_33.2.2.1).bind fun x_78 =>
  (f_row_Row_Paint x_62.1 (some k) x_73.At x_78.L).bind fun x_81 =>
  (idx L s_33.2.2.1).bind fun x_87 =>
  (idx L s_33.2.2.1).bind fun x_92 =>
  (f_linotyperef24_Wrong (W : Int) x_87.At x_92.L).bind fun x_95 =>
  (f_api_Code x_81.2).bind fun x_99 =>
  if (x_99 != x_95) = true then
  some (.inr (.inl (x_81.1, false)))
  else
  (if (x_95 == 0) = true then
  (idx L s_33.2.2.1).bind fun x_113 =>
  (idx L s_33.2.2.1).bind fun x_118 =>
  (f_linotyperef24_Paint s_33.1 z_49.1 x_113.At x_118.L).bind fun x_121 =>
  (some (x_121.1, x_121.2) : Option ((List G_api_Cell) × Bool))
  else
  (some (s_33.1, z_49.1) : Option ((List G_api_Cell) × Bool))).bind fun z_105 =>
  (f_row_Row_Cells x_81.1 (some k)).bind fun x_129 =>
  (f_linotyperef23_Same x_129 z_105.1).bind fun x_131 =>
  (orE (!x_131) ((f_row_Row_Wrap x_81.1 (some k)).bind fun x_136 =>
  some (!(x_136 == z_105.2)))).bind fun d_133 =>
  (orE d_133 ((f_row_Row_Cells x_81.1 (some k)).bind fun x_142 =>
  (f_linotyperef23_Sound x_142).bind fun x_143 =>
  some (!x_143))).bind fun d_139 =>
  (orE d_139 ((f_row_Row_Cells x_81.1 x_62.2).bind fun x_148 =>
  (f_linotyperef23_Same x_148 s_33.1).bind fun x_150 =>
  some (!x_150))).bind fun d_145 =>
  (orE d_145 ((f_row_Row_Wrap x_81.1 x_62.2).bind fun x_155 =>
  some (!(x_155 == z_49.1)))).bind fun d_152 =>
  if d_152 = true then
  some (.inr (.inl (x_81.1, false)))
  else
  some (.inl (z_105.1, z_105.2, (w64 (s_33.2.2.1 + 1)), x_81.1))
  else
  some (.inr (.inr (s_33.2.2.2))))
    (fun i q hi ⟨e, hg, hs, hl⟩ => by
      obtain ⟨cells, wr, j, s4⟩ := q
      simp only at e hg hs hl
      subst e
      have e5 : w64 ((i : Int) + 1) = ((i + 1 : Nat) : Int) := by rw [w64_in (by omega)]; simp
      have hd : decide ((i : Int) < (L.length : Int)) = true := by simp; exact hi
      simp only [hd, if_true, idx_at hi, bsm, e5]
      have hAt := hL _ (List.getElem_mem hi)
      generalize L[i] = x at hAt ⊢
      by_cases h40 : 40 < x.L.length
      · rw [if_pos (by simp; omega)]
        exact .inr ⟨_, rfl, rfl⟩
      rw [if_neg (by simp; omega)]
      -- goes on
      obtain ⟨wr2, s5, hz, hg5⟩ : ∃ wr2 s5, (if x.On = true then (f_row_Row_GoOn s4 (some k) true).bind fun x_57 => (some (true, x_57) : Option (Bool × Sto)) else (some (wr, s4) : Option (Bool × Sto))) = some (wr2, s5) ∧ s5.row_Row[k]? = some ⟨cells, wr2⟩ := by
        cases x.On with
        | true =>
          rw [if_pos rfl, row_goon hg]
          exact ⟨_, _, rfl, sr_get (get_lt hg)⟩
        | false => exact ⟨wr, s4, rfl, hg⟩
      rw [hz]
      simp only [bsm]
      rw [row_copy hg5 (by omega) hs.sht]
      simp only [bsm]
      have hk5 := get_lt hg5
      have hg6 : (s5.add_row_Row ⟨cells, wr2⟩).row_Row[k]? = some ⟨cells, wr2⟩ := by rw [add_old' hk5]; exact hg5
      have hg7 : (s5.add_row_Row ⟨cells, wr2⟩).row_Row[s5.row_Row.length]? = some ⟨cells, wr2⟩ := add_get _ _
      obtain ⟨c, er, s6, p1, p2, p3, p4⟩ := paint_all (p := x.L) hg6 hs (by omega) x.At hAt (by omega)
      rw [hl] at p1
      rw [p2]
      simp only [bsm]
      rw [p1, p3]
      simp only [bsm]
      rw [if_neg (by simp)]
      have key : ∃ c2 w2, (if (c == 0) = true then (f_linotyperef24_Paint cells wr2 x.At x.L).bind fun x_121 => (some (x_121.1, x_121.2) : Option ((List G_api_Cell) × Bool)) else (some (cells, wr2) : Option ((List G_api_Cell) × Bool))) = some (c2, w2) ∧
          s6.row_Row[k]? = some ⟨c2, w2⟩ ∧ Snd c2 ∧ c2.length = W ∧ s6.row_Row[s5.row_Row.length]? = some ⟨cells, wr2⟩ := by
        rcases p4 with ⟨rfl, _, a, ha, hb, hc, rfl⟩ | ⟨hc, _, rfl⟩
        · rw [if_pos (by simp), ha, ref_paint _ _ _ _ (by omega) (by omega) (by omega)]
          exact ⟨_, _, rfl, sr_get (get_lt hg6), hs.paint hc hb, by rw [pl_len]; exact hl, by rw [sr_ne (by omega)]; exact hg7⟩
        · rw [if_neg (by simpa using hc)]
          exact ⟨_, _, rfl, hg6, hs, hl, hg7⟩
      obtain ⟨c2, w2, k1, k2, k3, k4, k5⟩ := key
      rw [k1]
      simp only [bsm, row_cells k2 (by omega) k3.sht, row_cells k5 (by omega) hs.sht, same_self (a := c2) (by omega) k3.sht, same_self (a := cells) (by omega) hs.sht, sound_true k3 (by omega), row_wrap k2, row_wrap k5, Bool.not_true, orE_false, beq_self_eq_true, Bool.false_eq_true, if_false]
      exact .inl ⟨_, rfl, rfl, k2, k3, k4⟩)
    (fun q ⟨e, _⟩ => ⟨.inr q.2.2.2, by
      have hd : decide (q.2.2.1 < (L.length : Int)) = false := by rw [e]; simp
      simp only [hd, Bool.false_eq_true, if_false], trivial⟩)
    ⟨rfl, hg3, snd_bl W, List.length_replicate⟩ (by omega)
  rw [e1]
  simp only [bsm]
  cases t with
  | inl x =>
    obtain ⟨x1, x2⟩ := x
    simp only at e2
    subst e2
    exact ⟨_, rfl⟩
  | inr s7 =>
    simp only
    have g0 : f_row_Row_GoOn s7 none true = some s7 := rfl
    have c0 : f_row_Row_Cell s7 none 0 = some (bl, false) := rfl
    have w0 : f_row_Row_Wrap s7 none = some false := rfl
    have y0 : f_row_Row_Copy s7 none = some (s7, none) := rfl
    have p0 : f_row_Row_Paint s7 none 0 [] = some (s7, Er.sent 0) := rfl
    simp only [g0, c0, w0, y0, row_wide0, row_cells0, bsm, andE_some, Bool.not_false, Bool.and_self, beq_self_eq_true, Option.isNone_none]
    exact ⟨_, rfl⟩
end Go.Proofs.YtohpkblleihmaaaDoor
