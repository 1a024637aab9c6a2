/-
  Rectangles on lines as the document has them, in plain Lean; BlitPlays answers true. Conditions: lists are shorter than 2^63.
-/
import Derived.Test.YtohpkblleihmaaaDoorBr
import Derived.Test.YtohpkblleihmaaaDoorB2
namespace Go.Proofs.YtohpkblleihmaaaDoor
open Go Go.Lt
variable {s : Sto} {g k W : Nat} {ks : List Nat} {l p : List G_api_Cell} {L P : List G_api_Line}

theorem in59 (i : Nat) (hi : i ≤ 1024) (f n : Int) (hf : I64 f) (hn : I64 n) : f_linotyperef59_in i f n = some (decide (f ≤ (i : Int) ∧ (i : Int) < f + n)) := by
  unfold I64 at hf hn
  unfold f_linotyperef59_in
  simp only [orE_some, bsm]
  by_cases h1 : n ≤ 0 ∨ (i : Int) < f
  · rw [if_pos (by simpa using h1)]
    congr 1
    symm
    rw [decide_eq_false_iff_not]
    omega
  · rw [if_neg (by simpa using h1)]
    by_cases h2 : f < 0
    · rw [if_pos (by simpa using h2), w64_in (by omega)]
      congr 1
      rw [Bool.eq_iff_iff, decide_eq_true_eq, decide_eq_true_eq]
      omega
    · rw [if_neg (by simpa using h2), w64_in (by omega)]
      congr 1
      rw [Bool.eq_iff_iff, decide_eq_true_eq, decide_eq_true_eq]
      omega
theorem in_wi {m : Nat} (hm : 1 ≤ m) (hm2 : m ≤ 1024) {i : Nat} (hi : i < m) (f n : Int) (hf : I64 f) (hn : I64 n) : f_linotyperef59_in i f n = some (decide ((wi f n m).1 ≤ i) && decide (i < (wi f n m).2)) := by
  rw [in59 i (by omega) f n hf hn]
  congr 1
  have h := wi_cs f n hm
  rw [Bool.eq_iff_iff, decide_eq_true_eq, Bool.and_eq_true, decide_eq_true_eq, decide_eq_true_eq]
  omega
theorem refwhole_eq (hl : l.length ≤ 1000000) : f_linotyperef59_whole l = some (wh l) := by
  unfold f_linotyperef59_whole
  obtain ⟨t, h3, h4⟩ := iter_for (σ := (List G_api_Cell) × Int) (τ := (List G_api_Cell)) (n := l.length) (fuel := ((l.length : Int) - 0).toNat + 1) (s := (([] : List G_api_Cell), 0))
    (fun i q => q = ((wh l).take i, (i : Int))) (fun t => t = wh l)
    (step := fun s_7 =>
  if (decide (s_7.2 < (l.length : Int))) = true then
  (idx l s_7.2).bind fun x_15 =>
  ((andE (s_7.2 == 0) (some (x_15.Kind == 3))).bind fun d_23 =>
  (orE d_23 ((andE ((w64 (s_7.2 + 1)) == (l.length : Int)) (some (x_15.Kind == 2))).bind fun d_35 =>
  some d_35)).bind fun d_28 =>
  if d_28 = true then
  (some (0, ([] : List Int)) : Option (Int × (List Int)))
  else
  (some (x_15.Kind, x_15.Text) : Option (Int × (List Int)))).bind fun z_20 =>
  (app s_7.1 ([(⟨z_20.1, z_20.2⟩ : G_api_Cell)] : List G_api_Cell)).bind fun x_47 =>
  some (.inl (x_47, (w64 (s_7.2 + 1))))
  else
  some (.inr (s_7.1)))
    (fun i q hi e => by
      subst e
      refine .inl ⟨_, ?_, rfl⟩
      have e5 : w64 ((i : Int) + 1) = ((i + 1 : Nat) : Int) := by rw [w64_in (by omega)]; simp
      have hd : decide ((i : Int) < (l.length : Int)) = true := by simp; exact hi
      simp only [hd, if_true, idx_at hi, bsm, e5, andE_some, orE_some, ← kd_at hi]
      have hz : (if ((i : Int) == 0 && kd l i == 3 || ((i + 1 : Nat) : Int) == (l.length : Int) && kd l i == 2) = true then (some (0, ([] : List Int)) : Option (Int × (List Int))) else (some (kd l i, l[i].Text) : Option (Int × (List Int)))) = some ((whc l i).Kind, (whc l i).Text) := by
        unfold whc
        by_cases hc : (i = 0 ∧ kd l i = 3) ∨ (i + 1 = l.length ∧ kd l i = 2)
        · rw [if_pos (by simp only [Bool.or_eq_true, Bool.and_eq_true, beq_iff_eq]; omega), if_pos hc]
          rfl
        · rw [if_neg (by simp only [Bool.or_eq_true, Bool.and_eq_true, beq_iff_eq]; omega), if_neg hc, kd_at hi, List.getD_eq_getElem?_getD, List.getElem?_eq_getElem hi]
          rfl
      rw [hz]
      simp only [bsm]
      rw [app_eq (by simp; omega)]
      simp only [bsm]
      have hlt : i < (wh l).length := by rw [wh_len]; exact hi
      have he : (wh l)[i] = whc l i := by
        have := wh_get hi
        rw [List.getElem?_eq_getElem hlt] at this
        exact Option.some.inj this
      rw [List.take_succ_eq_append_getElem hlt, he])
    (fun q e => ⟨q.1, by subst e; simp, by subst e; simp only; rw [List.take_of_length_le (by rw [wh_len]; omega)]⟩)
    (by simp) (by omega)
  subst h4
  rw [h3]
  rfl
theorem take_drop_sgm (c : List G_api_Cell) (a b : Nat) : (c.take b).drop a = sgm c a (b - a) := by
  unfold sgm
  rw [List.drop_take]
theorem take_ref (h1 : 1 ≤ L.length) (h2 : L.length ≤ 1024) (w1 : 1 ≤ W) (w2 : W ≤ 1024) (hok : ∀ x ∈ L, Okl W x) (R : G_blit_Rect) (hR : Rok R) : f_linotyperef59_Take L (R.Row, R.Col, R.Wide, R.High) = some (tk L W R.Row R.Col R.Wide R.High) := by
  obtain ⟨r1, r2, r3, r4⟩ := hR
  have ha := wi_cs R.Row R.High h1
  have hb := wi_cs R.Col R.Wide w1
  have ia : ∀ i, i < L.length → f_linotyperef59_in i R.Row R.High = some (decide ((wi R.Row R.High L.length).1 ≤ i) && decide (i < (wi R.Row R.High L.length).2)) := fun i hi => in_wi h1 h2 hi _ _ r1 r4
  have ib : ∀ i, i < W → f_linotyperef59_in i R.Col R.Wide = some (decide ((wi R.Col R.Wide W).1 ≤ i) && decide (i < (wi R.Col R.Wide W).2)) := fun i hi => in_wi w1 w2 hi _ _ r2 r3
  unfold f_linotyperef59_Take tk
  generalize wi R.Row R.High L.length = a at *
  generalize wi R.Col R.Wide W = b at *
  obtain ⟨a1, a2⟩ := a
  obtain ⟨b1, b2⟩ := b
  simp only at ha hb ia ib ⊢
  obtain ⟨t, h3, h4⟩ := iter_for (σ := (List G_api_Line) × Int) (τ := (List G_api_Line)) (n := L.length) (fuel := ((L.length : Int) - 0).toNat + 1) (s := (([] : List G_api_Line), 0))
    (fun i q => q = (if b1 < b2 then (((L.take (min i a2)).drop a1)).map (fun x => (⟨wh (sgm x.Cells b1 (b2 - b1)), false⟩ : G_api_Line)) else [], (i : Int)))
    (fun t => t = if b1 < b2 then ((L.drop a1).take (a2 - a1)).map (fun x => (⟨wh (sgm x.Cells b1 (b2 - b1)), false⟩ : G_api_Line)) else [])
    (step := fun s_8 =>
  if (decide (s_8.2 < (L.length : Int))) = true then
  ((f_linotyperef59_in s_8.2 R.Row R.High).bind fun x_20 =>
  if (!x_20) = true then
  (some (s_8.1) : Option ((List G_api_Line)))
  else
  (idx L s_8.2).bind fun fx_31 =>
  (iter (σ := (List G_api_Cell) × Int) (τ := (List G_api_Cell)) (((fx_31.Cells.length : Int) - 0).toNat + 1) (fun s_27 =>
  (idx L s_8.2).bind fun x_31 =>
  if (decide (s_27.2 < (x_31.Cells.length : Int))) = true then
  ((f_linotyperef59_in s_27.2 R.Col R.Wide).bind fun x_43 =>
  if x_43 = true then
  (idx L s_8.2).bind fun x_48 =>
  (idx x_48.Cells s_27.2).bind fun x_52 =>
  (app s_27.1 ([x_52] : List G_api_Cell)).bind fun x_55 =>
  (some (x_55) : Option ((List G_api_Cell)))
  else
  (some (s_27.1) : Option ((List G_api_Cell)))).bind fun z_37 =>
  some (.inl (z_37, (w64 (s_27.2 + 1))))
  else
  some (.inr (s_27.1))) (([] : List G_api_Cell), 0)).bind fun o_27 =>
  if (decide ((o_27.length : Int) > 0)) = true then
  (f_linotyperef59_whole o_27).bind fun x_68 =>
  (app s_8.1 ([(⟨x_68, false⟩ : G_api_Line)] : List G_api_Line)).bind fun x_71 =>
  (some (x_71) : Option ((List G_api_Line)))
  else
  (some (s_8.1) : Option ((List G_api_Line)))).bind fun z_14 =>
  some (.inl (z_14, (w64 (s_8.2 + 1))))
  else
  some (.inr (s_8.1)))
    (fun i q hi e => by
      subst e
      refine .inl ⟨_, ?_, rfl⟩
      have e5 : w64 ((i : Int) + 1) = ((i + 1 : Nat) : Int) := by rw [w64_in (by omega)]; simp
      have hd : decide ((i : Int) < (L.length : Int)) = true := by simp; exact hi
      have hoki := hok _ (List.getElem_mem hi)
      simp only [hd, if_true, idx_at hi, bsm, e5]
      rw [ia i hi]
      simp only [bsm]
      by_cases hin : a1 ≤ i ∧ i < a2
      · rw [if_neg (by simp; omega)]
        obtain ⟨t2, f3, f4⟩ := iter_for (σ := (List G_api_Cell) × Int) (τ := (List G_api_Cell)) (n := W) (fuel := ((L[i].Cells.length : Int) - 0).toNat + 1) (s := (([] : List G_api_Cell), 0))
          (fun m q => q = ((L[i].Cells.take (min m b2)).drop b1, (m : Int))) (fun t => t = sgm L[i].Cells b1 (b2 - b1))
          (step := fun s_27 =>
  if (decide (s_27.2 < (L[i].Cells.length : Int))) = true then
  ((f_linotyperef59_in s_27.2 R.Col R.Wide).bind fun x_43 =>
  if x_43 = true then
  (idx L[i].Cells s_27.2).bind fun x_52 =>
  (app s_27.1 ([x_52] : List G_api_Cell)).bind fun x_55 =>
  (some (x_55) : Option ((List G_api_Cell)))
  else
  (some (s_27.1) : Option ((List G_api_Cell)))).bind fun z_37 =>
  some (.inl (z_37, (w64 (s_27.2 + 1))))
  else
  some (.inr (s_27.1)))
          (fun m q hm e => by
            subst e
            refine .inl ⟨_, ?_, rfl⟩
            have e6 : w64 ((m : Int) + 1) = ((m + 1 : Nat) : Int) := by rw [w64_in (by omega)]; simp
            have hmc : m < L[i].Cells.length := by rw [hoki.2]; exact hm
            have hd2 : decide ((m : Int) < (L[i].Cells.length : Int)) = true := by simp; exact hmc
            simp only [hd2, if_true, e6]
            rw [ib m hm]
            simp only [bsm]
            by_cases hbm : b1 ≤ m ∧ m < b2
            · rw [if_pos (by simp; omega), idx_at hmc]
              simp only [bsm]
              rw [app_eq (by simp; omega)]
              simp only [bsm]
              rw [Nat.min_eq_left (by omega), Nat.min_eq_left (by omega), List.take_succ_eq_append_getElem hmc, List.drop_append_of_le_length (by simp; omega)]
            · rw [if_neg (by simp; omega)]
              simp only [bsm]
              by_cases hmb : m < b1
              · rw [List.drop_eq_nil_of_le (by simp; omega), List.drop_eq_nil_of_le (by simp; omega)]
              · rw [Nat.min_eq_right (by omega), Nat.min_eq_right (by omega)])
          (fun q e => ⟨q.1, by
            subst e
            have hd2 : decide ((W : Int) < (L[i].Cells.length : Int)) = false := by rw [hoki.2]; simp
            simp only [hd2, Bool.false_eq_true, if_false], by
            subst e
            simp only
            rw [Nat.min_eq_right (by omega), take_drop_sgm]⟩)
          (by simp) (by rw [hoki.2]; omega)
        subst f4
        rw [f3]
        simp only [bsm]
        have hsl : (sgm L[i].Cells b1 (b2 - b1)).length = b2 - b1 := sgm_len (by rw [hoki.2]; omega)
        by_cases hbb : b1 < b2
        · rw [if_pos (by rw [hsl]; simp; omega), refwhole_eq (by rw [hsl]; omega)]
          simp only [bsm]
          rw [if_pos hbb, if_pos hbb, app_eq (by simp; omega)]
          simp only [bsm]
          rw [Nat.min_eq_left (by omega), Nat.min_eq_left (by omega), List.take_succ_eq_append_getElem hi, List.drop_append_of_le_length (by simp; omega), List.map_append]
          rfl
        · rw [if_neg (by rw [hsl]; simp; omega), if_neg hbb, if_neg hbb]
          rfl
      · rw [if_pos (by simp; omega)]
        simp only [bsm]
        congr 3
        split
        · congr 1
          by_cases hmb : i < a1
          · rw [List.drop_eq_nil_of_le (by simp; omega), List.drop_eq_nil_of_le (by simp; omega)]
          · rw [Nat.min_eq_right (by omega), Nat.min_eq_right (by omega)]
        · rfl)
    (fun q e => ⟨q.1, by subst e; simp, by
      subst e
      simp only
      rw [Nat.min_eq_right (by omega), List.drop_take]⟩)
    (by simp) (by omega)
  subst h4
  rw [h3]
  rfl
theorem put_ref (h1 : 1 ≤ L.length) (h2 : L.length ≤ 1024) (w1 : 1 ≤ W) (w2 : W ≤ 1024) (hok : ∀ x ∈ L, Okl W x) (row col : Int) (hr : I64 row) (hc : I64 col) (hP : P.length ≤ 9223372036854775807) (hPc : ∀ x ∈ P, x.Cells.length ≤ 9223372036854775807) :
    f_linotyperef59_Put L row col P = some (pli L W row col P L.length, (cni L.length W row col P L.length : Int)) := by
  have hr2 := hr
  have hc2 := hc
  unfold I64 at hr2 hc2
  have ia : ∀ i, i < L.length → f_linotyperef59_in i row (P.length : Int) = some (inr row P.length L.length i) := fun i hi => in_wi h1 h2 hi _ _ hr (by unfold I64; omega)
  have hwr := wi_cs row (P.length : Int) h1
  unfold f_linotyperef59_Put
  rw [app_eq (by simp; omega), List.nil_append]
  simp only [bsm]
  obtain ⟨t, h3, h4⟩ := iter_for (σ := (List G_api_Line) × Int × Int) (τ := ((List G_api_Line) × Int)) (n := L.length) (fuel := ((L.length : Int) - 0).toNat + 1) (s := (L, 0, 0))
    (fun i q => q = (pli L W row col P i, (cni L.length W row col P i : Int), (i : Int)))
    (fun t => t = (pli L W row col P L.length, (cni L.length W row col P L.length : Int)))
    (step := fun s_13 =>
  if (decide (s_13.2.2 < (L.length : Int))) = true then
  ((f_linotyperef59_in s_13.2.2 row (P.length : Int)).bind fun x_24 =>
  (orE (!x_24) ((idx P (w64 (s_13.2.2 - row))).bind fun x_32 =>
  (f_linotyperef23_Sound x_32.Cells).bind fun x_35 =>
  some (!x_35))).bind fun d_26 =>
  if d_26 = true then
  (some (s_13.1, s_13.2.1) : Option ((List G_api_Line) × Int))
  else
  (idx P (w64 (s_13.2.2 - row))).bind fun x_42 =>
  (idx L s_13.2.2).bind fun fx_57 =>
  (iter (σ := Int × (List G_api_Cell) × Int) (τ := (Int × (List G_api_Cell))) (((fx_57.Cells.length : Int) - 0).toNat + 1) (fun s_53 =>
  (idx L s_13.2.2).bind fun x_57 =>
  if (decide (s_53.2.2 < (x_57.Cells.length : Int))) = true then
  ((f_linotyperef59_in s_53.2.2 col (x_42.Cells.length : Int)).bind fun x_68 =>
  if x_68 = true then
  (if (decide (s_53.1 < 0)) = true then
  (some (s_53.2.2) : Option (Int))
  else
  (some (s_53.1) : Option (Int))).bind fun z_70 =>
  (idx x_42.Cells (w64 (s_53.2.2 - col))).bind fun x_82 =>
  (app s_53.2.1 ([x_82] : List G_api_Cell)).bind fun x_85 =>
  (some (z_70, x_85) : Option (Int × (List G_api_Cell)))
  else
  (some (s_53.1, s_53.2.1) : Option (Int × (List G_api_Cell)))).bind fun z_63 =>
  some (.inl (z_63.1, z_63.2, (w64 (s_53.2.2 + 1))))
  else
  some (.inr (s_53.1, s_53.2.1))) ((-1), ([] : List G_api_Cell), 0)).bind fun o_53 =>
  if (decide (o_53.1 ≥ 0)) = true then
  (idx L s_13.2.2).bind fun x_97 =>
  (idx L s_13.2.2).bind fun x_102 =>
  (f_linotyperef59_whole o_53.2).bind fun x_107 =>
  (f_linotyperef24_Paint x_97.Cells x_102.Wrap o_53.1 x_107).bind fun x_108 =>
  (idx s_13.1 s_13.2.2).bind fun x_120 =>
  (sets s_13.1 s_13.2.2 (⟨x_108.1, x_108.2⟩ : G_api_Line)).bind fun w_121 =>
  (some (w_121, (w64 (s_13.2.1 + 1))) : Option ((List G_api_Line) × Int))
  else
  (some (s_13.1, s_13.2.1) : Option ((List G_api_Line) × Int))).bind fun z_19 =>
  some (.inl (z_19.1, z_19.2, (w64 (s_13.2.2 + 1))))
  else
  some (.inr (s_13.1, s_13.2.1)))
    (fun i q hi e => by
      subst e
      refine .inl ⟨_, ?_, rfl⟩
      have e5 : w64 ((i : Int) + 1) = ((i + 1 : Nat) : Int) := by rw [w64_in (by omega)]; simp
      have hd : decide ((i : Int) < (L.length : Int)) = true := by simp; exact hi
      have hoki := hok _ (List.getElem_mem hi)
      have hcs := cni_succ L.length W row col P i
      have hcl := cni_le L.length W row col P i
      simp only [hd, if_true, idx_at hi, bsm, e5]
      rw [ia i hi]
      simp only [bsm]
      by_cases hin : inr row P.length L.length i = true
      · have hin2 := hin
        unfold inr at hin2
        simp only [Bool.and_eq_true, decide_eq_true_eq] at hin2
        have e6 : w64 ((i : Int) - row) = ((((i : Int) - row).toNat : Nat) : Int) := by rw [w64_in (by omega)]; omega
        have hjP : ((i : Int) - row).toNat < P.length := by omega
        have hpj : pj P row i = P[((i : Int) - row).toNat].Cells := by
          unfold pj
          rw [getD_at hjP]
        have hlp : (pj P row i).length ≤ 9223372036854775807 := by rw [hpj]; exact hPc _ (List.getElem_mem hjP)
        rw [hin, e6, idx_at hjP]
        simp only [bsm, Bool.not_true, orE_false]
        rw [← hpj, (snb_eq hlp).1]
        simp only [bsm]
        rw [hin, Bool.true_and] at hcs
        rw [pli_succ row col hi hin]
        have hsame : pline L[i] col W (pj P row i) = L[i] → (pli L W row col P i).set i (pline L[i] col W (pj P row i)) = pli L W row col P i := fun e => by
          rw [e]
          have := pli_at (W := W) (P := P) row col hi
          conv => lhs; rw [← this]
          exact List.set_getElem_self _
        by_cases hs : snb (pj P row i) = true
        · rw [if_neg (by rw [hs]; decide)]
          have hw := wi_cs col ((pj P row i).length : Int) w1
          have ib : ∀ m, m < W → f_linotyperef59_in m col ((pj P row i).length : Int) = some (decide ((wi col (pj P row i).length W).1 ≤ m) && decide (m < (wi col (pj P row i).length W).2)) := fun m hm => in_wi w1 w2 hm _ _ hc (by unfold I64; omega)
          have hgd : good (pj P row i) col W = decide ((wi col (pj P row i).length W).1 < (wi col (pj P row i).length W).2) := by
            unfold good
            rw [hs, Bool.and_true]
          have hcut : cutp (pj P row i) col W = wh (sgm (pj P row i) (((wi col (pj P row i).length W).1 : Int) - col).toNat ((wi col (pj P row i).length W).2 - (wi col (pj P row i).length W).1)) := rfl
          have hpl : pline L[i] col W (pj P row i) = if (wi col (pj P row i).length W).1 < (wi col (pj P row i).length W).2 then ⟨pl L[i].Cells (wi col (pj P row i).length W).1 (cutp (pj P row i) col W), pw L[i].Cells L[i].Wrap (wi col (pj P row i).length W).1 (cutp (pj P row i) col W).length⟩ else L[i] := by
            unfold pline
            rw [hgd]
            by_cases hh : (wi col (pj P row i).length W).1 < (wi col (pj P row i).length W).2
            · rw [if_pos (by simpa using hh), if_pos hh]
            · rw [if_neg (by simpa using hh), if_neg hh]
          rw [hcut] at hpl
          generalize wi col (pj P row i).length W = b at *
          obtain ⟨b1, b2⟩ := b
          simp only at hw ib hgd hpl
          generalize hx : pj P row i = x at *
          obtain ⟨t2, f3, f4⟩ := iter_for (σ := Int × (List G_api_Cell) × Int) (τ := (Int × (List G_api_Cell))) (n := W) (fuel := ((L[i].Cells.length : Int) - 0).toNat + 1) (s := ((-1), ([] : List G_api_Cell), 0))
            (fun m q => q = (if b1 < b2 ∧ b1 < m then (b1 : Int) else -1, sgm x ((b1 : Int) - col).toNat (min m b2 - b1), (m : Int)))
            (fun t => t = (if b1 < b2 then (b1 : Int) else -1, sgm x ((b1 : Int) - col).toNat (b2 - b1)))
            (step := fun s_53 =>
  if (decide (s_53.2.2 < (L[i].Cells.length : Int))) = true then
  ((f_linotyperef59_in s_53.2.2 col (x.length : Int)).bind fun x_68 =>
  if x_68 = true then
  (if (decide (s_53.1 < 0)) = true then
  (some (s_53.2.2) : Option (Int))
  else
  (some (s_53.1) : Option (Int))).bind fun z_70 =>
  (idx x (w64 (s_53.2.2 - col))).bind fun x_82 =>
  (app s_53.2.1 ([x_82] : List G_api_Cell)).bind fun x_85 =>
  (some (z_70, x_85) : Option (Int × (List G_api_Cell)))
  else
  (some (s_53.1, s_53.2.1) : Option (Int × (List G_api_Cell)))).bind fun z_63 =>
  some (.inl (z_63.1, z_63.2, (w64 (s_53.2.2 + 1))))
  else
  some (.inr (s_53.1, s_53.2.1)))
            (fun m q hm e => by
              subst e
              refine .inl ⟨_, ?_, rfl⟩
              have e8 : w64 ((m : Int) + 1) = ((m + 1 : Nat) : Int) := by rw [w64_in (by omega)]; simp
              have hmc : m < L[i].Cells.length := by rw [hoki.2]; exact hm
              have hd2 : decide ((m : Int) < (L[i].Cells.length : Int)) = true := by simp; exact hmc
              simp only [hd2, if_true, e8]
              rw [ib m hm]
              simp only [bsm]
              by_cases hbm : b1 ≤ m ∧ m < b2
              · rw [if_pos (by simp; omega)]
                have hz : (if (decide ((if b1 < b2 ∧ b1 < m then (b1 : Int) else -1) < 0)) = true then (some (m : Int) : Option (Int)) else (some (if b1 < b2 ∧ b1 < m then (b1 : Int) else -1) : Option (Int))) = some (b1 : Int) := by
                  by_cases hb1 : b1 < m
                  · rw [show (if b1 < b2 ∧ b1 < m then (b1 : Int) else -1) = (b1 : Int) from if_pos ⟨by omega, hb1⟩, if_neg (by simp)]
                  · rw [show (if b1 < b2 ∧ b1 < m then (b1 : Int) else -1) = -1 from if_neg (fun hh => hb1 hh.2), if_pos (by decide)]
                    congr 1
                    omega
                rw [hz]
                simp only [bsm]
                have e9 : w64 ((m : Int) - col) = ((((b1 : Int) - col).toNat + (m - b1) : Nat) : Int) := by rw [w64_in (by omega)]; omega
                have hlt : ((b1 : Int) - col).toNat + (m - b1) < x.length := by omega
                rw [e9, idx_at hlt]
                simp only [bsm]
                rw [app_eq (by simp [sgm]; omega)]
                simp only [bsm]
                rw [if_pos ⟨by omega, by omega⟩, Nat.min_eq_left (by omega), Nat.min_eq_left (by omega), show m + 1 - b1 = m - b1 + 1 by omega]
                unfold sgm
                rw [List.take_succ_eq_append_getElem (by simp; omega), List.getElem_drop]
              · rw [if_neg (by simp; omega)]
                simp only [bsm]
                by_cases hmb : m < b1
                · rw [if_neg (by omega), if_neg (by omega), show min m b2 - b1 = 0 by omega, show min (m + 1) b2 - b1 = 0 by omega]
                · rw [Nat.min_eq_right (by omega), Nat.min_eq_right (by omega)]
                  by_cases hbb : b1 < b2
                  · rw [if_pos ⟨hbb, by omega⟩, if_pos ⟨hbb, by omega⟩]
                  · rw [if_neg (fun hh => hbb hh.1), if_neg (fun hh => hbb hh.1)])
            (fun q e => ⟨(q.1, q.2.1), by
              subst e
              have hd2 : decide ((W : Int) < (L[i].Cells.length : Int)) = false := by rw [hoki.2]; simp
              simp only [hd2, Bool.false_eq_true, if_false], by
              subst e
              simp only
              rw [Nat.min_eq_right (by omega)]
              by_cases hbb : b1 < b2
              · rw [if_pos ⟨hbb, by omega⟩, if_pos hbb]
              · rw [if_neg (fun hh => hbb hh.1), if_neg hbb]⟩)
            (by simp [sgm]) (by rw [hoki.2]; omega)
          subst f4
          rw [f3]
          simp only [bsm]
          by_cases hbb : b1 < b2
          · rw [if_pos hbb, if_pos (by simp)]
            have hsl : (sgm x ((b1 : Int) - col).toNat (b2 - b1)).length = b2 - b1 := sgm_len (by omega)
            rw [refwhole_eq (by rw [hsl]; omega)]
            simp only [bsm]
            rw [ref_paint _ _ _ _ (by rw [hoki.2]; omega) (by omega) (by rw [wh_len, hsl]; omega)]
            simp only [bsm]
            have hlt : i < (pli L W row col P i).length := by rw [pli_len]; exact hi
            rw [idx_at hlt]
            simp only [bsm]
            rw [sets_nat hlt, hpl, if_pos hbb, hcs, hgd, if_pos (by simpa using hbb), w64_in (by omega)]
            simp
          · rw [if_neg hbb, if_neg (by simp)]
            simp only [bsm]
            rw [hsame (by rw [hpl, if_neg hbb]), hcs, hgd, if_neg (by simpa using hbb)]
            simp
        · have hsf : snb (pj P row i) = false := by simpa using hs
          have hgf : good (pj P row i) col W = false := by unfold good; rw [hsf, Bool.and_false]
          rw [if_pos (by rw [hsf]; rfl)]
          simp only [bsm]
          rw [hsame (by unfold pline; rw [if_neg (by rw [hgf]; decide)]), hcs, hgf, if_neg (by decide)]
          simp
      · have hf : inr row P.length L.length i = false := by simpa using hin
        rw [hf]
        simp only [bsm, Bool.not_false, orE_true, if_true]
        rw [hf, Bool.false_and, if_neg (by decide)] at hcs
        rw [hcs, pli_same (L := L) (W := W) (P := P) row col (k := i + 1) (k' := i) (fun j _ h6 => by
          by_cases h7 : j = i
          · subst h7; rw [hf] at h6; cases h6
          · omega)]
        rfl)
    (fun q e => ⟨(q.1, q.2.1), by subst e; simp, by subst e; rfl⟩)
    (by
      rw [pli_none row col (fun j h => absurd h (Nat.not_lt_zero j))]
      rfl) (by omega)
  subst h4
  rw [h3]
  rfl
theorem right29 (x : G_api_Item) : f_linotyperef29_Right x = some (rt x) := by
  unfold f_linotyperef29_Right rt
  by_cases h0 : x.Text.length = 0
  · rw [if_pos (by simpa using h0), if_pos h0]
  · rw [if_neg (by simpa using h0), if_neg h0]
    simp only [orE_some, bsm, ref_right, andE_some]
theorem fill_ref (h1 : 1 ≤ L.length) (h2 : L.length ≤ 1024) (w1 : 1 ≤ W) (w2 : W ≤ 1024) (hok : ∀ x ∈ L, Okl W x) (R : G_blit_Rect) (hR : Rok R) (x : G_api_Item) (hx : rt x = true) :
    f_linotyperef59_Fill L (R.Row, R.Col, R.Wide, R.High) x = some (pli L W (max 0 R.Row) (max 0 R.Col) (pf L W R x) L.length, (cni L.length W (max 0 R.Row) (max 0 R.Col) (pf L W R x) L.length : Int)) := by
  obtain ⟨w, hw, hw2, hxt⟩ := rt_ok hx
  have ha := wi_cs R.Row R.High h1
  have hb := wi_cs R.Col R.Wide w1
  have hT : (tk L W R.Row R.Col R.Wide R.High).length = (pf L W R x).length ∧ (∀ y ∈ tk L W R.Row R.Col R.Wide R.High, y.Cells.length = (wi R.Col R.Wide W).2 - (wi R.Col R.Wide W).1) ∧ ∀ y ∈ pf L W R x, y = ⟨fl w x.Text ((wi R.Col R.Wide W).2 - (wi R.Col R.Wide W).1), false⟩ := by
    unfold tk pf
    rw [hw, Int.toNat_natCast]
    split
    · refine ⟨by simp; omega, fun y hy => ?_, fun y hy => List.eq_of_mem_replicate hy⟩
      obtain ⟨z, hz, rfl⟩ := List.mem_map.1 hy
      have hz2 := hok z (List.mem_of_mem_drop (List.mem_of_mem_take hz))
      simp only
      rw [wh_len, sgm_len (by rw [hz2.2]; omega)]
    · exact ⟨rfl, (fun y hy => by cases hy), (fun y hy => by cases hy)⟩
  obtain ⟨t1, t2, t3⟩ := hT
  have htl := tk_len_le L W R.Row R.Col R.Wide R.High
  unfold f_linotyperef59_Fill
  rw [take_ref h1 h2 w1 w2 hok R hR]
  simp only [bsm, imax_eq]
  generalize tk L W R.Row R.Col R.Wide R.High = T at *
  have hpfl : ∀ y ∈ pf L W R x, y.Cells.length ≤ 9223372036854775807 := fun y hy => by
    rw [t3 y hy]
    simp only
    rw [fl_len hw2]
    omega
  have hpr := put_ref h1 h2 w1 w2 hok (max 0 R.Row) (max 0 R.Col) (P := pf L W R x) (by have := hR.1; unfold I64 at *; omega) (by have := hR.2.1; unfold I64 at *; omega) (by omega) hpfl
  generalize pf L W R x = P at *
  have hn : (wi R.Col R.Wide W).2 - (wi R.Col R.Wide W).1 ≤ 1024 := by omega
  generalize (wi R.Col R.Wide W).2 - (wi R.Col R.Wide W).1 = n at *
  obtain ⟨t, h3, h4⟩ := iter_for (σ := (List G_api_Line) × Int) (τ := (List G_api_Line)) (n := T.length) (fuel := ((T.length : Int) - 0).toNat + 1) (s := (([] : List G_api_Line), 0))
    (fun i q => q = (P.take i, (i : Int))) (fun t => t = P)
    (step := fun s_15 =>
  if (decide (s_15.2 < (T.length : Int))) = true then
  (idx T s_15.2).bind fun fx_28 =>
  (iter (σ := (List G_api_Cell)) (τ := (List G_api_Cell)) (((fx_28.Cells.length : Int) - 0).toNat + 1) (fun s_23 =>
  (idx T s_15.2).bind fun x_28 =>
  if (decide ((s_23.length : Int) < (x_28.Cells.length : Int))) = true then
  (idx T s_15.2).bind fun x_41 =>
  if (decide ((w64 ((s_23.length : Int) + x.Wide)) ≤ (x_41.Cells.length : Int))) = true then
  (f_linotyperef23_Of x.Wide x.Text).bind fun x_52 =>
  (app s_23 x_52).bind fun x_53 =>
  some (.inl (x_53))
  else
  (app s_23 ([(⟨0, ([] : List Int)⟩ : G_api_Cell)] : List G_api_Cell)).bind fun x_59 =>
  some (.inl (x_59))
  else
  some (.inr (s_23))) (([] : List G_api_Cell))).bind fun o_23 =>
  (app s_15.1 ([(⟨o_23, false⟩ : G_api_Line)] : List G_api_Line)).bind fun x_66 =>
  some (.inl (x_66, (w64 (s_15.2 + 1))))
  else
  some (.inr (s_15.1)))
    (fun i q hi e => by
      subst e
      refine .inl ⟨_, ?_, rfl⟩
      have e5 : w64 ((i : Int) + 1) = ((i + 1 : Nat) : Int) := by rw [w64_in (by omega)]; simp
      have hd : decide ((i : Int) < (T.length : Int)) = true := by simp; exact hi
      have hyl := t2 _ (List.getElem_mem hi)
      simp only [hd, if_true, idx_at hi, bsm, e5]
      rw [hyl, hw]
      have hdm := Nat.div_add_mod n w
      have hml : n % w < w := Nat.mod_lt _ (by omega)
      have hst := strip_w w hw2 (fx x.Text)
      have hrl : ∀ q, (rpt (strip (w : Int) (fx x.Text)) q).length = q * w := fun q => by rw [rpt_len, hst]
      obtain ⟨u2, f3, f4⟩ := iter_for (σ := (List G_api_Cell)) (τ := (List G_api_Cell)) (n := n / w + n % w) (fuel := ((n : Int) - 0).toNat + 1) (s := ([] : List G_api_Cell))
        (fun i q => q = if i ≤ n / w then rpt (strip w (fx x.Text)) i else fl w x.Text n) (fun q => q = fl w x.Text n)
        (step := fun s_23 =>
  if (decide ((s_23.length : Int) < (n : Int))) = true then
  if (decide ((w64 ((s_23.length : Int) + (w : Int))) ≤ (n : Int))) = true then
  (f_linotyperef23_Of (w : Int) x.Text).bind fun x_52 =>
  (app s_23 x_52).bind fun x_53 =>
  some (.inl (x_53))
  else
  (app s_23 ([(⟨0, ([] : List Int)⟩ : G_api_Cell)] : List G_api_Cell)).bind fun x_59 =>
  some (.inl (x_59))
  else
  some (.inr (s_23)))
        (fun i q hi e => by
          subst e
          refine .inl ⟨_, ?_, rfl⟩
          by_cases hq : i < n / w
          · have hle : i * w + w ≤ n := by
              rcases hw2 with rfl | rfl <;> omega
            rw [show (if i ≤ n / w then rpt (strip (w : Int) (fx x.Text)) i else fl w x.Text n) = rpt (strip (w : Int) (fx x.Text)) i from if_pos (by omega), show (if i + 1 ≤ n / w then rpt (strip (w : Int) (fx x.Text)) (i + 1) else fl w x.Text n) = rpt (strip (w : Int) (fx x.Text)) (i + 1) from if_pos (by omega)]
            rw [hrl, if_pos (by rcases hw2 with rfl | rfl <;> simp <;> omega), w64_in (by rcases hw2 with rfl | rfl <;> omega), if_pos (by rcases hw2 with rfl | rfl <;> simp <;> omega), ref_of _ _ (by omega)]
            simp only [bsm]
            rw [app_eq (by rw [hrl, hst]; rcases hw2 with rfl | rfl <;> omega)]
            rfl
          · have hq2 : i = n / w := by
              rcases hw2 with rfl | rfl <;> omega
            subst hq2
            have hw22 : w = 2 ∧ n % w = 1 := by
              rcases hw2 with rfl | rfl <;> omega
            obtain ⟨rfl, hm1⟩ := hw22
            rw [show (if n / 2 ≤ n / 2 then rpt (strip ((2 : Nat) : Int) (fx x.Text)) (n / 2) else fl 2 x.Text n) = rpt (strip ((2 : Nat) : Int) (fx x.Text)) (n / 2) from if_pos (Nat.le_refl _), show (if n / 2 + 1 ≤ n / 2 then rpt (strip ((2 : Nat) : Int) (fx x.Text)) (n / 2 + 1) else fl 2 x.Text n) = fl 2 x.Text n from if_neg (by omega)]
            rw [hrl, if_pos (by simp; omega), w64_in (by omega), if_neg (by simp; omega), app_eq (by rw [hrl]; simp; omega)]
            simp only [bsm]
            unfold fl
            rw [hm1]
            rfl)
        (fun q e => ⟨fl w x.Text n, by
          subst e
          have hfl : (if n / w + n % w ≤ n / w then rpt (strip (w : Int) (fx x.Text)) (n / w + n % w) else fl w x.Text n) = fl w x.Text n := by
            split
            · rename_i h5
              have h6 : n % w = 0 := by omega
              unfold fl
              rw [h6]
              simp
            · rfl
          rw [hfl, fl_len hw2, if_neg (by simp)], rfl⟩)
        (by rw [if_pos (Nat.zero_le _)]; rfl) (by rcases hw2 with rfl | rfl <;> omega)
      subst f4
      rw [f3]
      simp only [bsm]
      have hiP : i < P.length := by omega
      rw [app_eq (by simp; omega), List.take_succ_eq_append_getElem hiP, t3 _ (List.getElem_mem hiP)]
      rfl)
    (fun q e => ⟨q.1, by subst e; simp, by subst e; simp only; rw [List.take_of_length_le (by omega)]⟩)
    (by simp) (by omega)
  subst h4
  rw [h3]
  simp only [bsm]
  rw [hpr]
  rfl
end Go.Proofs.YtohpkblleihmaaaDoor
