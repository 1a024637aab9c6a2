/-
  Rows of grids moved: ScrollPlays and ScrollFar answer true, in plain Lean. Conditions: lists are shorter than 2^63.
-/
import Derived.Test.YtohpkblleihmaaaDoorPi
namespace Go.Proofs.YtohpkblleihmaaaDoor
open Go Go.Lt
variable {s : Sto} {g k W : Nat} {ks : List Nat} {l p : List G_api_Cell} {w : Bool}

theorem ref_move {L : List G_api_Line} (hl : L.length ≤ 1024) (hW : W ≤ 1024) (hL : ∀ x ∈ L, x.Cells.length = W) (a b n : Int) (up : Bool) :
    f_linotyperef33_Move L a b n up = some (mv W L (cl a L.length) (cl b L.length) n up) := by
  have hF := cl_le a L.length
  have hT := cl_le b L.length
  unfold f_linotyperef33_Move
  simp only [icl, orE_some, bsm]
  generalize cl a L.length = F at *
  generalize cl b L.length = T at *
  unfold mv
  by_cases hc : F < T ∧ 0 < n
  · obtain ⟨m, hm⟩ : ∃ m : Nat, min n ((T : Int) - (F : Int)) = (m : Int) := ⟨(min n ((T : Int) - (F : Int))).toNat, by omega⟩
    have hm2 : F + m ≤ T ∧ 1 ≤ m := by omega
    rw [if_neg (by rw [Bool.or_eq_true, decide_eq_true_eq, decide_eq_true_eq]; omega), if_pos hc, w64_in (by omega), imin_eq, hm, Int.toNat_natCast]
    obtain ⟨t, h1, h2⟩ := iter_for (σ := (List G_api_Line) × Int) (τ := List G_api_Line) (n := L.length) (fuel := ((L.length : Int) - 0).toNat + 1) (s := (([] : List G_api_Line), 0))
      (fun i q => q = ((List.range i).map (mvl W L F T m up), (i : Int))) (fun t => t = (List.range L.length).map (mvl W L F T m up))
      (step := fun s_41 =>
  if (decide (s_41.2 < (L.length : Int))) = true then
  (idx L s_41.2).bind fun x_48 =>
  ((andE (decide (s_41.2 ≥ (F : Int))) (some (decide (s_41.2 < (T : Int))))).bind fun d_57 =>
  if d_57 = true then
  (if (!up) = true then
  (some ((w64 (s_41.2 - (m : Int)))) : Option (Int))
  else
  (some ((w64 (s_41.2 + (m : Int)))) : Option (Int))).bind fun z_68 =>
  (idx L s_41.2).bind fun x_79 =>
  (rep (x_79.Cells.length : Int) (⟨0, ([] : List Int)⟩ : G_api_Cell)).bind fun x_83 =>
  (andE (decide (z_68 ≥ (F : Int))) (some (decide (z_68 < (T : Int))))).bind fun d_90 =>
  if d_90 = true then
  (idx L z_68).bind fun x_98 =>
  (some (x_98.Cells, x_98.Wrap) : Option ((List G_api_Cell) × Bool))
  else
  (some (x_83, false) : Option ((List G_api_Cell) × Bool))
  else
  (some (x_48.Cells, x_48.Wrap) : Option ((List G_api_Cell) × Bool))).bind fun z_53 =>
  ((orE ((w64 (s_41.2 + 1)) == (F : Int)) ((andE (!up) (some ((w64 (s_41.2 + 1)) == (T : Int)))).bind fun d_111 =>
  some d_111)).bind fun d_107 =>
  if d_107 = true then
  (some (false) : Option (Bool))
  else
  (some (z_53.2) : Option (Bool))).bind fun z_102 =>
  (app s_41.1 ([(⟨z_53.1, z_102⟩ : G_api_Line)] : List G_api_Line)).bind fun x_124 =>
  some (.inl (x_124, (w64 (s_41.2 + 1))))
  else
  some (.inr (s_41.1)))
      (fun i q hi e => by
        subst e
        refine .inl ⟨_, ?_, rfl⟩
        have e5 : w64 ((i : Int) + 1) = ((i + 1 : Nat) : Int) := by rw [w64_in (by omega)]; simp
        have hd : decide ((i : Int) < (L.length : Int)) = true := by simp; exact hi
        have hlw := hL _ (List.getElem_mem hi)
        simp only [hd, if_true, idx_at hi, bsm, e5, andE_some]
        have hz : (if (decide ((i : Int) ≥ (F : Int)) && decide ((i : Int) < (T : Int))) = true then
            (if (!up) = true then (some ((w64 ((i : Int) - (m : Int)))) : Option (Int)) else (some ((w64 ((i : Int) + (m : Int)))) : Option (Int))).bind fun z_68 =>
            (rep (L[i].Cells.length : Int) (⟨0, ([] : List Int)⟩ : G_api_Cell)).bind fun x_83 =>
            if (decide (z_68 ≥ (F : Int)) && decide (z_68 < (T : Int))) = true then
            (idx L z_68).bind fun x_98 => (some (x_98.Cells, x_98.Wrap) : Option ((List G_api_Cell) × Bool))
            else (some (x_83, false) : Option ((List G_api_Cell) × Bool))
            else (some (L[i].Cells, L[i].Wrap) : Option ((List G_api_Cell) × Bool))) = some ((mvb W L F T m up i).Cells, (mvb W L F T m up i).Wrap) := by
          unfold mvb
          by_cases c1 : F ≤ i ∧ i < T
          · rw [if_pos (by simp; omega), if_pos c1]
            cases up with
            | true =>
              rw [if_neg (by simp), if_pos rfl]
              simp only [bsm]
              rw [rep_eq _ (by omega), w64_in (by omega), show ((i : Int) + (m : Int)) = ((i + m : Nat) : Int) by simp]
              simp only [bsm]
              by_cases c2 : i + m < T
              · rw [if_pos (by simp; omega), if_pos c2, idx_at (show i + m < L.length by omega), gdl (by omega)]
                rfl
              · rw [if_neg (by simp; omega), if_neg c2, Int.toNat_natCast, hlw]
                rfl
            | false =>
              rw [if_pos (by simp), if_neg (by simp)]
              simp only [bsm]
              rw [rep_eq _ (by omega), w64_in (by omega)]
              simp only [bsm]
              by_cases c2 : F + m ≤ i
              · rw [show ((i : Int) - (m : Int)) = ((i - m : Nat) : Int) by omega, if_pos (by simp; omega), if_pos c2, idx_at (show i - m < L.length by omega), gdl (by omega)]
                rfl
              · rw [if_neg (by simp; omega), if_neg c2, Int.toNat_natCast, hlw]
                rfl
          · rw [if_neg (by simp; omega), if_neg c1, gdl hi]
        rw [hz]
        simp only [bsm]
        have hy : (orE (((i + 1 : Nat) : Int) == (F : Int)) (some (!up && (((i + 1 : Nat) : Int) == (T : Int))))) = some (decide (i + 1 = F ∨ (up = false ∧ i + 1 = T))) := by
          rw [orE_some]
          congr 1
          rw [Bool.eq_iff_iff]
          simp only [Bool.or_eq_true, beq_iff_eq, Bool.and_eq_true, Bool.not_eq_true', decide_eq_true_eq, Int.ofNat_inj]
        rw [hy]
        simp only [bsm]
        have hx : ∀ y : Bool, (if decide (i + 1 = F ∨ (up = false ∧ i + 1 = T)) = true then (some false : Option Bool) else some y) = some (if i + 1 = F ∨ (up = false ∧ i + 1 = T) then false else y) := fun y => by
          by_cases c : i + 1 = F ∨ (up = false ∧ i + 1 = T)
          · rw [if_pos (by simpa using c), if_pos c]
          · rw [if_neg (by simpa using c), if_neg c]
        rw [hx]
        simp only [bsm]
        rw [app_eq (by simp; omega)]
        simp only [bsm]
        have hz3 : (⟨(mvb W L F T m up i).Cells, if i + 1 = F ∨ (up = false ∧ i + 1 = T) then false else (mvb W L F T m up i).Wrap⟩ : G_api_Line) = mvl W L F T m up i := by
          unfold mvl
          split <;> rfl
        rw [hz3, List.range_succ, List.map_append]
        rfl)
      (fun q e => ⟨_, by subst e; simp, rfl⟩)
      (by simp) (by omega)
    subst h2
    rw [h1]
    rfl
  · rw [if_pos (by rw [Bool.or_eq_true, decide_eq_true_eq, decide_eq_true_eq]; omega), if_neg hc]

theorem works33 (s : Sto) : ∃ s', f_linotypelaw33_works s = some (s', true) := by
  have sa : Snd [⟨1, [97]⟩] := snd_strip 1 (fx_vld [97]) (by decide)
  have sb : Snd [bl] := snd_bl 1
  unfold f_linotypelaw33_works
  rw [rep_eq _ (by decide)]
  simp only [bsm]
  rw [show List.replicate (1 : Int).toNat (⟨0, ([] : List Int)⟩ : G_api_Cell) = [bl] from rfl]
  have hok : ∀ i (h : i < [(⟨[bl], false⟩ : G_api_Line), ⟨[⟨1, [97]⟩], false⟩].length), 1 ≤ [(⟨[bl], false⟩ : G_api_Line), ⟨[⟨1, [97]⟩], false⟩][i].Cells.length ∧ [(⟨[bl], false⟩ : G_api_Line), ⟨[⟨1, [97]⟩], false⟩][i].Cells.length ≤ 1024 ∧
      Snd [(⟨[bl], false⟩ : G_api_Line), ⟨[⟨1, [97]⟩], false⟩][i].Cells ∧ [(⟨[bl], false⟩ : G_api_Line), ⟨[⟨1, [97]⟩], false⟩][i].Cells.length = ([(⟨[bl], false⟩ : G_api_Line), ⟨[⟨1, [97]⟩], false⟩][0]'(by decide)).Cells.length := by
    intro i h
    match i, h with
    | 0, _ => exact ⟨Nat.le_refl 1, (by decide : 1 ≤ 1024), sb, rfl⟩
    | 1, _ => exact ⟨Nat.le_refl 1, (by decide : 1 ≤ 1024), sa, rfl⟩
  rw [grid_of (by decide) (by decide) hok]
  obtain ⟨gw, hln⟩ := gw_of (s := s) (by decide) (by decide) hok
  obtain ⟨s', ks', h1, h2, h3, h4, h5⟩ := up_eq gw (List.nodup_range' (step := 1)) 0 2 1
  simp only [bsm, Er.isNil, Bool.not_true, orE_false, Option.isNone_some, Bool.false_eq_true, if_false]
  rw [h1]
  simp only [bsm]
  rw [grid_lines h2, h5, hln]
  simp only [bsm]
  rw [show mv ([(⟨[bl], false⟩ : G_api_Line), ⟨[⟨1, [97]⟩], false⟩][0]'(by decide)).Cells.length [(⟨[bl], false⟩ : G_api_Line), ⟨[⟨1, [97]⟩], false⟩] (cl 0 (List.range' s.row_Row.length [(⟨[bl], false⟩ : G_api_Line), ⟨[⟨1, [97]⟩], false⟩].length).length) (cl 2 (List.range' s.row_Row.length [(⟨[bl], false⟩ : G_api_Line), ⟨[⟨1, [97]⟩], false⟩].length).length) 1 true = [(⟨[⟨1, [97]⟩], false⟩ : G_api_Line), ⟨[bl], false⟩] from rfl]
  rw [lines_self (by decide) (fun x hx => by
    simp only [List.mem_cons, List.not_mem_nil, or_false] at hx
    rcases hx with rfl | rfl
    · exact ⟨by decide, sa.sht⟩
    · exact ⟨by decide, sb.sht⟩)]
  exact ⟨_, rfl⟩

theorem mv_ok {L : List G_api_Line} (hL : ∀ x ∈ L, Okl W x) (F : Nat) {T : Nat} (hT : T ≤ L.length) (n : Int) (up : Bool) : ∀ x ∈ mv W L F T n up, Okl W x := by
  have hb : Okl W ⟨List.replicate W bl, false⟩ := ⟨snd_bl W, by simp⟩
  have hget : ∀ i, i < L.length → Okl W (L.getD i dl) := fun i hi => by rw [gdl hi]; exact hL _ (List.getElem_mem hi)
  unfold mv
  split
  · rename_i hc
    intro x hx
    obtain ⟨i, hi, rfl⟩ := List.mem_map.1 hx
    have hi := List.mem_range.1 hi
    generalize (min n ((T : Int) - (F : Int))).toNat = m
    have : Okl W (mvb W L F T m up i) := by
      unfold mvb
      repeat' split
      all_goals first
        | exact hb
        | exact hget _ (by omega)
    unfold mvl
    split
    · exact this
    · exact this
  · exact hL

theorem scrollPlays_true (s : Sto) (L : List G_api_Line) (hl : L.length ≤ 9223372036854775807) (acts : List G_linotypelaw33_Act) : ∃ s', f_linotypelaw33_ScrollPlays s L acts = some (s', true) := by
  obtain ⟨t, w1, w2⟩ := ref_wrong L hl
  obtain ⟨s1, h1⟩ := works33 s
  obtain ⟨s2, h2⟩ := works33 s1
  unfold f_linotypelaw33_ScrollPlays
  rw [w1]
  simp only [bsm]
  rw [h1]
  simp only [bsm, Bool.not_true, orE_false, orE_some]
  by_cases hg : L.length ≤ 40 ∧ 1 ≤ L.length ∧ t.1 < 0 ∧ acts.length ≤ 60
  · obtain ⟨g1, g2, g3, g4⟩ := hg
    rw [if_neg (by simp only [Bool.or_eq_true, Bool.not_true, decide_eq_true_eq, beq_iff_eq, Bool.false_eq_true, false_or]; omega)]
    have hok := (w2.resolve_left (by omega)).2
    rw [grid_of g2 (by omega) hok]
    simp only [bsm, Er.isNil, Bool.not_true, Bool.false_eq_true, if_false]
    obtain ⟨gw, hln⟩ := gw_of (s := s1) g2 (by omega) hok
    generalize (s1.addr (L.map lr)).add_grid_Grid ⟨(List.range' s1.row_Row.length L.length).map some⟩ = s3 at *
    generalize s1.grid_Grid.length = g at *
    have hks : (List.range' s1.row_Row.length L.length).length = L.length := by simp
    have hnd : (List.range' s1.row_Row.length L.length).Nodup := List.nodup_range' (step := 1)
    generalize List.range' s1.row_Row.length L.length = ks at *
    generalize (L[0]'(by omega)).Cells.length = W at *
    obtain ⟨t, h5, h6⟩ := iter_for (σ := (List G_api_Line) × Int × Sto) (τ := (Sto × Bool) ⊕ Sto) (n := acts.length) (fuel := ((acts.length : Int) - 0).toNat + 1) (s := (L, 0, s3))
      (Inv := fun i q => q.2.1 = (i : Int) ∧ ∃ ks, Gw q.2.2 g ks W ∧ ks.Nodup ∧ ks.length = L.length ∧ ks.map (ln q.2.2) = q.1) (post := fun t => ∃ u, t = .inr u)
      (step := fun s_51 =>
  if (decide (s_51.2.1 < (acts.length : Int))) = true then
  (idx acts s_51.2.1).bind fun x_59 =>
  (f_linotyperef33_Move s_51.1 x_59.From x_59.To x_59.N (!x_59.Down)).bind fun x_74 =>
  (f_linotypelaw33_do s_51.2.2 (some g) x_59).bind fun x_79 =>
  (f_linotypelaw33_do x_79 (none : Option Nat) x_59).bind fun x_82 =>
  (f_grid_Grid_Lines x_82 (some g)).bind fun x_85 =>
  (f_linotyperef32_Same x_85 x_74).bind fun x_87 =>
  if (!x_87) = true then
  some (.inr (.inl (x_82, false)))
  else
  some (.inl (x_74, (w64 (s_51.2.1 + 1)), x_82))
  else
  some (.inr (.inr (s_51.2.2))))
      (fun i q hi ⟨e1, ks, k1, k2, k3, k4⟩ => by
        obtain ⟨q1, q2, q3⟩ := q
        simp only at e1 k1 k4
        subst e1 k4
        have hok := grid_lines_ok k1
        have kl := k1.h2
        have kw := k1.w2
        obtain ⟨s', ks', d1, d2, d3, d4, d5⟩ := do33_eq k1 k2 acts[i]
        have e5 : w64 ((i : Int) + 1) = ((i + 1 : Nat) : Int) := by rw [w64_in (by omega)]; simp
        have hd : decide ((i : Int) < (acts.length : Int)) = true := by simp; exact hi
        refine .inl ⟨(ks'.map (ln s'), ((i + 1 : Nat) : Int), s'), ?_, rfl, ks', d2, d3, d4.trans k3, rfl⟩
        simp only [hd, if_true, idx_at hi, bsm, e5]
        rw [ref_move (W := W) (by simpa using kl) kw (fun x hx => (hok x hx).2), d1]
        simp only [bsm, do33_nil]
        rw [grid_lines d2, List.length_map, ← d5]
        simp only [bsm]
        rw [same_lines (W := W) (by rw [List.length_map, d4]; exact kl) kw (grid_lines_ok d2)]
        simp only [bsm, Bool.not_true, Bool.false_eq_true, if_false])
      (fun q ⟨e1, _⟩ => by
        refine ⟨.inr q.2.2, ?_, _, rfl⟩
        rw [e1]
        simp)
      ⟨rfl, ks, gw, hnd, hks, hln⟩ (by omega)
    obtain ⟨u, rfl⟩ := h6
    rw [h5]
    exact ⟨_, rfl⟩
  · rw [if_pos (by simp only [Bool.or_eq_true, Bool.not_true, decide_eq_true_eq, beq_iff_eq, Bool.false_eq_true, false_or]; omega), h2]
    exact ⟨s2, rfl⟩

theorem mv_out {L : List G_api_Line} {F T i : Nat} (n : Int) (up : Bool) (hi : i < L.length) (ho : i < F ∨ T ≤ i) : ∃ x, (mv W L F T n up)[i]? = some x ∧ x.Cells = L[i].Cells := by
  unfold mv
  split
  · rw [List.getElem?_map, List.getElem?_range hi, Option.map_some]
    refine ⟨_, rfl, ?_⟩
    have : mvb W L F T (min n ((T : Int) - (F : Int))).toNat up i = L[i] := by
      unfold mvb
      rw [if_neg (by omega), gdl hi]
    unfold mvl
    rw [this]
    split <;> rfl
  · exact ⟨L[i], List.getElem?_eq_getElem hi, rfl⟩
theorem mv_all {L : List G_api_Line} {F T i : Nat} {n : Int} (up : Bool) (hi : i < L.length) (h1 : F ≤ i) (h2 : i < T) (hn : (T : Int) - (F : Int) ≤ n) : (mv W L F T n up)[i]? = some ⟨List.replicate W bl, false⟩ := by
  unfold mv
  rw [if_pos (by omega), List.getElem?_map, List.getElem?_range hi, Option.map_some]
  have hm : (min n ((T : Int) - (F : Int))).toNat = T - F := by omega
  have : mvb W L F T (T - F) up i = ⟨List.replicate W bl, false⟩ := by
    unfold mvb
    rw [if_pos ⟨h1, h2⟩]
    split
    · rw [if_neg (by omega)]
    · rw [if_neg (by omega)]
  rw [hm]
  unfold mvl
  rw [this]
  split <;> rfl

theorem scrollFar_true (s : Sto) (L : List G_api_Line) (hl : L.length ≤ 9223372036854775807) (x : G_linotypelaw33_Act) : ∃ s', f_linotypelaw33_ScrollFar s L x = some (s', true) := by
  obtain ⟨t, w1, w2⟩ := ref_wrong L hl
  obtain ⟨s1, h1⟩ := works33 s
  obtain ⟨s2, h2⟩ := works33 s1
  unfold f_linotypelaw33_ScrollFar
  rw [w1]
  simp only [bsm]
  rw [h1]
  simp only [bsm, Bool.not_true, orE_false, orE_some]
  by_cases hg : L.length ≤ 40 ∧ 1 ≤ L.length ∧ t.1 < 0
  · obtain ⟨g1, g2, g3⟩ := hg
    rw [if_neg (by simp only [Bool.or_eq_true, Bool.not_true, decide_eq_true_eq, beq_iff_eq, Bool.false_eq_true, false_or]; omega)]
    have hok := (w2.resolve_left (by omega)).2
    rw [grid_of g2 (by omega) hok]
    simp only [bsm, Er.isNil, Bool.not_true, Bool.false_eq_true, if_false]
    obtain ⟨gw, hln⟩ := gw_of (s := s1) g2 (by omega) hok
    generalize (s1.addr (L.map lr)).add_grid_Grid ⟨(List.range' s1.row_Row.length L.length).map some⟩ = s3 at *
    generalize s1.grid_Grid.length = g at *
    have hks : (List.range' s1.row_Row.length L.length).length = L.length := by simp
    have hnd : (List.range' s1.row_Row.length L.length).Nodup := List.nodup_range' (step := 1)
    generalize List.range' s1.row_Row.length L.length = ks at *
    generalize (L[0]'(by omega)).Cells.length = W at *
    obtain ⟨s', ks', d1, d2, d3, d4, d5⟩ := do33_eq gw hnd x
    have kw := gw.w2
    rw [d1]
    simp only [bsm]
    rw [grid_lines d2, d5, hln, hks]
    have hok2 : ∀ y ∈ L, Okl W y := by rw [← hln]; exact grid_lines_ok gw
    simp only [bsm, icl]
    have hF := cl_le x.From L.length
    have hT := cl_le x.To L.length
    have hml := mv_len (W := W) L (cl x.From L.length) (cl x.To L.length) x.N (!x.Down)
    have hmo := mv_ok hok2 (cl x.From L.length) hT x.N (!x.Down)
    have hout : ∀ i, (hi : i < L.length) → i < cl x.From L.length ∨ cl x.To L.length ≤ i → _ := fun i hi => mv_out (W := W) (F := cl x.From L.length) (T := cl x.To L.length) x.N (!x.Down) hi
    have hall : ∀ i, (hi : i < L.length) → cl x.From L.length ≤ i → i < cl x.To L.length → ((cl x.To L.length : Nat) : Int) - ((cl x.From L.length : Nat) : Int) ≤ x.N → _ := fun i hi h1 h2 h3 => mv_all (W := W) (!x.Down) hi h1 h2 h3
    generalize mv W L (cl x.From L.length) (cl x.To L.length) x.N (!x.Down) = m at *
    generalize cl x.From L.length = F at *
    generalize cl x.To L.length = T at *
    obtain ⟨t, h5, h6⟩ := iter_for (σ := Int) (τ := (Sto × Bool) ⊕ Unit) (n := L.length) (fuel := ((L.length : Int) - 0).toNat + 1) (s := 0)
      (Inv := fun i q => q = (i : Int)) (post := fun t => ∃ u, t = .inr u)
      (step := fun s_70 =>
  if (decide (s_70 < (L.length : Int))) = true then
  (andE (decide (s_70 ≥ (F : Int))) (some (decide (s_70 < (T : Int))))).bind fun d_79 =>
  (andE (!d_79) ((idx m s_70).bind fun x_92 =>
  (idx L s_70).bind fun x_97 =>
  (f_linotyperef23_Same x_92.Cells x_97.Cells).bind fun x_100 =>
  some (!x_100))).bind fun d_88 =>
  if d_88 = true then
  some (.inr (.inl (s', false)))
  else
  (andE d_79 (some (decide (x.N ≥ (w64 ((T : Int) - (F : Int))))))).bind fun d_106 =>
  (andE d_106 ((idx m s_70).bind fun x_118 =>
  (orE x_118.Wrap ((idx m s_70).bind fun x_125 =>
  (idx L s_70).bind fun x_130 =>
  (rep (x_130.Cells.length : Int) (⟨0, ([] : List Int)⟩ : G_api_Cell)).bind fun x_134 =>
  (f_linotyperef23_Same x_125.Cells x_134).bind fun x_135 =>
  some (!x_135))).bind fun d_121 =>
  some d_121)).bind fun d_114 =>
  if d_114 = true then
  some (.inr (.inl (s', false)))
  else
  some (.inl ((w64 (s_70 + 1))))
  else
  some (.inr (.inr ())))
      (fun i q hi e => by
        subst e
        refine .inl ⟨_, ?_, rfl⟩
        have e5 : w64 ((i : Int) + 1) = ((i + 1 : Nat) : Int) := by rw [w64_in (by omega)]; simp
        have hd : decide ((i : Int) < (L.length : Int)) = true := by simp; exact hi
        have hi2 : i < m.length := by omega
        have hw := (hok2 _ (List.getElem_mem hi)).2
        have hmi := hmo _ (List.getElem_mem hi2)
        simp only [hd, if_true, andE_some, bsm, idx_at hi2, idx_at hi, e5]
        by_cases hin : F ≤ i ∧ i < T
        · have c1 : (decide ((i : Int) ≥ (F : Int)) && decide ((i : Int) < (T : Int))) = true := by simp; omega
          rw [c1, w64_in (by omega)]
          simp only [Bool.not_true, andE_false, bsm, Bool.false_eq_true, if_false, Bool.true_and]
          by_cases hn : (T : Int) - (F : Int) ≤ x.N
          · have hm := hall i hi hin.1 hin.2 hn
            rw [List.getElem?_eq_getElem hi2] at hm
            have hm := Option.some.inj hm
            rw [show decide (x.N ≥ (T : Int) - (F : Int)) = true by simpa using hn, hm]
            simp only [andE_true, orE_false]
            rw [rep_eq _ (by omega)]
            simp only [bsm]
            rw [Int.toNat_natCast, hw, show (List.replicate W (⟨0, ([] : List Int)⟩ : G_api_Cell)) = List.replicate W bl from rfl, same_self (by simp; omega) (snd_bl W).sht]
            simp only [bsm, Bool.not_true, Bool.false_eq_true, if_false]
          · rw [show decide (x.N ≥ (T : Int) - (F : Int)) = false by simpa using hn]
            simp only [andE_false, bsm, Bool.false_eq_true, if_false]
        · have c1 : (decide ((i : Int) ≥ (F : Int)) && decide ((i : Int) < (T : Int))) = false := by simp; omega
          obtain ⟨y, hy1, hy2⟩ := hout i hi (by omega)
          rw [List.getElem?_eq_getElem hi2] at hy1
          have hy1 := Option.some.inj hy1
          rw [c1, ← hy2, ← hy1, same_self (by rw [hmi.2]; omega) hmi.1.sht]
          simp only [Bool.not_false, andE_true, bsm, Bool.not_true, Bool.false_eq_true, if_false, andE_false, Bool.false_and])
      (fun q e => ⟨.inr (), by subst e; simp, _, rfl⟩)
      rfl (by omega)
    obtain ⟨u, rfl⟩ := h6
    rw [h5]
    simp only [bsm]
    rw [hml]
    exact ⟨_, by simp; rfl⟩
  · rw [if_pos (by simp only [Bool.or_eq_true, Bool.not_true, decide_eq_true_eq, beq_iff_eq, Bool.false_eq_true, false_or]; omega), h2]
    exact ⟨s2, rfl⟩
end Go.Proofs.YtohpkblleihmaaaDoor
