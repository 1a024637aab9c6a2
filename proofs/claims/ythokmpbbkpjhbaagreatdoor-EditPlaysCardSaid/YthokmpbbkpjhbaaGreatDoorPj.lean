/-
  Rows of grids moved: ScrollPlays and ScrollFar answer true, in plain Lean. Conditions: lists are shorter than 2^63.
-/
import Derived.Test.YthokmpbbkpjhbaaGreatDoorPi
namespace Go.Proofs.YthokmpbbkpjhbaaGreatDoor
open Go Go.Lt
variable {s : Sto} {g k W : Nat} {ks : List Nat} {l p : List G_api_Cell} {w : Bool}

theorem ref_move {L : List G_api_Line} (hl : L.length ≤ 1024) (hW : W ≤ 1024) (hL : ∀ x ∈ L, x.Cells.length = W) (a b n : Int) (up : Bool) :
    f_linotyperef33_Move L a b n up = some (mv W L (cl a L.length) (cl b L.length) n up) := by
  have hF := cl_le a L.length
  have hT := cl_le b L.length
  unfold f_linotyperef33_Move
  simp only [icl, orE_some, bsm]
  generalize cl a L.length = F at *
  generalize cl b L.length = T at *
  unfold mv
  by_cases hc : F < T ∧ 0 < n
  · obtain ⟨m, hm⟩ : ∃ m : Nat, min n ((T : Int) - (F : Int)) = (m : Int) := ⟨(min n ((T : Int) - (F : Int))).toNat, by omega⟩
    have hm2 : F + m ≤ T ∧ 1 ≤ m := by omega
    rw [if_neg (by rw [Bool.or_eq_true, decide_eq_true_eq, decide_eq_true_eq]; omega), if_pos hc, w64_in (by omega), imin_eq, hm, Int.toNat_natCast]
    obtain ⟨t, h1, h2⟩ := iter_for (σ := (List G_api_Line) × Int) (τ := List G_api_Line) (n := L.length) (fuel := ((L.length : Int) - 0).toNat + 1) (s := (([] : List G_api_Line), 0))
      (fun i q => q = ((List.range i).map (mvl W L F T m up), (i : Int))) (fun t => t = (List.range L.length).map (mvl W L F T m up))
      (step := fun s_41 =>
  if (decide (s_41.2 < (L.length : Int))) = true then
  (idx L s_41.2).bind fun x_48 =>
  ((andE (decide (s_41.2 ≥ (F : Int))) (some (decide (s_41.2 < (T : Int))))).bind fun d_57 =>
  if d_57 = true then
  (if (!up) = true then
  (some ((w64 (s_41.2 - (m : Int)))) : Option (Int))
  else
  (some ((w64 (s_41.2 + (m : Int)))) : Option (Int))).bind fun z_68 =>
  (idx L s_41.2).bind fun x_79 =>
  (rep (x_79.Cells.length : Int) (⟨0, ([] : List Int)⟩ : G_api_Cell)).bind fun x_83 =>
  (andE (decide (z_68 ≥ (F : Int))) (some (decide (z_68 < (T : Int))))).bind fun d_90 =>
  if d_90 = true then
  (idx L z_68).bind fun x_98 =>
  (some (x_98.Cells, x_98.Wrap) : Option ((List G_api_Cell) × Bool))
  else
  (some (x_83, false) : Option ((List G_api_Cell) × Bool))
  else
  (some (x_48.Cells, x_48.Wrap) : Option ((List G_api_Cell) × Bool))).bind fun z_53 =>
  ((orE ((w64 (s_41.2 + 1)) == (F : Int)) ((andE (!up) (some ((w64 (s_41.2 + 1)) == (T : Int)))).bind fun d_111 =>
  some d_111)).bind fun d_107 =>
  if d_107 = true then
  (some (false) : Option (Bool))
  else
  (some (z_53.2) : Option (Bool))).bind fun z_102 =>
  (app s_41.1 ([(⟨z_53.1, z_102⟩ : G_api_Line)] : List G_api_Line)).bind fun x_124 =>
  some (.inl (x_124, (w64 (s_41.2 + 1))))
  else
  some (.inr (s_41.1)))
      (fun i q hi e => by
        subst e
        refine .inl ⟨_, ?_, rfl⟩
        have e5 : w64 ((i : Int) + 1) = ((i + 1 : Nat) : Int) := by rw [w64_in (by omega)]; simp
        have hd : decide ((i : Int) < (L.length : Int)) = true := by simp; exact hi
        have hlw := hL _ (List.getElem_mem hi)
        simp only [hd, if_true, idx_at hi, bsm, e5, andE_some]
        have hz : (if (decide ((i : Int) ≥ (F : Int)) && decide ((i : Int) < (T : Int))) = true then
            (if (!up) = true then (some ((w64 ((i : Int) - (m : Int)))) : Option (Int)) else (some ((w64 ((i : Int) + (m : Int)))) : Option (Int))).bind fun z_68 =>
            (rep (L[i].Cells.length : Int) (⟨0, ([] : List Int)⟩ : G_api_Cell)).bind fun x_83 =>
            if (decide (z_68 ≥ (F : Int)) && decide (z_68 < (T : Int))) = true then
            (idx L z_68).bind fun x_98 => (some (x_98.Cells, x_98.Wrap) : Option ((List G_api_Cell) × Bool))
            else (some (x_83, false) : Option ((List G_api_Cell) × Bool))
            else (some (L[i].Cells, L[i].Wrap) : Option ((List G_api_Cell) × Bool))) = some ((mvb W L F T m up i).Cells, (mvb W L F T m up i).Wrap) := by
          unfold mvb
          by_cases c1 : F ≤ i ∧ i < T
          · rw [if_pos (by simp; omega), if_pos c1]
            cases up with
            | true =>
              rw [if_neg (by simp), if_pos rfl]
              simp only [bsm]
              rw [rep_eq _ (by omega), w64_in (by omega), show ((i : Int) + (m : Int)) = ((i + m : Nat) : Int) by simp]
              simp only [bsm]
              by_cases c2 : i + m < T
              · rw [if_pos (by simp; omega), if_pos c2, idx_at (show i + m < L.length by omega), gdl (by omega)]
                rfl
              · rw [if_neg (by simp; omega), if_neg c2, Int.toNat_natCast, hlw]
                rfl
            | false =>
              rw [if_pos (by simp), if_neg (by simp)]
              simp only [bsm]
              rw [rep_eq _ (by omega), w64_in (by omega)]
              simp only [bsm]
              by_cases c2 : F + m ≤ i
              · rw [show ((i : Int) - (m : Int)) = ((i - m : Nat) : Int) by omega, if_pos (by simp; omega), if_pos c2, idx_at (show i - m < L.length by omega), gdl (by omega)]
                rfl
              · rw [if_neg (by simp; omega), if_neg c2, Int.toNat_natCast, hlw]
                rfl
          · rw [if_neg (by simp; omega), if_neg c1, gdl hi]
        rw [hz]
        simp only [bsm]
        have hy : (orE (((i + 1 : Nat) : Int) == (F : Int)) (some (!up && (((i + 1 : Nat) : Int) == (T : Int))))) = some (decide (i + 1 = F ∨ (up = false ∧ i + 1 = T))) := by
          rw [orE_some]
          congr 1
          rw [Bool.eq_iff_iff]
          simp only [Bool.or_eq_true, beq_iff_eq, Bool.and_eq_true, Bool.not_eq_true', decide_eq_true_eq, Int.ofNat_inj]
        rw [hy]
        simp only [bsm]
        have hx : ∀ y : Bool, (if decide (i + 1 = F ∨ (up = false ∧ i + 1 = T)) = true then (some false : Option Bool) else some y) = some (if i + 1 = F ∨ (up = false ∧ i + 1 = T) then false else y) := fun y => by
          by_cases c : i + 1 = F ∨ (up = false ∧ i + 1 = T)
          · rw [if_pos (by simpa using c), if_pos c]
          · rw [if_neg (by simpa using c), if_neg c]
        rw [hx]
        simp only [bsm]
        rw [app_eq (by simp; omega)]
        simp only [bsm]
        have hz3 : (⟨(mvb W L F T m up i).Cells, if i + 1 = F ∨ (up = false ∧ i + 1 = T) then false else (mvb W L F T m up i).Wrap⟩ : G_api_Line) = mvl W L F T m up i := by
          unfold mvl
          split <;> rfl
        rw [hz3, List.range_succ, List.map_append]
        rfl)
      (fun q e => ⟨_, by subst e; simp, rfl⟩)
      (by simp) (by omega)
    subst h2
    rw [h1]
    rfl
  · rw [if_pos (by rw [Bool.or_eq_true, decide_eq_true_eq, decide_eq_true_eq]; omega), if_neg hc]

theorem mv_ok {L : List G_api_Line} (hL : ∀ x ∈ L, Okl W x) (F : Nat) {T : Nat} (hT : T ≤ L.length) (n : Int) (up : Bool) : ∀ x ∈ mv W L F T n up, Okl W x := by
  have hb : Okl W ⟨List.replicate W bl, false⟩ := ⟨snd_bl W, by simp⟩
  have hget : ∀ i, i < L.length → Okl W (L.getD i dl) := fun i hi => by rw [gdl hi]; exact hL _ (List.getElem_mem hi)
  unfold mv
  split
  · rename_i hc
    intro x hx
    obtain ⟨i, hi, rfl⟩ := List.mem_map.1 hx
    have hi := List.mem_range.1 hi
    generalize (min n ((T : Int) - (F : Int))).toNat = m
    have : Okl W (mvb W L F T m up i) := by
      unfold mvb
      repeat' split
      all_goals first
        | exact hb
        | exact hget _ (by omega)
    unfold mvl
    split
    · exact this
    · exact this
  · exact hL

end Go.Proofs.YthokmpbbkpjhbaaGreatDoor
