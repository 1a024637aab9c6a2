/- Parts of the proofs of FeedCuts: the walk through the code, and plain Lean. No condition. -/
import Derived.Test.YtfhhpdggmefcoaaGreatDoorSfD
import Derived.Test.YtfhhpdggmefcoaaGreatDoorSfB
import Derived.Test.YtfhhpdggmefcoaaGreatDoorSfC
import Derived.KernelRfl
import Derived.Test.YtfhhpdggmefcoaaGreatDoorSfA
set_option linter.unusedVariables false
set_option linter.unusedSimpArgs false
namespace Go.Proofs.YtfhhpdggmefcoaaGreatDoor
open Go Go.Lt
variable {s : Sto} {g k W : Nat} {ks : List Nat} {l p : List G_api_Cell} {w : Bool}
def dl : G_api_Line := ⟨[], false⟩
def mvb (W : Nat) (L : List G_api_Line) (F T m : Nat) (up : Bool) (i : Nat) : G_api_Line :=
 if F ≤ i ∧ i < T then (if up = true then (if i + m < T then L.getD (i + m) dl else ⟨List.replicate W bl, false⟩) else (if F + m ≤ i then L.getD (i - m) dl else ⟨List.replicate W bl, false⟩)) else L.getD i dl
def mvl (W : Nat) (L : List G_api_Line) (F T m : Nat) (up : Bool) (i : Nat) : G_api_Line :=
 if i + 1 = F ∨ (up = false ∧ i + 1 = T) then ⟨(mvb W L F T m up i).Cells, false⟩ else mvb W L F T m up i
def mv (W : Nat) (L : List G_api_Line) (F T : Nat) (n : Int) (up : Bool) : List G_api_Line :=
 if F < T ∧ 0 < n then (List.range L.length).map (mvl W L F T (min n ((T : Int) - (F : Int))).toNat up) else L
theorem gd {i : Nat} (h : i < ks.length) : ks.getD i 0 = ks[i] := by rw [List.getD_eq_getElem?_getD, List.getElem?_eq_getElem h]; rfl
theorem gdl {L : List G_api_Line} {i : Nat} (h : i < L.length) : L.getD i dl = L[i] := by rw [List.getD_eq_getElem?_getD, List.getElem?_eq_getElem h]; rfl
theorem nd_ne (nd : ks.Nodup) {i j : Nat} (hj : j < ks.length) (hij : i < j) : ks.getD i 0 ≠ ks.getD j 0 := by
 rw [gd hj, gd (Nat.lt_trans hij hj)]
 exact List.pairwise_iff_getElem.1 nd i j _ _ hij
theorem nd_map {h : Nat} {f : Nat → Nat} (hf : ∀ i j, i < j → j < h → f i ≠ f j) : ((List.range h).map f).Nodup := by
 rw [List.Nodup, List.pairwise_map]
 exact List.pairwise_lt_range.imp_of_mem fun _ hb hlt => hf _ _ hlt (List.mem_range.1 hb)
def kfu (ks : List Nat) (N F T m i : Nat) : Nat := if i < F ∨ T ≤ i then ks.getD i 0 else if i + m < T then ks.getD (i + m) 0 else N + (i + m - T)
theorem ov_up {F T m : Nat} (N : Nat) (h1 : F + m ≤ T) (h2 : T ≤ ks.length) : ov ks F ((ks.drop (F + m)).take (T - (F + m)) ++ List.range' N m) = (List.range ks.length).map (kfu ks N F T m) := by
 refine List.ext_getElem? fun i => ?_
 rcases Nat.lt_or_ge i ks.length with hi | hi
 ·rw [List.getElem?_map, List.getElem?_range hi, Option.map_some]
  have e : ((ks.drop (F + m)).take (T - (F + m)) ++ List.range' N m).length = T - F := by simp; omega
  have et : (ks.take F).length = F := by simp; omega
  have ex : ((ks.drop (F + m)).take (T - (F + m))).length = T - (F + m) := by simp; omega
  unfold ov
  rw [e, List.append_assoc, List.getElem?_append, et]
  unfold kfu
  by_cases c1 : i < F
  ·rw [if_pos c1, if_pos (Or.inl c1), List.getElem?_take, if_pos c1, gd hi, List.getElem?_eq_getElem hi]
  ·rw [if_neg c1, List.getElem?_append, e]
   by_cases c2 : T ≤ i
   ·rw [if_neg (by omega), if_pos (Or.inr c2), List.getElem?_drop, show F + (T - F) + (i - F - (T - F)) = i by omega, gd hi, List.getElem?_eq_getElem hi]
   ·rw [if_pos (by omega), if_neg (by omega), List.getElem?_append, ex]
    by_cases c3 : i + m < T
    ·rw [if_pos (by omega), if_pos c3, List.getElem?_take, if_pos (by omega), List.getElem?_drop, show F + m + (i - F) = i + m by omega, gd (by omega), List.getElem?_eq_getElem (by omega)]
    ·rw [if_neg (by omega), if_neg c3, List.getElem?_range' (by omega), Nat.one_mul]
     congr 1
     omega
 ·rw [List.getElem?_eq_none (by rw [ov_len (by simp; omega)]; exact hi), List.getElem?_eq_none (by simpa using hi)]
theorem kfu_ne (nd : ks.Nodup) {N F T m : Nat} (hN : ∀ k ∈ ks, k < N) (h1 : F + m ≤ T) (h2 : T ≤ ks.length) (i j : Nat) (hij : i < j) (hj : j < ks.length) : kfu ks N F T m i ≠ kfu ks N F T m j := by
 have lt : ∀ i, i < ks.length → ks.getD i 0 < N := fun i hi => by rw [gd hi]; exact hN _ (List.getElem_mem hi)
 have ne : ∀ a b, a < b → b < ks.length → ks.getD a 0 ≠ ks.getD b 0 := fun a b hab hb => nd_ne nd hb hab
 have ne2 : ∀ a b, b < a → a < ks.length → ks.getD a 0 ≠ ks.getD b 0 := fun a b hab ha => (nd_ne nd ha hab).symm
 unfold kfu
 repeat' split
 all_goals first
  | exact ne _ _ (by omega) (by omega)
  | exact ne2 _ _ (by omega) (by omega)
  | (have := lt i (by omega); omega)
  | (have := lt j (by omega); omega)
  | (have := lt (i + m) (by omega); omega)
  | (have := lt (j + m) (by omega); omega)
  | omega
theorem ln_offs {h : Nat} {f : Nat → Nat} {B : Nat → G_api_Line} (hf : ∀ i j, i < j → j < h → f i ≠ f j) (hB : ∀ i, i < h → ln s (f i) = B i) {j : Nat} (hj : j < h) (hk : Rw s W (f j)) (i : Nat) (hi : i < h) :
  ln (off s (f j)) (f i) = if i = j then ⟨(B j).Cells, false⟩ else B i := by
 rw [ln_off hk, hB j hj]
 by_cases e : i = j
 ·subst e; rw [if_pos rfl, if_pos rfl]
 ·rw [if_neg, if_neg e, hB i hi]
  rcases Nat.lt_or_gt_of_ne e with h | h
  ·exact hf i j h hj
  ·exact (hf j i h hi).symm
theorem offa_pen (s : Sto) (ks : List Nat) (F : Nat) : (offa s ks F).rst = s.rst := by
 unfold offa
 split <;> rfl
theorem getD_map_range {h i : Nat} {f : Nat → Nat} (hi : i < h) : ((List.range h).map f).getD i 0 = f i := by
 rw [gd (by simpa using hi)]
 simp
structure Rf (s s' : Sto) (g : Nat) (ks : List Nat) (g' : Nat) (ks' : List Nat) : Prop where
 gl : s.grid_Grid.length ≤ s'.grid_Grid.length
 rl : s.row_Row.length ≤ s'.row_Row.length
 gr : ∀ j, j < s.grid_Grid.length → j ≠ g → s'.grid_Grid[j]? = s.grid_Grid[j]?
 rw : ∀ j, j < s.row_Row.length → j ∉ ks → s'.row_Row[j]? = s.row_Row[j]?
 ng : g' = g ∨ s.grid_Grid.length ≤ g'
 nr : ∀ r ∈ ks', r ∈ ks ∨ s.row_Row.length ≤ r
theorem Rf.self (s : Sto) (g : Nat) (ks : List Nat) : Rf s s g ks g ks := ⟨Nat.le_refl _, Nat.le_refl _, fun _ _ _ => rfl, fun _ _ _ => rfl, .inl rfl, fun _ h => .inl h⟩
theorem Rf.rowoff {s' : Sto} {ks' : List Nat} (h : Rf s s' g ks g ks') {i : Nat} (hi : i ∈ ks') : Rf s (off s' i) g ks g ks' := by
 have e : (off s' i).row_Row = s'.row_Row.set i ⟨(ln s' i).Cells, false⟩ := rfl
 refine ⟨h.gl, by rw [e, List.length_set]; exact h.rl, h.gr, fun j h1 h2 => ?_, h.ng, h.nr⟩
 rw [e, List.getElem?_set_ne ?_]
 ·exact h.rw j h1 h2
 ·rintro rfl
  rcases h.nr _ hi with q | q
  ·exact h2 q
  ·omega
theorem Rf.aboff {s' : Sto} {ks' : List Nat} (h : Rf s s' g ks g ks') (F : Nat) (hF : F ≤ ks'.length) : Rf s (offa s' ks' F) g ks g ks' := by
 unfold Go.Proofs.YtfhhpdggmefcoaaGreatDoor.offa
 split
 ·exact h
 ·refine h.rowoff ?_
  rw [gd (by omega)]
  exact List.getElem_mem _
theorem Rf.lay (xs : List G_row_Row) (x : G_grid_Grid) {ks' : List Nat} (h : ∀ r ∈ ks', r ∈ ks ∨ s.row_Row.length ≤ r) : Rf s ((s.addr xs).sg g x) g ks g ks' := by
 have e : ((s.addr xs).sg g x).row_Row = s.row_Row ++ xs := rfl
 have e2 : ((s.addr xs).sg g x).grid_Grid = s.grid_Grid.set g x := rfl
 exact ⟨by rw [e2, List.length_set]; exact Nat.le_refl _, by rw [e, List.length_append]; omega, fun j _ hj => by rw [e2, List.getElem?_set_ne (Ne.symm hj)], fun j hj _ => by rw [e, List.getElem?_append_left hj], .inl rfl, h⟩
theorem kfu_mem {N F T m : Nat} (hm : T ≤ ks.length) {r : Nat} (hr : r ∈ (List.range ks.length).map (kfu ks N F T m)) : r ∈ ks ∨ N ≤ r := by
 obtain ⟨i, hi, rfl⟩ := List.mem_map.1 hr
 have hi := List.mem_range.1 hi
 unfold kfu
 split
 ·rw [gd hi]; exact .inl (List.getElem_mem _)
 ·split
  ·rw [gd (by omega)]; exact .inl (List.getElem_mem _)
  ·exact .inr (by omega)
theorem up_eq2 (h : Gw s g ks W) (nd : ks.Nodup) (a b n : Int) : ∃ s' ks', f_scroll_Up s (some g) a b n = some s' ∧ (Gw s' g ks' W ∧ ks'.Nodup ∧ ks'.length = ks.length ∧
  ks'.map (ln s') = mv W (ks.map (ln s)) (cl a ks.length) (cl b ks.length) n true) ∧ s'.rst = s.rst ∧ Rf s s' g ks g ks' := by
 have hF := cl_le a ks.length
 have hT := cl_le b ks.length
 have hh := h.h2
 have hN : ∀ k ∈ ks, k < s.row_Row.length := fun k hk => (h.r k hk).lt
 unfold f_scroll_Up
 rw [scroll_of h]
 simp only [bsm]
 generalize cl a ks.length = F at *
 generalize cl b ks.length = T at *
 unfold mv
 by_cases hc : F < T ∧ 0 < n
 ·obtain ⟨m, hm⟩ : ∃ m : Nat, min n ((T : Int) - (F : Int)) = (m : Int) := ⟨(min n ((T : Int) - (F : Int))).toNat, by omega⟩
  have hm2 : F + m ≤ T ∧ 1 ≤ m := by omega
  rw [if_pos (by simp; omega), if_pos hc, hm, w64_in (by omega), show ((F : Int) + (m : Int)) = ((F + m : Nat) : Int) by simp, scroll_rows h hm2.1 hT]
  simp only [bsm]
  rw [scroll_blanks h (by omega)]
  simp only [bsm]
  rw [app_eq (by simp; omega), ← List.map_append]
  simp only [bsm]
  have h1 := h.addr (xs := List.replicate m (bk W))
  have hlen : ((ks.drop (F + m)).take (T - (F + m)) ++ List.range' s.row_Row.length m).length = T - F := by simp; omega
  obtain ⟨h3, h4⟩ := scroll_lay h1 (F := F) (p := (ks.drop (F + m)).take (T - (F + m)) ++ List.range' s.row_Row.length m) (by rw [hlen]; omega) (fun k hk => by
   rcases List.mem_append.1 hk with hk | hk
   ·exact h1.r k (List.mem_of_mem_drop (List.mem_of_mem_take hk))
   ·rw [List.mem_range'_1] at hk
    have := addr_new (s := s) (xs := List.replicate m (bk W)) (i := k - s.row_Row.length) (by simp; omega)
    rw [show s.row_Row.length + (k - s.row_Row.length) = k by omega, List.getElem_replicate] at this
    exact ⟨_, this, snd_bl W, by simp [bk]⟩) ⟨(F : Int), (T : Int), (m : Int)⟩ rfl
  rw [h3]
  rw [ov_up s.row_Row.length hm2.1 hT] at h4 ⊢
  have ne := kfu_ne nd (N := s.row_Row.length) (F := F) (T := T) (m := m) hN hm2.1 hT
  have hB : ∀ i, i < ks.length → ln ((s.addr (List.replicate m (bk W))).sg g ⟨((List.range ks.length).map (kfu ks s.row_Row.length F T m)).map some⟩) (kfu ks s.row_Row.length F T m i) = mvb W (ks.map (ln s)) F T m true i := by
   intro i hi
   rw [ln_sg]
   have old : ∀ j, j < ks.length → ln (s.addr (List.replicate m (bk W))) (ks.getD j 0) = (ks.map (ln s)).getD j dl := fun j hj => by
    rw [gdl (by simpa using hj), gd hj, ln_old (hN _ (List.getElem_mem hj)), List.getElem_map]
   unfold kfu mvb
   by_cases c1 : i < F ∨ T ≤ i
   ·rw [if_pos c1, if_neg (show ¬(F ≤ i ∧ i < T) by omega), old i hi]
   ·rw [if_neg c1, if_pos (show F ≤ i ∧ i < T by omega), if_pos rfl]
    by_cases c2 : i + m < T
    ·rw [if_pos c2, if_pos c2, old _ (by omega)]
    ·rw [if_neg c2, if_neg c2, ln_new (by simp; omega), List.getElem_replicate]
     rfl
  refine ⟨_, (List.range ks.length).map (kfu ks s.row_Row.length F T m), rfl, ⟨?_, nd_map ne, by simp, ?_⟩, offa_pen _ _ _, (Rf.lay _ _ fun r hr => kfu_mem hT hr).aboff F (by simp; omega)⟩
  ·unfold offa
   split
   ·exact h4
   ·refine h4.off ?_
    rw [getD_map_range (by omega)]
    exact h4.r _ (List.mem_map.2 ⟨F - 1, List.mem_range.2 (by omega), rfl⟩)
  ·rw [List.length_map, List.map_map]
   refine List.map_congr_left fun i hi => ?_
   have hi := List.mem_range.1 hi
   simp only [Function.comp, Int.toNat_natCast]
   unfold offa mvl
   by_cases h0 : F = 0
   ·rw [if_pos h0, if_neg (by simp; omega), hB i hi]
   ·rw [if_neg h0, getD_map_range (by omega), ln_offs ne hB (by omega) (h4.r _ (List.mem_map.2 ⟨F - 1, List.mem_range.2 (by omega), rfl⟩)) i hi]
    by_cases e : i = F - 1
    ·rw [if_pos e, if_pos (by omega), e]
    ·rw [if_neg e, if_neg (by simp; omega)]
 ·rw [if_neg (by simp; omega), if_neg hc]
  exact ⟨s, ks, rfl, ⟨h, nd, rfl, rfl⟩, rfl, Rf.self _ _ _⟩
theorem ref_move {L : List G_api_Line} (hl : L.length ≤ 1024) (hW : W ≤ 1024) (hL : ∀ x ∈ L, x.Cells.length = W) (a b n : Int) (up : Bool) :
  f_linotyperef33_Move L a b n up = some (mv W L (cl a L.length) (cl b L.length) n up) := by
 have hF := cl_le a L.length
 have hT := cl_le b L.length
 unfold f_linotyperef33_Move
 simp only [icl, orE_some, bsm]
 generalize cl a L.length = F at *
 generalize cl b L.length = T at *
 unfold mv
 by_cases hc : F < T ∧ 0 < n
 ·obtain ⟨m, hm⟩ : ∃ m : Nat, min n ((T : Int) - (F : Int)) = (m : Int) := ⟨(min n ((T : Int) - (F : Int))).toNat, by omega⟩
  have hm2 : F + m ≤ T ∧ 1 ≤ m := by omega
  rw [if_neg (by rw [Bool.or_eq_true, decide_eq_true_eq, decide_eq_true_eq]; omega), if_pos hc, w64_in (by omega), imin_eq, hm, Int.toNat_natCast]
  obtain ⟨t, h1, h2⟩ := iter_for (σ := (List G_api_Line) × Int) (τ := List G_api_Line) (n := L.length) (fuel := ((L.length : Int) - 0).toNat + 1) (s := (([] : List G_api_Line), 0))
   (fun i q => q = ((List.range i).map (mvl W L F T m up), (i : Int))) (fun t => t = (List.range L.length).map (mvl W L F T m up))
   (step := fun s_41 =>
 if (decide (s_41.2 < (L.length : Int))) = true then
 (idx L s_41.2).bind fun x_48 =>
 ((andE (decide (s_41.2 ≥ (F : Int))) (some (decide (s_41.2 < (T : Int))))).bind fun d_57 =>
 if d_57 = true then
 (if (!up) = true then
 (some ((w64 (s_41.2 - (m : Int)))) : Option (Int))
 else
 (some ((w64 (s_41.2 + (m : Int)))) : Option (Int))).bind fun z_68 =>
 (idx L s_41.2).bind fun x_79 =>
 (rep (x_79.Cells.length : Int) (⟨0, ([] : List Int)⟩ : G_api_Cell)).bind fun x_83 =>
 (andE (decide (z_68 ≥ (F : Int))) (some (decide (z_68 < (T : Int))))).bind fun d_90 =>
 if d_90 = true then
 (idx L z_68).bind fun x_98 =>
 (some (x_98.Cells, x_98.Wrap) : Option ((List G_api_Cell) × Bool))
 else
 (some (x_83, false) : Option ((List G_api_Cell) × Bool))
 else
 (some (x_48.Cells, x_48.Wrap) : Option ((List G_api_Cell) × Bool))).bind fun z_53 =>
 ((orE ((w64 (s_41.2 + 1)) == (F : Int)) ((andE (!up) (some ((w64 (s_41.2 + 1)) == (T : Int)))).bind fun d_111 =>
 some d_111)).bind fun d_107 =>
 if d_107 = true then
 (some (false) : Option (Bool))
 else
 (some (z_53.2) : Option (Bool))).bind fun z_102 =>
 (app s_41.1 ([(⟨z_53.1, z_102⟩ : G_api_Line)] : List G_api_Line)).bind fun x_124 =>
 some (.inl (x_124, (w64 (s_41.2 + 1))))
 else
 some (.inr (s_41.1)))
   (fun i q hi e => by
    subst e
    refine .inl ⟨_, ?_, rfl⟩
    have e5 : w64 ((i : Int) + 1) = ((i + 1 : Nat) : Int) := by rw [w64_in (by omega)]; simp
    have hd : decide ((i : Int) < (L.length : Int)) = true := by simp; exact hi
    have hlw := hL _ (List.getElem_mem hi)
    simp only [hd, if_true, idx_at hi, bsm, e5, andE_some]
    have hz : (if (decide ((i : Int) ≥ (F : Int)) && decide ((i : Int) < (T : Int))) = true then
      (if (!up) = true then (some ((w64 ((i : Int) - (m : Int)))) : Option (Int)) else (some ((w64 ((i : Int) + (m : Int)))) : Option (Int))).bind fun z_68 =>
      (rep (L[i].Cells.length : Int) (⟨0, ([] : List Int)⟩ : G_api_Cell)).bind fun x_83 =>
      if (decide (z_68 ≥ (F : Int)) && decide (z_68 < (T : Int))) = true then
      (idx L z_68).bind fun x_98 => (some (x_98.Cells, x_98.Wrap) : Option ((List G_api_Cell) × Bool))
      else (some (x_83, false) : Option ((List G_api_Cell) × Bool))
      else (some (L[i].Cells, L[i].Wrap) : Option ((List G_api_Cell) × Bool))) = some ((mvb W L F T m up i).Cells, (mvb W L F T m up i).Wrap) := by
     unfold mvb
     by_cases c1 : F ≤ i ∧ i < T
     ·rw [if_pos (by simp; omega), if_pos c1]
      cases up with
      | true =>
       rw [if_neg (by simp), if_pos rfl]
       simp only [bsm]
       rw [rep_eq _ (by omega), w64_in (by omega), show ((i : Int) + (m : Int)) = ((i + m : Nat) : Int) by simp]
       simp only [bsm]
       by_cases c2 : i + m < T
       ·rw [if_pos (by simp; omega), if_pos c2, idx_at (show i + m < L.length by omega), gdl (by omega)]
        rfl
       ·rw [if_neg (by simp; omega), if_neg c2, Int.toNat_natCast, hlw]
        rfl
      | false =>
       rw [if_pos (by simp), if_neg (by simp)]
       simp only [bsm]
       rw [rep_eq _ (by omega), w64_in (by omega)]
       simp only [bsm]
       by_cases c2 : F + m ≤ i
       ·rw [show ((i : Int) - (m : Int)) = ((i - m : Nat) : Int) by omega, if_pos (by simp; omega), if_pos c2, idx_at (show i - m < L.length by omega), gdl (by omega)]
        rfl
       ·rw [if_neg (by simp; omega), if_neg c2, Int.toNat_natCast, hlw]
        rfl
     ·rw [if_neg (by simp; omega), if_neg c1, gdl hi]
    rw [hz]
    simp only [bsm]
    have hy : (orE (((i + 1 : Nat) : Int) == (F : Int)) (some (!up && (((i + 1 : Nat) : Int) == (T : Int))))) = some (decide (i + 1 = F ∨ (up = false ∧ i + 1 = T))) := by
     rw [orE_some]
     congr 1
     rw [Bool.eq_iff_iff]
     simp only [Bool.or_eq_true, beq_iff_eq, Bool.and_eq_true, Bool.not_eq_true', decide_eq_true_eq, Int.ofNat_inj]
    rw [hy]
    simp only [bsm]
    have hx : ∀ y : Bool, (if decide (i + 1 = F ∨ (up = false ∧ i + 1 = T)) = true then (some false : Option Bool) else some y) = some (if i + 1 = F ∨ (up = false ∧ i + 1 = T) then false else y) := fun y => by
     by_cases c : i + 1 = F ∨ (up = false ∧ i + 1 = T)
     ·rw [if_pos (by simpa using c), if_pos c]
     ·rw [if_neg (by simpa using c), if_neg c]
    rw [hx]
    simp only [bsm]
    rw [app_eq (by simp; omega)]
    simp only [bsm]
    have hz3 : (⟨(mvb W L F T m up i).Cells, if i + 1 = F ∨ (up = false ∧ i + 1 = T) then false else (mvb W L F T m up i).Wrap⟩ : G_api_Line) = mvl W L F T m up i := by
     unfold mvl
     split <;> rfl
    rw [hz3, List.range_succ, List.map_append]
    rfl)
   (fun q e => ⟨_, by subst e; simp, rfl⟩)
   (by simp) (by omega)
  subst h2
  rw [h1]
  rfl
 ·rw [if_pos (by rw [Bool.or_eq_true, decide_eq_true_eq, decide_eq_true_eq]; omega), if_neg hc]
end Go.Proofs.YtfhhpdggmefcoaaGreatDoor
namespace Go.Proofs.YtfhhpdggmefcoaaGreatDoor
open Go Go.Lt
variable {s : Sto} {k : Nat} {l p : List G_api_Cell} {w : Bool}
theorem sca_replace (p : List Int) (hp : p.length ≤ 1000000) : f_scalar_Replace p = some (p.map fixv) := by
 unfold f_scalar_Replace
 rw [rep_eq _ (by omega), rep_eq _ (by omega)]
 simp only [bsm]
 obtain ⟨t, h1, h2⟩ := iter_for (σ := (List Int) × Int) (τ := List Int) (n := p.length) (fuel := ((p.length : Int) - 0).toNat + 1) (s := (List.replicate (0 : Int).toNat 0, 0))
  (fun i q => q = ((p.take i).map fixv, (i : Int))) (fun t => t = p.map fixv)
  (step := fun s_12 =>
 if (decide (s_12.2 < (p.length : Int))) = true then
 (idx p s_12.2).bind fun x_15 =>
 ((f_scalar_Valid x_15).bind fun x_21 =>
 if (!x_21) = true then
 (some (65533) : Option (Int))
 else
 (some (x_15) : Option (Int))).bind fun z_19 =>
 (app s_12.1 ([z_19] : List Int)).bind fun x_29 =>
 some (.inl (x_29, (w64 (s_12.2 + 1))))
 else
 some (.inr (s_12.1)))
  (fun i q hi e => by
   subst e
   refine .inl ⟨_, ?_, rfl⟩
   have e5 : w64 ((i : Int) + 1) = ((i + 1 : Nat) : Int) := by rw [w64_in (by omega)]; simp
   have hd : decide ((i : Int) < (p.length : Int)) = true := by simp; exact hi
   simp only [hd, if_true, idx_at hi, bsm, sca_valid, e5]
   have hz : (if (!vld p[i]) = true then (some (65533) : Option Int) else some p[i]) = some (fixv p[i]) := by
    unfold fixv
    cases vld p[i] <;> rfl
   rw [hz]
   simp only [bsm]
   rw [app_eq (by simp; omega)]
   simp only [bsm]
   rw [List.take_succ_eq_append_getElem hi, List.map_append]
   rfl)
  (fun q e => ⟨_, by subst e; simp, rfl⟩)
  rfl (by omega)
 subst h2
 rw [h1]
 rfl
theorem cell_of (wide : Int) (t : List Int) (ht : t.length ≤ 9223372036854775807) : f_cell_Of wide t = some (strip wide (fx t)) := by
 unfold f_cell_Of
 have hz : (if (decide (wide ≥ 2)) = true then (app ([(⟨0, ([] : List Int)⟩ : G_api_Cell)] : List G_api_Cell) ([(⟨0, ([] : List Int)⟩ : G_api_Cell)] : List G_api_Cell)).bind fun x_14 => (some (x_14) : Option ((List G_api_Cell))) else
   (some (([(⟨0, ([] : List Int)⟩ : G_api_Cell)] : List G_api_Cell)) : Option ((List G_api_Cell)))) = some (if 2 ≤ wide then [bl, bl] else [bl]) := by
  by_cases h : 2 ≤ wide
  ·rw [if_pos (by simpa using h), if_pos h, app_eq (by simp)]
   rfl
  ·rw [if_neg (by simpa using h), if_neg h]
   rfl
 rw [hz]
 simp only [bsm]
 unfold strip
 by_cases h0 : t = []
 ·subst h0
  rw [if_pos (show ((([] : List Int).length : Int) == 0) = true from rfl), if_pos (show fx [] = [] from rfl)]
  by_cases h : 2 ≤ wide
  ·rw [if_pos h, if_pos (show wide > 1 by omega)]
  ·rw [if_neg h, if_neg (show ¬ (wide > 1) by omega)]
 ·have hl : 0 < t.length := List.length_pos_iff.2 h0
  have hf : fx t ≠ [] := by
   have := fx_len' t
   intro h
   rw [h, List.length_nil] at this
   omega
  rw [if_neg (by rw [beq_iff_eq]; omega), if_neg hf, imin_eq, show (min (t.length : Int) 16) = ((min t.length 16 : Nat) : Int) by omega, show (0 : Int) = ((0 : Nat) : Int) from rfl, slc_eq (Nat.zero_le _) (Nat.min_le_left _ _)]
  simp only [bsm]
  rw [sca_replace _ (by simp; omega)]
  have ef : ((t.drop 0).take (min t.length 16 - 0)).map fixv = fx t := by
   unfold fx
   rw [List.drop_zero, Nat.sub_zero]
   congr 1
   rcases Nat.le_total t.length 16 with h | h
   ·rw [Nat.min_eq_left h, List.take_of_length_le (Nat.le_refl _), List.take_of_length_le h]
   ·rw [Nat.min_eq_right h]
  rw [ef]
  by_cases h : 2 ≤ wide
  ·rw [if_pos h, if_pos (show wide > 1 by omega), show decide (wide ≥ 2) = true by simpa using h]
   rfl
  ·rw [if_neg h, if_neg (show ¬ (wide > 1) by omega), show decide (wide ≥ 2) = false by simpa using h]
   rfl
theorem strip_len (wide : Int) (t : List Int) : 1 ≤ (strip wide t).length ∧ (strip wide t).length ≤ 2 := by
 unfold strip
 repeat' split
 all_goals simp
theorem snd_fx (wide : Int) (t : List Int) : Snd (strip wide (fx t)) := snd_strip wide (fx_vld t) (fx_len t)
theorem fx_id {t : List Int} (h : ∀ x ∈ t, vld x = true) (hl : t.length ≤ 16) : fx t = t := by
 unfold fx
 rw [List.take_of_length_le hl]
 conv => rhs; rw [← List.map_id t]
 refine List.map_congr_left fun x hx => ?_
 unfold fixv
 rw [if_pos (h x hx)]
 rfl
theorem mark_put (h : s.row_Row[k]? = some ⟨l, w⟩) (hs : Snd l) (hl : l.length ≤ 1024) {a : Nat} (wide : Int) {t : List Int} (ht : t.length ≤ 9223372036854775807) (ha : a + (strip wide (fx t)).length ≤ l.length) :
  f_mark_Put s (some k) a wide t = some (s.sr k ⟨pl l a (strip wide (fx t)), pw l w a (strip wide (fx t)).length⟩, Er.nil) := by
 unfold f_mark_Put
 rw [cell_of wide t ht]
 simp only [bsm]
 rw [row_paint h hs hl (snd_fx wide t) (strip_len wide _).1 ha]
 rfl
def mat (l : List G_api_Cell) (i : Int) : Option Nat := if 0 ≤ i ∧ i < l.length then (if kd l i.toNat = 0 then none else if kd l i.toNat = 3 then some (i.toNat - 1) else some i.toNat) else none
theorem row_cell_out (h : s.row_Row[k]? = some ⟨l, w⟩) {i : Int} (hi : ¬ (0 ≤ i ∧ i < l.length)) : f_row_Row_Cell s (some k) i = some (bl, false) := by
 unfold f_row_Row_Cell
 rw [row_wide h]
 simp only [bsm, orE_some]
 rw [if_pos (by simp; omega)]
 rfl
theorem kd_rgt (hs : Snd l) (j : Nat) : kd l j = 0 ∨ kd l j = 1 ∨ kd l j = 2 ∨ kd l j = 3 := by
 rcases Nat.lt_or_ge j l.length with h | h
 ·have := (hs j h).1
  unfold rgt at this
  rw [kd_at h]
  split at this
  ·omega
  ·simp only [Bool.and_eq_true, Bool.or_eq_true, decide_eq_true_eq] at this
   omega
 ·exact .inl (kd_out h)
theorem mark_at (h : s.row_Row[k]? = some ⟨l, w⟩) (hs : Snd l) (i : Int) (hi : -9223372036854775808 ≤ i ∧ i ≤ 9223372036854775807) :
  f_mark_At s (some k) i = some (match mat l i with | some j => ((j : Int), ⟨kd l j, (l.getD j bl).Text⟩, true) | none => (0, ⟨0, []⟩, false)) := by
 unfold f_mark_At mat
 by_cases hin : 0 ≤ i ∧ i < l.length
 ·obtain ⟨j, rfl⟩ : ∃ j : Nat, i = (j : Int) := ⟨i.toNat, by omega⟩
  have hj : j < l.length := by omega
  rw [if_pos hin, row_cell h hj hs.sht, Int.toNat_natCast]
  have hkd := kd_at hj
  have hgd : l.getD j bl = l[j] := by rw [List.getD_eq_getElem?_getD, List.getElem?_eq_getElem hj]; rfl
  simp only [bsm, andE_true]
  by_cases h3 : kd l j = 3
  ·obtain ⟨p1, p2⟩ := hs.three h3
   have hj2 : j - 1 < l.length := by omega
   have hkd2 := kd_at hj2
   rw [if_pos (by rw [beq_iff_eq, ← hkd]; exact h3), w64_in (by omega), show ((j : Int) - 1) = ((j - 1 : Nat) : Int) by omega, row_cell h hj2 hs.sht]
   simp only [bsm, andE_true]
   rw [if_neg (show ¬ kd l j = 0 by omega), if_pos h3, if_neg (by rw [beq_iff_eq, ← hkd2]; omega), if_pos (by rw [beq_iff_eq, ← hkd2]; exact p2)]
   simp only
   rw [p2, List.getD_eq_getElem?_getD, List.getElem?_eq_getElem hj2]
   rfl
  ·rw [if_neg (by rw [beq_iff_eq, ← hkd]; exact h3)]
   simp only [bsm, andE_true]
   rcases kd_rgt hs j with h0 | h1 | h2 | h4
   ·rw [if_neg (by rw [beq_iff_eq, ← hkd]; omega), if_neg (by rw [beq_iff_eq, ← hkd]; omega), if_pos h0]
   ·rw [if_pos (by rw [beq_iff_eq, ← hkd]; exact h1), if_neg (by omega), if_neg h3]
    simp only
    rw [h1, hgd]
   ·rw [if_neg (by rw [beq_iff_eq, ← hkd]; omega), if_pos (by rw [beq_iff_eq, ← hkd]; exact h2), if_neg (by omega), if_neg h3]
    simp only
    rw [h2, hgd]
   ·exact absurd h4 h3
 ·rw [if_neg hin, row_cell_out h hin]
  rfl
theorem wr_u64 (n : Int) : 0 ≤ IntKind.u64.wrap n ∧ IntKind.u64.wrap n < 18446744073709551616 := by
 simp only [IntKind.wrap, IntKind.signed, IntKind.bits, Bool.false_and, Bool.false_eq_true, if_false]
 omega
theorem pc_in {a j : Nat} (h : a ≤ j ∧ j < a + p.length) : pc l a p j = p.getD (j - a) bl := by unfold pc; rw [if_pos h]
theorem pc_out {a j : Nat} (h : ¬(a ≤ j ∧ j < a + p.length)) : pc l a p j = if tch l a p.length j = true then bl else l.getD j bl := by unfold pc; rw [if_neg h]
theorem w_mod (n : Int) (m : Nat) (hm : 1 ≤ m) (hm2 : m ≤ 1000) : ∃ W : Nat, w64 (1 + w64 ((IntKind.u64.wrap n).tmod m)) = (W : Int) ∧ 1 ≤ W ∧ W ≤ m := by
 have h := wr_u64 n
 obtain ⟨u, hu⟩ : ∃ u : Nat, IntKind.u64.wrap n = (u : Int) := ⟨(IntKind.u64.wrap n).toNat, by omega⟩
 rw [hu]
 have e : (u : Int).tmod (m : Int) = ((u % m : Nat) : Int) := by rw [Int.tmod_eq_emod_of_nonneg (by omega)]; rfl
 have hlt : u % m < m := Nat.mod_lt _ (by omega)
 refine ⟨1 + u % m, ?_, by omega, by omega⟩
 rw [e, w64_in (n := ((u % m : Nat) : Int)) (by omega), w64_in (by omega)]
 omega
end Go.Proofs.YtfhhpdggmefcoaaGreatDoor
namespace Go.Proofs.YtfhhpdggmefcoaaGreatDoor
open Go Go.Lt
variable {s C : Sto} {g k W : Nat} {ks : List Nat} {l p : List G_api_Cell} {w : Bool} {q : G_linotyperef34_Pen}
def Sto.sp (s : Sto) (k : Nat) (x : G_place_Pen) : Sto := { s with place_Pen := s.place_Pen.set k x }
theorem set_pen {x : G_place_Pen} (h : k < s.place_Pen.length) : s.set_place_Pen k x = some (s.sp k x) := by
 simp only [Sto.set_place_Pen, h, if_true]
 rfl
theorem sp_get {x : G_place_Pen} (h : k < s.place_Pen.length) : (s.sp k x).place_Pen[k]? = some x := by simp [Sto.sp, h]
theorem sp_sp (s : Sto) (k : Nat) (x y : G_place_Pen) : (s.sp k x).sp k y = s.sp k y := by simp [Sto.sp]
theorem Gw.sp (h : Gw s g ks W) (k : Nat) (x : G_place_Pen) : Gw (s.sp k x) g ks W := ⟨h.g, h.r, h.h1, h.h2, h.w1, h.w2⟩
def ownG (C : Sto) (k g : Nat) : Prop := ∃ x, C.place_Pen[k]? = some x ∧ x.G = some g
def ownR (C : Sto) (k r : Nat) : Prop := ∃ g y, ownG C k g ∧ C.grid_Grid[g]? = some y ∧ some r ∈ y.rows
structure Fr (C s : Sto) (k g : Nat) (ks : List Nat) : Prop where
 pl : C.place_Pen.length ≤ s.place_Pen.length
 gl : C.grid_Grid.length ≤ s.grid_Grid.length
 rl : C.row_Row.length ≤ s.row_Row.length
 pn : ∀ j, j < C.place_Pen.length → j ≠ k → s.place_Pen[j]? = C.place_Pen[j]?
 gr : ∀ j, j < C.grid_Grid.length → ¬ ownG C k j → s.grid_Grid[j]? = C.grid_Grid[j]?
 rw : ∀ j, j < C.row_Row.length → ¬ ownR C k j → s.row_Row[j]? = C.row_Row[j]?
 ng : ownG C k g ∨ C.grid_Grid.length ≤ g
 nr : ∀ r ∈ ks, ownR C k r ∨ C.row_Row.length ≤ r
theorem Fr.self {p : G_place_Pen} (h : s.place_Pen[k]? = some p) (hg : p.G = some g) (hk : s.grid_Grid[g]? = some ⟨ks.map some⟩) : Fr s s k g ks :=
 ⟨Nat.le_refl _, Nat.le_refl _, Nat.le_refl _, fun _ _ _ => rfl, fun _ _ _ => rfl, fun _ _ _ => rfl, .inl ⟨p, h, hg⟩, fun r hr => .inl ⟨g, _, ⟨p, h, hg⟩, hk, List.mem_map.2 ⟨r, hr, rfl⟩⟩⟩
theorem Fr.new (h1 : C.place_Pen.length ≤ s.place_Pen.length) (h2 : C.grid_Grid.length ≤ s.grid_Grid.length) (h3 : C.row_Row.length ≤ s.row_Row.length) (h4 : ∀ j, j < C.place_Pen.length → s.place_Pen[j]? = C.place_Pen[j]?)
  (h5 : ∀ j, j < C.grid_Grid.length → s.grid_Grid[j]? = C.grid_Grid[j]?) (h6 : ∀ j, j < C.row_Row.length → s.row_Row[j]? = C.row_Row[j]?) (h7 : C.grid_Grid.length ≤ g) (h8 : ∀ r ∈ ks, C.row_Row.length ≤ r) : Fr C s k g ks :=
 ⟨h1, h2, h3, fun j a _ => h4 j a, fun j a _ => h5 j a, fun j a _ => h6 j a, .inr h7, fun r hr => .inr (h8 r hr)⟩
theorem Fr.step {s' : Sto} {g' : Nat} {ks' : List Nat} (h : Fr C s k g ks) (f : Rf s s' g ks g' ks') (hp : s'.place_Pen = s.place_Pen) : Fr C s' k g' ks' := by
 refine ⟨by rw [hp]; exact h.pl, Nat.le_trans h.gl f.gl, Nat.le_trans h.rl f.rl, fun j a b => by rw [hp]; exact h.pn j a b, fun j a b => ?_, fun j a b => ?_, ?_, fun r hr => ?_⟩
 ·have := h.gl
  rw [f.gr j (by omega) ?_, h.gr j a b]
  rintro rfl
  rcases h.ng with q | q
  ·exact b q
  ·omega
 ·have := h.rl
  rw [f.rw j (by omega) ?_, h.rw j a b]
  intro hj
  rcases h.nr j hj with q | q
  ·exact b q
  ·omega
 ·rcases f.ng with rfl | q
  ·exact h.ng
  ·exact .inr (Nat.le_trans h.gl q)
 ·rcases f.nr r hr with q | q
  ·exact h.nr r q
  ·exact .inr (Nat.le_trans h.rl q)
theorem Fr.sp (h : Fr C s k g ks) (x : G_place_Pen) : Fr C (s.sp k x) k g ks :=
 ⟨by simp only [Sto.sp, List.length_set]; exact h.pl, h.gl, h.rl, fun j a b => by simp only [Sto.sp]; rw [List.getElem?_set_ne (Ne.symm b)]; exact h.pn j a b, h.gr, h.rw, h.ng, h.nr⟩
theorem Fr.sr (h : Fr C s k g ks) {i : Nat} (hi : i ∈ ks) (r : G_row_Row) : Fr C (s.sr i r) k g ks := by
 refine h.step (s' := s.sr i r) ⟨Nat.le_refl _, by simp [Sto.sr], fun _ _ _ => rfl, fun j _ b => ?_, .inl rfl, fun r hr => .inl hr⟩ rfl
 exact sr_ne (fun e => b (e ▸ hi))
theorem Fr.addp (h : Fr C s k g ks) (x : G_place_Pen) : Fr C (s.add_place_Pen x) k g ks :=
 ⟨by have := h.pl; simp only [Sto.add_place_Pen, List.length_append]; omega, h.gl, h.rl, fun j a b => by have := h.pl; simp only [Sto.add_place_Pen]; rw [List.getElem?_append_left (by omega)]; exact h.pn j a b, h.gr, h.rw, h.ng, h.nr⟩
structure Rgp (s s' : Sto) : Prop where
 r : s'.row_Row = s.row_Row
 g : s'.grid_Grid = s.grid_Grid
 p : s'.place_Pen = s.place_Pen
theorem Rgp.self (s : Sto) : Rgp s s := ⟨rfl, rfl, rfl⟩
theorem Rgp.symm {s s' : Sto} (h : Rgp s s') : Rgp s' s := ⟨h.r.symm, h.g.symm, h.p.symm⟩
theorem Rgp.ownG {s s' : Sto} (h : Rgp s s') (k g : Nat) : ownG s' k g ↔ ownG s k g := by unfold Go.Proofs.YtfhhpdggmefcoaaGreatDoor.ownG; rw [h.p]
theorem Rgp.ownR {s s' : Sto} (h : Rgp s s') (k r : Nat) : ownR s' k r ↔ ownR s k r := by unfold Go.Proofs.YtfhhpdggmefcoaaGreatDoor.ownR; rw [h.g]; simp only [h.ownG]
theorem Fr.rgp {C' s' : Sto} (h : Fr C s k g ks) (hC : Rgp C C') (hs : Rgp s s') : Fr C' s' k g ks := by
 refine ⟨by rw [hC.p, hs.p]; exact h.pl, by rw [hC.g, hs.g]; exact h.gl, by rw [hC.r, hs.r]; exact h.rl, ?_, ?_, ?_, ?_, ?_⟩
 ·rw [hC.p, hs.p]; exact h.pn
 ·rw [hC.g, hs.g]; simp only [hC.ownG]; exact h.gr
 ·rw [hC.r, hs.r]; simp only [hC.ownR]; exact h.rw
 ·rw [hC.g, hC.ownG]; exact h.ng
 ·rw [hC.r]; simp only [hC.ownR]; exact h.nr
theorem Fr.trans {B : Sto} {g0 : Nat} {ks0 : List Nat} (h : Fr B C k g0 ks0) (hg : ∀ j, ownG C k j → j = g0) (hr : ∀ j, ownR C k j → j ∈ ks0) (h' : Fr C s k g ks) : Fr B s k g ks := by
 have hl := h.gl
 have hl2 := h.rl
 have hl3 := h.pl
 refine ⟨Nat.le_trans h.pl h'.pl, Nat.le_trans h.gl h'.gl, Nat.le_trans h.rl h'.rl, fun j a b => ?_, fun j a b => ?_, fun j a b => ?_, ?_, fun r hr' => ?_⟩
 ·rw [h'.pn j (by omega) b, h.pn j a b]
 ·rw [h'.gr j (by omega) ?_, h.gr j a b]
  intro q
  obtain rfl := hg j q
  rcases h.ng with q | q
  ·exact b q
  ·omega
 ·rw [h'.rw j (by omega) ?_, h.rw j a b]
  intro q
  rcases h.nr j (hr j q) with q | q
  ·exact b q
  ·omega
 ·rcases h'.ng with q | q
  ·obtain rfl := hg g q; exact h.ng
  ·exact .inr (by omega)
 ·rcases h'.nr r hr' with q | q
  ·exact h.nr r (hr r q)
  ·exact .inr (by omega)
structure Pv (C s : Sto) (k g_ W : Nat) (q : G_linotyperef34_Pen) (ks : List Nat) : Prop where
 p : s.place_Pen[k]? = some ⟨some g_, q.At, q.Auto⟩
 g : Gw s g_ ks W
 nd : ks.Nodup
 l : ks.map (ln s) = q.L
 o : s.oth = C.oth
 f : Fr C s k g_ ks
theorem Pv.self (h : Pv C s k g W q ks) : Pv s s k g W q ks := ⟨h.p, h.g, h.nd, h.l, rfl, Fr.self h.p rfl h.g.g⟩
theorem Pv.oG (h : Pv C s k g W q ks) (j : Nat) (hj : ownG s k j) : j = g := by
 obtain ⟨x, h1, h2⟩ := hj
 rw [h.p] at h1
 cases h1
 exact (Option.some.inj h2).symm
theorem Pv.oR (h : Pv C s k g W q ks) (j : Nat) (hj : ownR s k j) : j ∈ ks := by
 obtain ⟨g', y, h1, h2, h3⟩ := hj
 obtain rfl := h.oG g' h1
 rw [h.g.g] at h2
 cases h2
 obtain ⟨r, h4, h5⟩ := List.mem_map.1 h3
 cases h5
 exact h4
theorem Pv.len (h : Pv C s k g W q ks) : q.L.length = ks.length := by rw [← h.l, List.length_map]
theorem Pv.ok (h : Pv C s k g W q ks) : ∀ x ∈ q.L, Okl W x := by rw [← h.l]; exact grid_lines_ok h.g
theorem Pv.at (h : Pv C s k g W q ks) {i : Nat} (hi : i < ks.length) : q.L[i]'(by rw [h.len]; exact hi) = ln s ks[i] := by
 have := h.l
 have e : q.L[i]? = (ks.map (ln s))[i]? := by rw [this]
 rw [List.getElem?_eq_getElem (by rw [h.len]; exact hi), List.getElem?_map, List.getElem?_eq_getElem hi] at e
 exact Option.some.inj e
theorem Pv.set (h : Pv C s k g W q ks) (c : G_api_Cursor) (a : Bool) : Pv C (s.sp k ⟨some g, c, a⟩) k g W ⟨q.L, c, a⟩ ks :=
 ⟨sp_get (get_lt h.p), h.g.sp _ _, h.nd, h.l, h.o, h.f.sp _⟩
theorem Pv.row (h : Pv C s k g W q ks) {i : Nat} (hi : i < ks.length) {r : G_row_Row} (hr : Snd r.cells) (hl : r.cells.length = W) : Pv C (s.sr ks[i] r) k g W ⟨q.L.set i ⟨r.cells, r.wrap⟩, q.At, q.Auto⟩ ks := by
 have hlt := (h.g.at hi).lt
 refine ⟨h.p, ⟨h.g.g, fun j hj => ?_, h.g.h1, h.g.h2, h.g.w1, h.g.w2⟩, h.nd, ?_, h.o, h.f.sr (List.getElem_mem hi) _⟩
 ·by_cases e : ks[i] = j
  ·subst e; exact ⟨r, sr_get hlt, hr, hl⟩
  ·obtain ⟨r0, h1, h2⟩ := h.g.r j hj
   exact ⟨r0, (sr_ne e).trans h1, h2⟩
 ·refine List.ext_getElem? fun j => ?_
  rw [List.getElem?_map, List.getElem?_set]
  rcases Nat.lt_or_ge j ks.length with hj | hj
  ·rw [List.getElem?_eq_getElem hj, Option.map_some]
   by_cases e : i = j
   ·subst e
    rw [if_pos rfl, if_pos (by rw [h.len]; exact hi), ln_eq (sr_get hlt)]
   ·have hne : ks[i] ≠ ks[j] := by
     rcases Nat.lt_or_gt_of_ne e with h1 | h1
     ·exact List.pairwise_iff_getElem.1 h.nd i j _ _ h1
     ·exact (List.pairwise_iff_getElem.1 h.nd j i _ _ h1).symm
    rw [if_neg e, List.getElem?_eq_getElem (by rw [h.len]; exact hj), h.at hj]
    unfold ln
    rw [sr_ne hne]
  ·rw [List.getElem?_eq_none hj, if_neg (by omega), List.getElem?_eq_none (by rw [h.len]; exact hj)]
   rfl
def hc (c : G_api_Cursor) (W h : Nat) : G_api_Cursor := ⟨max 0 (min c.Row ((h : Int) - 1)), max 0 (min c.Col ((W : Int) - 1)), c.Pending && (c.Col == (W : Int) - 1)⟩
theorem cur_side {n : Nat} (h1 : 1 ≤ n) (h2 : n ≤ 1024) : f_cursor_side n = some (n : Int) := by
 unfold f_cursor_side
 rw [imax_eq, imin_eq]
 congr 1
 omega
theorem ref_side {n : Nat} (h1 : 1 ≤ n) (h2 : n ≤ 1024) : f_linotyperef31_Side n = some (n : Int) := by
 unfold f_linotyperef31_Side
 rw [if_neg (by simp; omega), if_neg (by simp; omega)]
theorem cur_hold (c : G_api_Cursor) {W h : Nat} (w1 : 1 ≤ W) (w2 : W ≤ 1024) (h1 : 1 ≤ h) (h2 : h ≤ 1024) : f_cursor_Hold c W h = some (hc c W h) := by
 unfold f_cursor_Hold f_cursor_held
 rw [cur_side w1 w2, cur_side h1 h2]
 simp only [bsm, andE_some]
 rw [w64_in (by omega), w64_in (by omega), imax_eq, imin_eq, imax_eq, imin_eq]
 rfl
theorem ref_within (n : Int) {m : Nat} (h1 : 1 ≤ m) (h2 : m ≤ 1024) : f_linotyperef31_within n m = some (max 0 (min n ((m : Int) - 1))) := by
 unfold f_linotyperef31_within
 rw [w64_in (by omega)]
 by_cases a : n < 0
 ·rw [if_pos (by simpa using a)]
  congr 1
  omega
 ·rw [if_neg (by simpa using a)]
  by_cases b : (m : Int) ≤ n
  ·rw [if_pos (by simpa using b)]
   congr 1
   omega
  ·rw [if_neg (by simpa using b)]
   congr 1
   omega
theorem ref_hold (c : G_api_Cursor) {W h : Nat} (w1 : 1 ≤ W) (w2 : W ≤ 1024) (h1 : 1 ≤ h) (h2 : h ≤ 1024) : f_linotyperef31_Hold c W h = some (hc c W h) := by
 unfold f_linotyperef31_Hold
 rw [ref_side h1 h2, ref_side w1 w2]
 simp only [bsm, andE_some]
 rw [ref_within _ h1 h2, ref_within _ w1 w2, w64_in (by omega)]
 rfl
structure Hd (c : G_api_Cursor) (W h : Nat) : Prop where
 rr : 0 ≤ c.Row ∧ c.Row < (h : Int)
 cc : 0 ≤ c.Col ∧ c.Col < (W : Int)
 pp : c.Pending = true → c.Col = (W : Int) - 1
theorem hc_hd (c : G_api_Cursor) {W h : Nat} (w1 : 1 ≤ W) (h1 : 1 ≤ h) : Hd (hc c W h) W h := by
 refine ⟨by simp only [hc]; omega, by simp only [hc]; omega, fun hp => ?_⟩
 simp only [hc, Bool.and_eq_true, beq_iff_eq] at hp ⊢
 omega
theorem hc_id {c : G_api_Cursor} {W h : Nat} (hd : Hd c W h) : hc c W h = c := by
 obtain ⟨h1, h2, h3⟩ := hd
 obtain ⟨a, b, d⟩ := c
 simp only at h1 h2 h3
 unfold hc
 simp only [G_api_Cursor.mk.injEq]
 refine ⟨by omega, by omega, ?_⟩
 cases d with
 | false => rfl
 | true => rw [h3 rfl]; simp
theorem pen_ready (h : Pv C s k g W q ks) : f_place_Pen_ready s (some k) = some (s.sp k ⟨some g, hc q.At W ks.length, q.Auto⟩, true) := by
 unfold f_place_Pen_ready
 simp only [Option.isNone_some, orE_false, bsm, h.p, Bool.false_eq_true, if_false]
 rw [grid_wide h.g, grid_high h.g]
 simp only [bsm]
 rw [cur_hold _ h.g.w1 h.g.w2 h.g.h1 h.g.h2]
 simp only [bsm]
 rw [set_pen (get_lt h.p)]
 rfl
theorem ref_wide (h : Pv C s k g W q ks) : f_linotyperef34_Pen_Wide q = some (W : Int) := by
 have hl := h.len
 have h1 := h.g.h1
 have h0 : idx q.L (0 : Int) = some (q.L[0]'(by omega)) := idx_at (i := 0) (by omega)
 unfold f_linotyperef34_Pen_Wide
 rw [h0]
 simp only [bsm]
 rw [(h.ok _ (List.getElem_mem _)).2]
theorem ref_Hold (h : Pv C s k g W q ks) : f_linotyperef34_Pen_Hold q = some ⟨q.L, hc q.At W ks.length, q.Auto⟩ := by
 unfold f_linotyperef34_Pen_Hold
 rw [ref_wide h]
 simp only [bsm]
 rw [h.len, ref_hold _ h.g.w1 h.g.w2 h.g.h1 h.g.h2]
 rfl
theorem newline_eq (h : Pv C s k g W q ks) : ∃ s' q' ks', f_place_Pen_NewLine s (some k) = some s' ∧ f_linotyperef34_Pen_NewLine q = some q' ∧ Pv C s' k g W q' ks' ∧ ks'.length = ks.length ∧
  Hd q'.At W ks.length ∧ q'.At.Pending = false ∧ q'.At.Col = (hc q.At W ks.length).Col ∧ q'.Auto = q.Auto := by
 have h1 := h.set (hc q.At W ks.length) q.Auto
 have hd := hc_hd q.At h.g.w1 h.g.h1
 have hh := h.g.h2
 unfold f_place_Pen_NewLine f_linotyperef34_Pen_NewLine
 rw [pen_ready h, ref_Hold h]
 generalize hc q.At W ks.length = c at *
 simp only [bsm, Bool.not_true, Bool.false_eq_true, if_false]
 rw [h1.p]
 simp only [bsm]
 rw [grid_high h1.g]
 simp only [bsm]
 unfold f_cursor_Down
 rw [cur_side h.g.h1 h.g.h2]
 simp only [bsm]
 rw [w64_in (by omega), w64_in (by have := hd.rr; omega), h.len]
 have hr := hd.rr
 by_cases he : (ks.length : Int) - 1 ≤ c.Row
 ·rw [if_pos (by simpa using he), if_neg (by simp; omega)]
  have h2 := h1.set ⟨c.Row, c.Col, false⟩ q.Auto
  rw [sp_sp] at h2
  simp only [bsm]
  rw [set_pen (by rw [show (s.sp k ⟨some g, c, q.Auto⟩).place_Pen.length = s.place_Pen.length by simp [Sto.sp]]; exact get_lt h.p), sp_sp]
  simp only [bsm, if_true]
  rw [grid_high h2.g]
  simp only [bsm]
  obtain ⟨s', ks', u1, ⟨u2, u3, u4, u5⟩, u6, u7⟩ := up_eq2 h2.g h2.nd 0 (ks.length : Int) 1
  have hm := ref_move (W := W) (L := q.L) (by rw [h.len]; exact hh) h.g.w2 (fun x hx => (h.ok x hx).2) 0 (ks.length : Int) 1 true
  rw [h.len] at hm
  rw [u1, hm]
  refine ⟨s', _, ks', rfl, rfl, ⟨?_, u2, u3, ?_, (rst_oth u6).trans h2.o, h2.f.step u7 (rst_pen u6)⟩, u4, ⟨hr, hd.cc, fun e => by cases e⟩, rfl, rfl, rfl⟩
  ·rw [rst_pen u6]; exact h2.p
  ·rw [u5, h2.l]
 ·rw [if_neg (by simpa using he), if_pos (by simp; omega)]
  have h2 := h1.set ⟨c.Row + 1, c.Col, false⟩ q.Auto
  rw [sp_sp] at h2
  simp only [bsm]
  rw [set_pen (by rw [show (s.sp k ⟨some g, c, q.Auto⟩).place_Pen.length = s.place_Pen.length by simp [Sto.sp]]; exact get_lt h.p), sp_sp]
  simp only [bsm, Bool.false_eq_true, if_false]
  exact ⟨_, _, ks, rfl, rfl, h2, rfl, ⟨by simp only; omega, hd.cc, fun e => by cases e⟩, rfl, rfl, rfl⟩
theorem ref_with (h : Pv C s k g W q ks) {i : Nat} (hi : i < ks.length) (x : G_api_Line) : f_linotyperef34_Pen_With q i x = some ⟨q.L.set i x, q.At, q.Auto⟩ := by
 have hl := h.len
 have hh := h.g.h2
 unfold f_linotyperef34_Pen_With
 rw [app_eq (by simp; omega), List.nil_append]
 simp only [bsm]
 rw [idx_at (show i < q.L.length by omega), sets_nat (show i < q.L.length by omega)]
 rfl
theorem goon_eq (h : Pv C s k g W q ks) (hd : 0 ≤ q.At.Row ∧ q.At.Row < (ks.length : Int)) : ∃ s' q' ks', f_place_Pen_goOn s (some k) = some s' ∧ f_linotyperef34_Pen_GoOn q = some q' ∧ Pv C s' k g W q' ks' ∧ ks'.length = ks.length ∧
  Hd q'.At W ks.length ∧ q'.At.Pending = false ∧ q'.At.Col = 0 ∧ q'.Auto = q.Auto := by
 obtain ⟨i, hi⟩ : ∃ i : Nat, q.At.Row = (i : Int) := ⟨q.At.Row.toNat, by omega⟩
 have hik : i < ks.length := by omega
 have hl := h.len
 obtain ⟨r, r1, r2, r3⟩ := h.g.at hik
 have hrow := h.row hik (r := ⟨r.cells, true⟩) r2 r3
 have h2 := hrow.set ⟨q.At.Row, 0, false⟩ q.Auto
 have w1 := h.g.w1
 unfold f_place_Pen_goOn f_linotyperef34_Pen_GoOn
 simp only [bsm, h.p, hi]
 rw [grid_row h.g hik]
 simp only [bsm]
 rw [row_goon (l := r.cells) (w := r.wrap) r1]
 simp only [bsm]
 rw [hrow.p]
 simp only [bsm, f_cursor_Return]
 rw [set_pen (get_lt hrow.p)]
 simp only [bsm]
 rw [idx_at (show i < q.L.length by omega), h.at hik, ln_eq r1]
 simp only [bsm]
 rw [ref_with h hik]
 simp only [bsm, hi]
 obtain ⟨s', q', ks', n1, n2, n3, n4, n5, n6, n7, n8⟩ := newline_eq h2
 rw [hi] at n1 n2
 rw [n1, n2]
 refine ⟨s', q', ks', rfl, rfl, n3, n4, n5, n6, ?_, n8⟩
 rw [n7]
 simp only [hc]
 omega
theorem paint_eq (h : Pv C s k g W q ks) {i a : Nat} (hi : i < ks.length) (hp : Snd p) (hn : 1 ≤ p.length) (ha : a + p.length ≤ W) : ∃ s' q', f_row_Row_Paint s (some ks[i]) a p = some (s', Er.nil) ∧ f_linotyperef34_Pen_Paint q i a p = some q' ∧
  Pv C s' k g W q' ks ∧ q'.At = q.At ∧ q'.Auto = q.Auto ∧ q'.L = q.L.set i ⟨pl (ln s ks[i]).Cells a p, pw (ln s ks[i]).Cells (ln s ks[i]).Wrap a p.length⟩ := by
 obtain ⟨r, r1, r2, r3⟩ := h.g.at hi
 have w2 := h.g.w2
 have hl := h.len
 have hrow := h.row hi (r := ⟨pl r.cells a p, pw r.cells r.wrap a p.length⟩) (r2.paint hp (by rw [r3]; exact ha)) (by rw [pl_len]; exact r3)
 refine ⟨_, _, row_paint (l := r.cells) (w := r.wrap) r1 r2 (by omega) hp hn (by omega), ?_, hrow, rfl, rfl, by rw [ln_eq r1]⟩
 unfold f_linotyperef34_Pen_Paint
 rw [idx_at (show i < q.L.length by omega), h.at hi, ln_eq r1]
 simp only [bsm]
 rw [ref_paint _ _ _ _ (by omega) (by omega) (by omega)]
 simp only [bsm]
 rw [ref_with h hi]
 rfl
end Go.Proofs.YtfhhpdggmefcoaaGreatDoor
namespace Go.Proofs.YtfhhpdggmefcoaaGreatDoor
open Go Go.Lt
def ca (c : G_api_Cursor) (d W : Nat) (au : Bool) : G_api_Cursor := if c.Col < (W : Int) - d then ⟨c.Row, c.Col + d, false⟩ else ⟨c.Row, (W : Int) - 1, au⟩
theorem cur_after (c : G_api_Cursor) {d W : Nat} (hd : d = 1 ∨ d = 2) (w1 : 1 ≤ W) (w2 : W ≤ 1024) (hc : 0 ≤ c.Col ∧ c.Col < (W : Int)) (au : Bool) : f_cursor_After c d W au = some (ca c d W au) := by
 unfold f_cursor_After ca
 rw [cur_side w1 w2]
 simp only [bsm, imax_eq, imin_eq]
 rw [show max (1 : Int) (min (d : Int) 2) = (d : Int) by omega, w64_in (by omega), w64_in (by omega), w64_in (by omega)]
 by_cases h : c.Col < (W : Int) - d
 ·rw [if_pos (by simpa using h), if_pos h]
 ·rw [if_neg (by simpa using h), if_neg h]
theorem ref_after (c : G_api_Cursor) {d W : Nat} (hd : d = 1 ∨ d = 2) (w1 : 1 ≤ W) (w2 : W ≤ 1024) (hc : 0 ≤ c.Col ∧ c.Col < (W : Int)) (au : Bool) : f_linotyperef31_After c d W au = some (ca c d W au) := by
 unfold f_linotyperef31_After ca
 have hz : (if decide ((d : Int) > 1) = true then (some 2 : Option Int) else some 1) = some (d : Int) := by
  rcases hd with rfl | rfl <;> rfl
 rw [hz]
 simp only [bsm]
 rw [ref_side w1 w2]
 simp only [bsm]
 rw [w64_in (by omega), w64_in (by omega), w64_in (by omega)]
 by_cases h : c.Col < (W : Int) - d
 ·rw [if_neg (by simp; omega), if_pos h]
 ·rw [if_pos (by simp; omega), if_neg h]
variable {s C : Sto} {g k W : Nat} {ks : List Nat} {q : G_linotyperef34_Pen}
theorem ca_hd {c : G_api_Cursor} {d h : Nat} (hd : d = 1 ∨ d = 2) (w1 : 1 ≤ W) (hc : 0 ≤ c.Col ∧ c.Col < (W : Int)) (hr : 0 ≤ c.Row ∧ c.Row < (h : Int)) (au : Bool) : Hd (ca c d W au) W h := by
 unfold ca
 by_cases h : c.Col < (W : Int) - d
 ·rw [if_pos h]
  exact ⟨hr, by simp only; omega, fun e => by cases e⟩
 ·rw [if_neg h]
  exact ⟨hr, by simp only; omega, fun _ => rfl⟩
theorem strip_d (d : Nat) (hd : d = 1 ∨ d = 2) (t : List Int) : (strip (d : Int) t).length = d := by
 unfold strip
 rcases hd with rfl | rfl <;> (repeat' split) <;> first | rfl | (exfalso; omega)
def fld (q : G_linotyperef34_Pen) : (List G_api_Line) × Int × Int × Bool × Bool := (q.L, q.At.Row, q.At.Col, q.At.Pending, q.Auto)
def rp1 (q : G_linotyperef34_Pen) : Option ((List G_api_Line) × Int × Int × Bool × Bool) :=
 if q.At.Pending = true then
 (f_linotyperef34_Pen_GoOn q).bind fun x_34 =>
 (some (x_34.L, x_34.At.Row, x_34.At.Col, x_34.At.Pending, x_34.Auto) : Option ((List G_api_Line) × Int × Int × Bool × Bool))
 else
 (some (q.L, q.At.Row, q.At.Col, q.At.Pending, q.Auto) : Option ((List G_api_Line) × Int × Int × Bool × Bool))
def rp2 (d W : Int) (z_28 : (List G_api_Line) × Int × Int × Bool × Bool) : Option ((List G_api_Line) × Int × Int × Bool × Bool) :=
 (andE (d == 2) (some (z_28.2.2.1 == (w64 (W - 1))))).bind fun d_40 =>
 if d_40 = true then
 if z_28.2.2.2.2 = true then
 (rep 1 (⟨0, ([] : List Int)⟩ : G_api_Cell)).bind fun x_58 =>
 (f_linotyperef34_Pen_Paint (⟨z_28.1, (⟨z_28.2.1, z_28.2.2.1, z_28.2.2.2.1⟩ : G_api_Cursor), z_28.2.2.2.2⟩ : G_linotyperef34_Pen) z_28.2.1 (w64 (W - 1)) x_58).bind fun x_59 =>
 (f_linotyperef34_Pen_GoOn x_59).bind fun x_60 =>
 (some (x_60.L, x_60.At.Row, x_60.At.Col, x_60.At.Pending, x_60.Auto) : Option ((List G_api_Line) × Int × Int × Bool × Bool))
 else
 (some (z_28.1, z_28.2.1, (w64 (W - 2)), z_28.2.2.2.1, z_28.2.2.2.2) : Option ((List G_api_Line) × Int × Int × Bool × Bool))
 else
 (some (z_28.1, z_28.2.1, z_28.2.2.1, z_28.2.2.2.1, z_28.2.2.2.2) : Option ((List G_api_Line) × Int × Int × Bool × Bool))
def cp1 (s : Sto) (p0 : Option Nat) : Option Sto :=
 (p0).bind fun k_3 =>
 (s.place_Pen[k_3]?).bind fun o_6 =>
 if o_6.At.Pending = true then
 (f_place_Pen_goOn s p0).bind fun x_9 =>
 (some (x_9) : Option (Sto))
 else
 (some (s) : Option (Sto))
theorem room1 (h : Pv C s k g W q ks) (hd : Hd q.At W ks.length) : ∃ s' q' ks', cp1 s (some k) = some s' ∧ rp1 q = some (fld q') ∧ Pv C s' k g W q' ks' ∧ ks'.length = ks.length ∧ Hd q'.At W ks.length ∧ q'.Auto = q.Auto ∧ q'.At.Pending = false := by
 unfold cp1 rp1
 simp only [bsm, h.p]
 cases hp : q.At.Pending with
 | false =>
  simp only [Bool.false_eq_true, if_false]
  exact ⟨s, q, ks, rfl, by unfold fld; rw [hp], h, rfl, hd, rfl, hp⟩
 | true =>
  simp only [if_true]
  obtain ⟨s', q', ks', a1, a2, a3, a4, a5, a6, a7, a8⟩ := goon_eq h hd.rr
  rw [a1, a2]
  exact ⟨s', q', ks', rfl, rfl, a3, a4, a5, a8, a6⟩
theorem room_eq (h : Pv C s k g W q ks) (hd : Hd q.At W ks.length) {d : Nat} (hdd : d = 1 ∨ d = 2) (hdw : d ≤ W) :
  ∃ s' q' ks' z, f_place_Pen_room s (some k) d = some s' ∧ rp1 q = some z ∧ rp2 d W z = some (fld q') ∧ Pv C s' k g W q' ks' ∧ ks'.length = ks.length ∧ (0 ≤ q'.At.Row ∧ q'.At.Row < (ks.length : Int)) ∧ (0 ≤ q'.At.Col ∧ q'.At.Col + d ≤ (W : Int)) ∧ q'.Auto = q.Auto := by
 obtain ⟨s1, q1, ks1, a1, a2, v1, n1, hd1, au1, pe1⟩ := room1 h hd
 have w1 := h.g.w1
 have w2 := h.g.w2
 have hcc := hd1.cc
 unfold f_place_Pen_room
 change ∃ s' q' ks' z, ((cp1 s (some k)).bind _) = some s' ∧ _
 rw [a1]
 simp only [bsm, v1.p]
 rw [grid_wide v1.g]
 simp only [bsm, orE_some]
 have e1 : w64 ((W : Int) - 1) = ((W - 1 : Nat) : Int) := by rw [w64_in (by omega)]; omega
 have e2 : w64 ((W : Int) - 2) = (W : Int) - 2 := w64_in (by omega)
 rw [e1]
 unfold rp2
 by_cases hA : d = 1 ∨ q1.At.Col < (W : Int) - 1
 ·rw [if_pos (by simp only [Bool.or_eq_true, beq_iff_eq, decide_eq_true_eq]; omega)]
  refine ⟨s1, q1, ks1, _, rfl, a2, ?_, v1, n1, hd1.rr, by omega, au1⟩
  simp only [fld, andE_some, bsm, e1]
  rw [if_neg (by simp only [Bool.and_eq_true, beq_iff_eq]; omega)]
 ·rw [if_neg (by simp only [Bool.or_eq_true, beq_iff_eq, decide_eq_true_eq]; omega)]
  have hd2 : d = 2 := by omega
  have hcol : q1.At.Col = (W : Int) - 1 := by omega
  obtain ⟨i, hi⟩ : ∃ i : Nat, q1.At.Row = (i : Int) := ⟨q1.At.Row.toNat, by have := hd1.rr; omega⟩
  have hik : i < ks1.length := by have := hd1.rr; omega
  cases hau : q1.Auto with
  | true =>
   simp only [if_true]
   rw [hi, grid_row v1.g hik]
   simp only [bsm]
   rw [show f_cell_Blanks 1 = some [bl] from blanks 1]
   simp only [bsm]
   obtain ⟨s2, q2, b1, b2, v2, at2, au2, _⟩ := paint_eq (p := [bl]) (a := W - 1) v1 hik (snd_bl 1) (by decide) (by simp; omega)
   rw [b1]
   simp only [bsm]
   obtain ⟨s3, q3, ks3, c1, c2, v3, n3, hd3, pe3, co3, au3⟩ := goon_eq v2 (by rw [at2, n1]; exact hd1.rr)
   rw [c1]
   refine ⟨s3, q3, ks3, _, rfl, a2, ?_, v3, n3.trans n1, by rw [← n1]; exact hd3.rr, by rw [co3]; omega, by rw [au3, au2, au1]⟩
   simp only [fld, andE_some, bsm, e1]
   rw [if_pos (by simp only [Bool.and_eq_true, beq_iff_eq]; omega)]
   simp only [hau, if_true]
   rw [rep_eq _ (by decide), hi]
   simp only [bsm]
   rw [show (List.replicate (1 : Int).toNat (⟨0, []⟩ : G_api_Cell)) = [bl] from rfl]
   have b2' : f_linotyperef34_Pen_Paint ⟨q1.L, ⟨(i : Int), q1.At.Col, q1.At.Pending⟩, true⟩ i ((W - 1 : Nat) : Int) [bl] = some q2 := by rw [← hi, ← hau]; rw [← hi] at b2; exact b2
   rw [b2']
   simp only [bsm]
   rw [c2]
   rfl
  | false =>
   simp only [Bool.false_eq_true, if_false]
   rw [set_pen (get_lt v1.p)]
   simp only [bsm]
   have e3 : w64 (q1.At.Col - 1) = (W : Int) - 2 := by rw [w64_in (by omega)]; omega
   have v2 := v1.set ⟨q1.At.Row, (W : Int) - 2, q1.At.Pending⟩ q1.Auto
   rw [hau] at v2
   rw [e3]
   refine ⟨_, _, ks1, _, rfl, a2, ?_, v2, n1, hd1.rr, by simp only; omega, by simp only; rw [← hau]; exact au1⟩
   simp only [fld, andE_some, bsm, e1, e2]
   rw [if_pos (by simp only [Bool.and_eq_true, beq_iff_eq]; omega)]
   simp only [hau, Bool.false_eq_true, if_false]
def cl2 (p1 : Int) (t : List Int) (W : Nat) : Nat × List Int := if max 1 (min p1 2) > (W : Int) then (1, [65533]) else ((max 1 (min p1 2)).toNat, t)
theorem cl2_d (p1 : Int) (t : List Int) (w1 : 1 ≤ W) : ((cl2 p1 t W).1 = 1 ∨ (cl2 p1 t W).1 = 2) ∧ (cl2 p1 t W).1 ≤ W := by
 unfold cl2
 split
 ·exact ⟨.inl rfl, w1⟩
 ·simp only
  omega
theorem cl2_eq (p1 : Int) (t : List Int) : (if (decide ((imax 1 (imin p1 2)) > (W : Int))) = true then (some (1, ([65533] : List Int)) : Option (Int × (List Int))) else (some ((imax 1 (imin p1 2)), t) : Option (Int × (List Int)))) = some (((cl2 p1 t W).1 : Int), (cl2 p1 t W).2) := by
 rw [imin_eq, imax_eq]
 unfold cl2
 by_cases h : max 1 (min p1 2) > (W : Int)
 ·rw [if_pos (by simpa using h), if_pos h]
  rfl
 ·rw [if_neg (by simpa using h), if_neg h]
  simp only
  rw [Int.toNat_of_nonneg (by omega)]
theorem put_eq (h : Pv C s k g W q ks) (p1 : Int) (t : List Int) (ht : t.length ≤ 1000000) : ∃ (s' : Sto) (q' : G_linotyperef34_Pen) (ks' : List Nat) (i a : Nat), i < ks.length ∧ f_place_Pen_Put s (some k) p1 t = some (s', ⟨(i : Int), (a : Int), false⟩) ∧ f_linotyperef34_Pen_Put q p1 t = some (q', ⟨(i : Int), (a : Int), false⟩) ∧
  Pv C s' k g W q' ks' ∧ ks'.length = ks.length ∧ Hd q'.At W ks.length ∧ q'.Auto = q.Auto ∧ a + (cl2 p1 t W).1 ≤ W ∧
  ∃ l0 w0, l0.length = W ∧ q'.L[i]? = some ⟨pl l0 a (strip (cl2 p1 t W).1 (fx (cl2 p1 t W).2)), w0⟩ := by
 have hl : (cl2 p1 t W).2.length ≤ 1000000 := by unfold cl2; split <;> simp; exact ht
 obtain ⟨hdd, hdw⟩ := cl2_d p1 t h.g.w1
 have hce := cl2_eq (W := W) p1 t
 have w1 := h.g.w1
 have w2 := h.g.w2
 have h1 := h.set (hc q.At W ks.length) q.Auto
 have hd := hc_hd q.At h.g.w1 h.g.h1
 unfold f_place_Pen_Put f_linotyperef34_Pen_Put
 rw [pen_ready h, ref_Hold h]
 generalize hc q.At W ks.length = c at *
 simp only [bsm, Bool.not_true, Bool.false_eq_true, if_false, h1.p]
 rw [grid_wide h1.g, ref_wide h1]
 simp only [bsm]
 rw [hce]
 generalize (cl2 p1 t W).2 = t2 at *
 generalize (cl2 p1 t W).1 = d at *
 simp only [bsm]
 obtain ⟨s2, q2, ks2, z, a1, a2, a3, v2, n2, hr, hcl, au⟩ := room_eq h1 hd hdd hdw
 rw [a1]
 obtain ⟨i, hi⟩ : ∃ i : Nat, q2.At.Row = (i : Int) := ⟨q2.At.Row.toNat, by omega⟩
 obtain ⟨a, ha⟩ : ∃ a : Nat, q2.At.Col = (a : Int) := ⟨q2.At.Col.toNat, by omega⟩
 have hik : i < ks2.length := by omega
 obtain ⟨L2, ⟨row2, col2, pd2⟩, ua2⟩ := q2
 simp only at hi ha hr hcl au
 subst hi ha
 simp only [bsm, v2.p]
 rw [grid_row v2.g hik]
 simp only [bsm]
 unfold f_mark_Put
 rw [cell_of _ _ (by omega)]
 simp only [bsm]
 have hsl := strip_d d hdd (fx t2)
 obtain ⟨s3, q3, b1, b2, v3, at3, au3, l3⟩ := paint_eq (p := strip d (fx t2)) (a := a) v2 hik (snd_fx _ _) (by rw [hsl]; omega) (by rw [hsl]; omega)
 rw [b1]
 simp only [bsm, v3.p]
 rw [grid_wide v3.g]
 simp only [bsm]
 have hc2 : 0 ≤ (⟨(i : Int), (a : Int), false⟩ : G_api_Cursor).Col ∧ (⟨(i : Int), (a : Int), false⟩ : G_api_Cursor).Col < (W : Int) := by simp only; omega
 rw [cur_after _ hdd w1 w2 hc2]
 simp only [bsm]
 rw [set_pen (get_lt v3.p)]
 simp only [bsm]
 have v4 := v3.set (ca ⟨(i : Int), (a : Int), false⟩ d W q3.Auto) q3.Auto
 change ∃ s' q' ks' i_1 a_1, _ ∧ _ ∧ ((rp1 ⟨q.L, c, q.Auto⟩).bind fun z_28 => (rp2 d W z_28).bind _) = _ ∧ _
 rw [a2]
 simp only [bsm]
 rw [a3]
 simp only [fld, bsm]
 rw [ref_of _ _ (by omega)]
 simp only [bsm]
 rw [b2]
 simp only [bsm]
 rw [ref_after _ hdd w1 w2 hc2]
 simp only [bsm]
 refine ⟨_, _, ks2, i, a, by omega, rfl, rfl, v4, n2, ca_hd hdd w1 hc2 (by simp only; omega) _, by simp only; rw [au3, au], by omega, (ln s2 ks2[i]).Cells, pw (ln s2 ks2[i]).Cells (ln s2 ks2[i]).Wrap a (strip d (fx t2)).length, ?_, ?_⟩
 ·have := v2.ok _ (List.getElem_mem (show i < L2.length by have := v2.len; simp only at this; omega))
  rw [v2.at hik] at this
  exact this.2
 ·simp only
  rw [l3, List.getElem?_set_self (by have := v2.len; simp only at this ⊢; omega)]
end Go.Proofs.YtfhhpdggmefcoaaGreatDoor
namespace Go.Proofs.YtfhhpdggmefcoaaGreatDoor
open Go Go.Lt
variable {s : Sto} {k g W : Nat} {l p p' : List G_api_Cell} {w : Bool} {q : G_linotyperef34_Pen} {ks : List Nat}
theorem tch_iff (l : List G_api_Cell) (a n j : Nat) : tch l a n j = true ↔ (a ≤ j ∧ j < a + n) ∨ (kd l j = 2 ∧ a ≤ j + 1 ∧ j + 1 < a + n) ∨ (kd l j = 3 ∧ a + 1 ≤ j ∧ j < a + n + 1) := by
 simp only [tch, Bool.or_eq_true, Bool.and_eq_true, decide_eq_true_eq]
 omega
theorem pc_off {c j : Nat} (h : ¬ (c ≤ j ∧ j < c + p.length)) : pc l c p j = if (kd l j = 2 ∧ j + 1 = c ∧ 0 < p.length) ∨ (kd l j = 3 ∧ j = c + p.length ∧ 0 < p.length) then bl else l.getD j bl := by
 rw [pc_out h]
 by_cases ht : tch l c p.length j = true
 ·rw [if_pos ht, if_pos]
  rw [tch_iff] at ht
  omega
 ·rw [if_neg ht, if_neg]
  rw [tch_iff] at ht
  omega
theorem kd_off {c j : Nat} (hj : j < l.length) (h : ¬ (c ≤ j ∧ j < c + p.length)) : kd (pl l c p) j = if (kd l j = 2 ∧ j + 1 = c ∧ 0 < p.length) ∨ (kd l j = 3 ∧ j = c + p.length ∧ 0 < p.length) then 0 else kd l j := by
 rw [kd_pl hj, pc_off h]
 split
 ·rfl
 ·exact kd_getD l j
theorem pl_over {a c : Nat} (h1 : a ≤ c) (h2 : c + p.length ≤ a + p'.length) (h3 : a + p'.length ≤ l.length) : pl (pl l c p) a p' = pl l a p' := by
 apply List.ext_getElem?
 intro j
 rcases Nat.lt_or_ge j l.length with hj | hj
 ·rw [pl_get (by rw [pl_len]; exact hj), pl_get hj]
  congr 1
  by_cases hi : a ≤ j ∧ j < a + p'.length
  ·rw [pc_in hi, pc_in hi]
  ·have hc : ¬ (c ≤ j ∧ j < c + p.length) := by omega
   have hg : (pl l c p).getD j bl = pc l c p j := by rw [List.getD_eq_getElem?_getD, pl_get hj]; rfl
   rw [pc_off hi, pc_off hi, kd_off hj hc, hg, pc_off hc]
   by_cases hA : (kd l j = 2 ∧ j + 1 = c ∧ 0 < p.length) ∨ (kd l j = 3 ∧ j = c + p.length ∧ 0 < p.length)
   ·rw [if_pos hA, if_pos hA, if_neg (by omega), if_pos (by omega)]
   ·rw [if_neg hA, if_neg hA]
 ·rw [List.getElem?_eq_none (by rw [pl_len, pl_len]; exact hj), List.getElem?_eq_none (by rw [pl_len]; exact hj)]
theorem pw_over {a c : Nat} (h1 : a ≤ c) (h2 : c + p.length ≤ a + p'.length) (h3 : a + p'.length ≤ l.length) : pw (pl l c p) (pw l w c p.length) a p'.length = pw l w a p'.length := by
 unfold pw
 rw [pl_len]
 by_cases hl : 0 < l.length
 ·have e : (tch l c p.length (l.length - 1) || tch (pl l c p) a p'.length (l.length - 1)) = tch l a p'.length (l.length - 1) := by
   rw [Bool.eq_iff_iff, Bool.or_eq_true, tch_iff, tch_iff, tch_iff]
   by_cases hc : c ≤ l.length - 1 ∧ l.length - 1 < c + p.length
   ·omega
   ·rw [kd_off (by omega) hc]
    split <;> omega
  rw [show decide (0 < l.length) = true by simpa using hl, Bool.true_and, Bool.true_and, Bool.and_assoc, ← Bool.not_or, e, Bool.true_and]
 ·rw [show decide (0 < l.length) = false by simpa using hl]
  simp
end Go.Proofs.YtfhhpdggmefcoaaGreatDoor
namespace Go.Proofs.YtfhhpdggmefcoaaGreatDoor
open Go Go.Lt
variable {s C : Sto} {k g W : Nat} {l p p' : List G_api_Cell} {w : Bool} {q : G_linotyperef34_Pen} {ks : List Nat}
def rdy (q : G_linotyperef34_Pen) (W H d : Nat) : Option ((List G_api_Line) × Int × Int × Bool × Bool) := (rp1 ⟨q.L, hc q.At W H, q.Auto⟩).bind (rp2 d W)
def putq (L : List G_api_Line) (i a d W : Nat) (au : Bool) (t : List Int) : G_linotyperef34_Pen :=
 ⟨L.set i ⟨pl (L.getD i dl).Cells a (strip d (fx t)), pw (L.getD i dl).Cells (L.getD i dl).Wrap a d⟩, ca ⟨(i : Int), (a : Int), false⟩ d W au, au⟩
theorem ref_paint_at {L : List G_api_Line} {c : G_api_Cursor} {au : Bool} {i a : Nat} (hi : i < L.length) (hL : L.length ≤ 1024) (hw : (L.getD i dl).Cells.length ≤ 1024) (hp : p.length ≤ 1000000) (ha : a ≤ 1000000) :
  f_linotyperef34_Pen_Paint ⟨L, c, au⟩ i a p = some ⟨L.set i ⟨pl (L.getD i dl).Cells a p, pw (L.getD i dl).Cells (L.getD i dl).Wrap a p.length⟩, c, au⟩ := by
 unfold f_linotyperef34_Pen_Paint f_linotyperef34_Pen_With
 simp only [gdl hi] at hw ⊢
 simp only [idx_at hi, bsm]
 rw [ref_paint _ _ _ _ (by omega) ha hp]
 simp only [bsm]
 rw [app_eq (by simp; omega), List.nil_append]
 simp only [bsm]
 rw [idx_at hi, sets_nat hi]
 rfl
theorem put_of_room {L2 : List G_api_Line} {i a d : Nat} {pd au : Bool} (hdd : d = 1 ∨ d = 2) (h : Pv C s k g W q ks) (hr : rdy q W ks.length d = some (L2, (i : Int), (a : Int), pd, au)) (hi : i < ks.length) (ha : a + d ≤ W) (hL : L2.length = ks.length) (hok : ∀ x ∈ L2, Okl W x) (p1 : Int) (t : List Int) (ht : t.length ≤ 1000000)
  (hcl : (cl2 p1 t W).1 = d) : f_linotyperef34_Pen_Put q p1 t = some (putq L2 i a d W au (cl2 p1 t W).2, ⟨(i : Int), (a : Int), false⟩) := by
 have hl : (cl2 p1 t W).2.length ≤ 1000000 := by unfold cl2; split <;> simp; exact ht
 have hce := cl2_eq (W := W) p1 t
 have w1 := h.g.w1
 have w2 := h.g.w2
 have h1 := h.set (hc q.At W ks.length) q.Auto
 have h2 := h.g.h2
 unfold f_linotyperef34_Pen_Put
 rw [ref_Hold h]
 unfold rdy at hr
 generalize hc q.At W ks.length = c at *
 simp only [bsm]
 rw [ref_wide h1]
 simp only [bsm]
 rw [hce, hcl]
 generalize (cl2 p1 t W).2 = t2 at *
 simp only [bsm]
 have hsl := strip_d d hdd (fx t2)
 have hc2 : 0 ≤ (⟨(i : Int), (a : Int), false⟩ : G_api_Cursor).Col ∧ (⟨(i : Int), (a : Int), false⟩ : G_api_Cursor).Col < (W : Int) := by simp only; omega
 obtain ⟨z, hz1, hz2⟩ := bs hr
 change ((rp1 ⟨q.L, c, q.Auto⟩).bind fun z_28 => (rp2 d W z_28).bind _) = _
 rw [hz1]
 simp only [bsm]
 rw [hz2]
 simp only [bsm]
 rw [ref_of _ _ (by omega)]
 simp only [bsm]
 have hlt : i < L2.length := by omega
 have hcells : (L2.getD i dl).Cells.length = W := by
  rw [gdl hlt]
  exact (hok _ (List.getElem_mem hlt)).2
 rw [ref_paint_at hlt (by omega) (by omega) (by omega) (by omega)]
 simp only [bsm]
 rw [ref_after _ hdd w1 w2 hc2]
 simp only [bsm, putq, hsl]
theorem rdy_ok (h : Pv C s k g W q ks) {d : Nat} (hdd : d = 1 ∨ d = 2) (hdw : d ≤ W) : ∃ L2 i a pd, rdy q W ks.length d = some (L2, ((i : Nat) : Int), ((a : Nat) : Int), pd, q.Auto) ∧ i < ks.length ∧ a + d ≤ W ∧ L2.length = ks.length ∧ (∀ x ∈ L2, Okl W x) := by
 have h1 := h.set (hc q.At W ks.length) q.Auto
 have hd := hc_hd q.At h.g.w1 h.g.h1
 obtain ⟨s2, q2, ks2, z, _, a2, a3, v2, n2, hr, hcl, au⟩ := room_eq h1 hd hdd hdw
 obtain ⟨i, hi⟩ : ∃ i : Nat, q2.At.Row = (i : Int) := ⟨q2.At.Row.toNat, by omega⟩
 obtain ⟨a, ha⟩ : ∃ a : Nat, q2.At.Col = (a : Int) := ⟨q2.At.Col.toNat, by omega⟩
 refine ⟨q2.L, i, a, q2.At.Pending, ?_, by omega, by omega, by rw [v2.len, n2], v2.ok⟩
 unfold rdy
 rw [a2]
 simp only [bsm]
 rw [a3]
 simp only [fld, hi, ha, au]
theorem rdy_one (h : Pv C s k g W q ks) : ∃ L1 i c, rp1 ⟨q.L, hc q.At W ks.length, q.Auto⟩ = some (L1, ((i : Nat) : Int), ((c : Nat) : Int), false, q.Auto) ∧ i < ks.length ∧ c + 1 ≤ W ∧ L1.length = ks.length ∧ (∀ x ∈ L1, Okl W x) := by
 have h1 := h.set (hc q.At W ks.length) q.Auto
 have hd := hc_hd q.At h.g.w1 h.g.h1
 obtain ⟨s2, q2, ks2, a1, a2, v2, n2, hd2, au, pe⟩ := room1 h1 hd
 have hr := hd2.rr
 have hcc := hd2.cc
 obtain ⟨i, hi⟩ : ∃ i : Nat, q2.At.Row = (i : Int) := ⟨q2.At.Row.toNat, by omega⟩
 obtain ⟨a, ha⟩ : ∃ a : Nat, q2.At.Col = (a : Int) := ⟨q2.At.Col.toNat, by omega⟩
 refine ⟨q2.L, i, a, ?_, by omega, by omega, by rw [v2.len, n2], v2.ok⟩
 rw [a2]
 simp only [fld, hi, ha, au, pe]
theorem rp2_one (W : Int) (z : (List G_api_Line) × Int × Int × Bool × Bool) : rp2 1 W z = some z := by
 unfold rp2
 simp only [andE_some, bsm]
 rw [if_neg (by simp)]
theorem put_again (h : Pv C s k g W q ks) {p1 p2 : Int} {t1 t2 : List Int} (ht1 : t1.length ≤ 1000000) (ht2 : t2.length ≤ 1000000) (hc1 : (cl2 p1 t1 W).1 = 1) {q' : G_linotyperef34_Pen} {at_ : G_api_Cursor} (hp : f_linotyperef34_Pen_Put q p1 t1 = some (q', at_))
  {s' C' : Sto} {ks' : List Nat} (h' : Pv C' s' k g W q' ks') (hk : ks'.length = ks.length) : f_linotyperef34_Pen_Put ⟨q'.L, at_, q'.Auto⟩ p2 t2 = f_linotyperef34_Pen_Put q p2 t2 := by
 obtain ⟨L1, i, c, e1, hi, hcw, hL1, hok1⟩ := rdy_one h
 have w1 := h.g.w1
 have w2 := h.g.w2
 have hh2 := h.g.h2
 have r1 : rdy q W ks.length 1 = some (L1, (i : Int), (c : Int), false, q.Auto) := by
  unfold rdy
  rw [e1]
  exact rp2_one (W : Int) _
 have hq := put_of_room (.inl rfl) h r1 hi hcw hL1 hok1 p1 t1 ht1 hc1
 rw [hp] at hq
 simp only [Option.some.injEq, Prod.mk.injEq] at hq
 obtain ⟨rfl, rfl⟩ := hq
 simp only [putq]
 have hlt : i < L1.length := by omega
 generalize hX : (⟨pl (L1.getD i dl).Cells c (strip (1 : Nat) (fx (cl2 p1 t1 W).2)), pw (L1.getD i dl).Cells (L1.getD i dl).Wrap c 1⟩ : G_api_Line) = X
 have hst := strip_d 1 (.inl rfl) (fx (cl2 p1 t1 W).2)
 have hcells : (L1.getD i dl).Cells.length = W := by
  rw [gdl hlt]
  exact (hok1 _ (List.getElem_mem hlt)).2
 have hXc : X.Cells.length = W := by rw [← hX]; simp only [pl_len]; exact hcells
 have h2 := h'.set ⟨(i : Int), (c : Int), false⟩ q.Auto
 simp only [putq] at h2
 rw [hX] at h2
 have hcid : hc ⟨(i : Int), (c : Int), false⟩ W ks.length = ⟨(i : Int), (c : Int), false⟩ := hc_id ⟨by simp only; omega, by simp only; omega, fun e => by cases e⟩
 have e2 : rp1 ⟨L1.set i X, hc ⟨(i : Int), (c : Int), false⟩ W ks'.length, q.Auto⟩ = some (L1.set i X, (i : Int), (c : Int), false, q.Auto) := by
  rw [hk, hcid]
  unfold rp1
  simp only [Bool.false_eq_true, if_false]
 have hg : (L1.set i X).getD i dl = X := by
  rw [List.getD_eq_getElem?_getD, List.getElem?_set_self hlt]
  rfl
 have hokX : ∀ x ∈ L1.set i X, Okl W x := h2.ok
 obtain ⟨hdd, hdw⟩ := cl2_d p2 t2 w1
 have over : ∀ (a d : Nat), d = 1 ∨ d = 2 → a ≤ c → c + 1 ≤ a + d → a + d ≤ W → ∀ p : List G_api_Cell, p.length = d → (L1.set i X).set i ⟨pl ((L1.set i X).getD i dl).Cells a p, pw ((L1.set i X).getD i dl).Cells ((L1.set i X).getD i dl).Wrap a d⟩ = L1.set i ⟨pl (L1.getD i dl).Cells a p, pw (L1.getD i dl).Cells (L1.getD i dl).Wrap a d⟩ := by
  intro a d _ g1 g2 g3 p hpl
  rw [hg, List.set_set]
  congr 1
  rw [← hX]
  simp only
  have o1 := pl_over (l := (L1.getD i dl).Cells) (p := strip (1 : Nat) (fx (cl2 p1 t1 W).2)) (p' := p) g1 (by omega) (by omega)
  have o2 := pw_over (l := (L1.getD i dl).Cells) (w := (L1.getD i dl).Wrap) (p := strip (1 : Nat) (fx (cl2 p1 t1 W).2)) (p' := p) g1 (by omega) (by omega)
  rw [hst, hpl] at o2
  rw [o1, o2]
 have fin : ∀ (a d : Nat) (pd pd' : Bool), d = 1 ∨ d = 2 → (cl2 p2 t2 W).1 = d → a ≤ c → c + 1 ≤ a + d → a + d ≤ W → rdy q W ks.length d = some (L1, (i : Int), (a : Int), pd, q.Auto) → rdy ⟨L1.set i X, ⟨(i : Int), (c : Int), false⟩, q.Auto⟩ W ks'.length d = some (L1.set i X, (i : Int), (a : Int), pd', q.Auto) →
   f_linotyperef34_Pen_Put ⟨L1.set i X, ⟨(i : Int), (c : Int), false⟩, q.Auto⟩ p2 t2 = f_linotyperef34_Pen_Put q p2 t2 := by
  intro a d pd pd' g0 g1 g2 g3 g4 b1 b2
  rw [put_of_room g0 h b1 hi g4 hL1 hok1 p2 t2 ht2 g1, put_of_room g0 h2 b2 (by omega) g4 (by rw [List.length_set]; omega) hokX p2 t2 ht2 g1]
  have := over a d g0 g2 g3 g4 (strip d (fx (cl2 p2 t2 W).2)) (strip_d d g0 _)
  unfold putq
  rw [this]
 have f1 : ∀ (L : List G_api_Line) (d : Nat), d = 2 → c + 1 < W → rp2 d W (L, (i : Int), (c : Int), false, q.Auto) = some (L, (i : Int), (c : Int), false, q.Auto) := by
  intro L d hd hcn
  unfold rp2
  simp only [andE_some, bsm]
  rw [w64_in (by omega), if_neg (by simp only [Bool.and_eq_true, beq_iff_eq]; omega)]
 rcases hdd with hd1 | hd2
 ·refine fin c 1 false false (.inl rfl) hd1 (Nat.le_refl _) (Nat.le_refl _) hcw r1 ?_
  unfold rdy
  rw [e2]
  exact rp2_one (W : Int) _
 ·by_cases hcn : c + 1 < W
  ·refine fin c 2 false false (.inr rfl) hd2 (Nat.le_refl _) (by omega) (by omega) ?_ ?_
   ·unfold rdy
    rw [e1]
    exact f1 _ 2 rfl hcn
   ·unfold rdy
    rw [e2]
    exact f1 _ 2 rfl hcn
  ·have hcW : (c : Int) = (W : Int) - 1 := by omega
   have ew1 : w64 ((W : Int) - 1) = ((W - 1 : Nat) : Int) := by rw [w64_in (by omega)]; omega
   have ew2 : w64 ((W : Int) - 2) = ((W - 2 : Nat) : Int) := by rw [w64_in (by omega)]; omega
   cases hau : q.Auto with
   | true =>
    have hpa : ∀ L : List G_api_Line, L.length = ks.length → (L.getD i dl).Cells.length = W → rp2 (2 : Nat) W (L, (i : Int), (c : Int), false, true) =
      (f_linotyperef34_Pen_GoOn ⟨L.set i ⟨pl (L.getD i dl).Cells (W - 1) [bl], pw (L.getD i dl).Cells (L.getD i dl).Wrap (W - 1) 1⟩, ⟨(i : Int), (c : Int), false⟩, true⟩).bind fun x_60 => (some (x_60.L, x_60.At.Row, x_60.At.Col, x_60.At.Pending, x_60.Auto) : Option ((List G_api_Line) × Int × Int × Bool × Bool)) := by
     intro L hL hLw
     unfold rp2
     simp only [andE_some, bsm]
     rw [if_pos (by simp only [Bool.and_eq_true, beq_iff_eq]; rw [ew1]; omega)]
     simp only [if_true]
     rw [rep_eq _ (by decide)]
     simp only [bsm]
     rw [show (List.replicate (1 : Int).toNat (⟨0, []⟩ : G_api_Cell)) = [bl] from rfl, ew1, ref_paint_at (by omega) (by omega) (by omega) (by decide) (by omega)]
     simp only [bsm]
     rfl
    obtain ⟨L2, i2, a2, pd2, g1, g2, g3, g4, g5⟩ := rdy_ok h (.inr rfl) (by omega : 2 ≤ W)
    have hsame : rdy ⟨L1.set i X, ⟨(i : Int), (c : Int), false⟩, true⟩ W ks'.length 2 = rdy q W ks.length 2 := by
     rw [hau] at e1 e2
     unfold rdy
     rw [hau, e1, e2]
     simp only [bsm]
     rw [hpa _ (by rw [List.length_set]; omega) (by rw [hg]; exact hXc), hpa _ hL1 hcells]
     rw [over (W - 1) 1 (.inl rfl) (by omega) (by omega) (by omega) [bl] rfl]
    rw [hau] at h2
    rw [put_of_room (.inr rfl) h g1 g2 g3 g4 g5 p2 t2 ht2 hd2, put_of_room (.inr rfl) h2 (hsame.trans g1) (by omega) g3 (by omega) g5 p2 t2 ht2 hd2]
   | false =>
    have hna : ∀ L : List G_api_Line, rp2 (2 : Nat) W (L, (i : Int), (c : Int), false, q.Auto) = some (L, (i : Int), ((W - 2 : Nat) : Int), false, q.Auto) := by
     intro L
     unfold rp2
     simp only [andE_some, bsm]
     rw [if_pos (by simp only [Bool.and_eq_true, beq_iff_eq]; rw [ew1]; omega)]
     simp only [hau, Bool.false_eq_true, if_false]
     rw [ew2]
    have key := fin (W - 2) 2 false false (.inr rfl) hd2 (by omega) (by omega) (by omega) (by unfold rdy; rw [e1]; exact hna _) (by unfold rdy; rw [e2]; exact hna _)
    rw [hau] at key
    exact key
end Go.Proofs.YtfhhpdggmefcoaaGreatDoor
namespace Go.Proofs.YtfhhpdggmefcoaaGreatDoor
open Go Go.Lt
variable {s : Sto} {k g W : Nat} {l p p' : List G_api_Cell} {w : Bool} {q : G_linotyperef34_Pen} {ks : List Nat}
theorem fixv_id {x : Int} (h : vld x = true) : fixv x = x := by unfold fixv; rw [if_pos h]
theorem fixv_fixv' (x : Int) : fixv (fixv x) = fixv x := fixv_id (vld_fixv x)
theorem fx_snoc' {t : List Int} (ht : t.length ≤ 15) (x : Int) : fx (t ++ [fixv x]) = fx (t ++ [x]) := by
 unfold fx
 rw [List.take_of_length_le (by simp; omega), List.take_of_length_le (by simp; omega), List.map_append, List.map_append]
 simp [fixv_fixv']
theorem strip_ne {d : Nat} (hd : d = 1 ∨ d = 2) {t : List Int} (ht : t ≠ []) : strip (d : Int) t = if d = 2 then [⟨2, t⟩, ⟨3, []⟩] else [⟨1, t⟩] := by
 unfold strip
 rw [if_neg ht]
 rcases hd with rfl | rfl <;> rfl
theorem mark_more {l0 : List G_api_Cell} {a d : Nat} {t : List Int} (hdd : d = 1 ∨ d = 2) (h : s.row_Row[k]? = some ⟨pl l0 a (strip d t), w⟩) (hs : Snd (pl l0 a (strip d t))) (hl : l0.length ≤ 1024) (ha : a + d ≤ l0.length) (ht1 : 1 ≤ t.length) (ht2 : t.length ≤ 15) (x : Int) :
  f_mark_Add s (some k) a x = some (s.sr k ⟨pl l0 a (strip d (fx (t ++ [x]))), pw (pl l0 a (strip d t)) w a d⟩, true) := by
 have hne : t ≠ [] := fun e => by rw [e] at ht1; simp at ht1
 have hsl := strip_d d hdd t
 have hc : pc l0 a (strip d t) a = ⟨(d : Int), t⟩ := by
  rw [pc_in ⟨Nat.le_refl _, by rw [hsl]; omega⟩, Nat.sub_self, strip_ne hdd hne]
  rcases hdd with rfl | rfl <;> rfl
 have hkd : kd (pl l0 a (strip d t)) a = (d : Int) := by rw [kd_pl (by omega), hc]
 have hm : mat (pl l0 a (strip d t)) (a : Int) = some a := by
  unfold mat
  rw [if_pos (by rw [pl_len]; omega), Int.toNat_natCast, hkd, if_neg (by omega), if_neg (by omega)]
 unfold f_mark_Add
 rw [mark_at h hs a (by omega), hm]
 have hg : (pl l0 a (strip d t)).getD a bl = ⟨(d : Int), t⟩ := by rw [List.getD_eq_getElem?_getD, pl_get (by omega), hc]; rfl
 simp only [bsm, Bool.not_true, orE_false, hg, hkd]
 rw [if_neg (by simp; omega), app_eq (by simp; omega)]
 simp only [bsm]
 have hsl2 := strip_d d hdd (fx (t ++ [x]))
 rw [mark_put h hs (by rw [pl_len]; exact hl) _ (by simp; omega) (by rw [hsl2, pl_len]; exact ha), pl_over (Nat.le_refl a) (by omega) (by omega), hsl2]
 simp only [bsm, Er.isNil]
def zb (b : Int) : Bool := b == 1 || b == 2 || b == 3 || b == 4 || b == 5 || b == 10 || b == 11
def b2 (x : G_api_Prop) : Bool := !zb x.Break && (x.East == 1 || x.East == 2)
theorem basew_none (b : Int) : f_basew_none b = some (zb b) := by
 unfold f_basew_none zb
 by_cases h1 : b = 1
 ·subst h1; rfl
 by_cases h2 : b = 2
 ·subst h2; rfl
 by_cases h3 : b = 3
 ·subst h3; rfl
 by_cases h4 : b = 4
 ·subst h4; rfl
 by_cases h5 : b = 5
 ·subst h5; rfl
 by_cases h6 : b = 10
 ·subst h6; rfl
 by_cases h7 : b = 11
 ·subst h7; rfl
 simp [h1, h2, h3, h4, h5, h6, h7]
theorem basew_of (x : G_api_Prop) : ∃ n, f_basew_Of x = some n ∧ (n == 2) = b2 x := by
 unfold f_basew_Of b2
 rw [basew_none]
 simp only [bsm, orE_some]
 cases zb x.Break with
 | true => exact ⟨0, rfl, rfl⟩
 | false =>
  cases h : (x.East == 1 || x.East == 2) with
  | true => exact ⟨2, by simp [h], rfl⟩
  | false => exact ⟨1, by simp [h], rfl⟩
def gz (y : G_cwidth_Gauge) (r : Int) (x : G_api_Prop) : G_cwidth_Gauge := ⟨true, x.Pict, y.wide || (b2 x || (y.some && ((r == 65039 && y.pict) || x.Pict || x.Break == 6)))⟩
def wz (y : G_cwidth_Gauge) : Int := if y.wide = true then 2 else 1
theorem gauge_step (y : G_cwidth_Gauge) (r : Int) (x : G_api_Prop) : f_cwidth_Gauge_Step__widen_Cluster_21 y r x = some (gz y r x, wz (gz y r x)) := by
 have hw : f_cwidth_Gauge_widens__widen_Cluster_21 y r x = some (b2 x || (y.some && ((r == 65039 && y.pict) || x.Pict || x.Break == 6))) := by
  unfold f_cwidth_Gauge_widens__widen_Cluster_21
  obtain ⟨n, h1, h2⟩ := basew_of x
  rw [h1]
  simp only [bsm, h2, andE_some, orE_some]
  cases b2 x <;> cases y.some <;> rfl
 unfold f_cwidth_Gauge_Step__widen_Cluster_21
 rw [hw]
 simp only [bsm, orE_some, Bool.false_eq_true, if_false]
 unfold wz gz
 split <;> simp_all
structure Cv (c : G_cluster_Cluster) (t : List Int) : Prop where
 n : c.n = (t.length : Int)
 h : t.length ≤ 16
 t : (a16 c.text).take t.length = t
theorem cl_full {c : G_cluster_Cluster} {t : List Int} (h : Cv c t) : f_cluster_Cluster_Full__widen_Cluster_4 c = some (decide (t.length = 16)) := by
 unfold f_cluster_Cluster_Full__widen_Cluster_4 f_cluster_Cluster_Len__widen_Cluster_4
 simp only [Bool.false_eq_true, if_false, bsm, h.n]
 congr 1
 rw [Bool.eq_iff_iff, beq_iff_eq, decide_eq_true_eq]
 omega
theorem cl_add {c : G_cluster_Cluster} {t : List Int} (h : Cv c t) (h2 : t.length < 16) (x : Int) : ∃ c', f_cluster_Cluster_Add__widen_Cluster_4 c x = some (c', true) ∧ Cv c' (t ++ [x]) := by
 unfold f_cluster_Cluster_Add__widen_Cluster_4
 rw [cl_full h]
 simp only [orE_false, bsm]
 rw [if_neg (by simp; omega), h.n, idx_at (by rw [a16_len]; exact h2)]
 simp only [bsm]
 refine ⟨_, rfl, by simp only; rw [w64_in (by omega)]; simp, by simp; omega, ?_⟩
 simp only
 rw [a16_aset, Int.toNat_natCast, List.length_append]
 simp only [List.length_cons, List.length_nil]
 rw [List.take_succ_eq_append_getElem (by rw [List.length_set, a16_len]; exact h2), List.take_set_of_le (Nat.le_refl _), h.t, List.getElem_set_self]
theorem cl_text {c : G_cluster_Cluster} {t : List Int} (h : Cv c t) : f_cluster_Cluster_Text__widen_Cluster_4 c = some t := by
 unfold f_cluster_Cluster_Text__widen_Cluster_4
 simp only [Bool.false_eq_true, if_false, h.n]
 have := slc_eq (xs := a16 c.text) (i := 0) (j := t.length) (Nat.zero_le _) (by rw [a16_len]; exact h.h)
 rw [show ((0 : Nat) : Int) = 0 by rfl] at this
 rw [this]
 simp only [bsm, List.drop_zero, Nat.sub_zero, h.t]
 unfold f_slices_Clone
 rw [app_eq (by have := h.h; simp; omega)]
 rfl
end Go.Proofs.YtfhhpdggmefcoaaGreatDoor
namespace Go.Proofs.YtfhhpdggmefcoaaGreatDoor
open Go Go.Lt
variable {s C : Sto} {k g W j : Nat} {w : Bool} {q : G_linotyperef34_Pen} {ks : List Nat}
def Sto.sc (s : Sto) (j : Nat) (x : G_widen_Cluster) : Sto := { s with widen_Cluster := s.widen_Cluster.set j x }
theorem set_cl {x : G_widen_Cluster} (h : j < s.widen_Cluster.length) : s.set_widen_Cluster j x = some (s.sc j x) := by
 unfold Sto.set_widen_Cluster
 rw [if_pos h]
 rfl
theorem sc_get {x : G_widen_Cluster} (h : j < s.widen_Cluster.length) : (s.sc j x).widen_Cluster[j]? = some x := by simp [Sto.sc, h]
theorem sc_sc (s : Sto) (j : Nat) (x y : G_widen_Cluster) : (s.sc j x).sc j y = s.sc j y := by simp [Sto.sc]
theorem Gw.sc (h : Gw s g ks W) (j : Nat) (x : G_widen_Cluster) : Gw (s.sc j x) g ks W := ⟨h.g, h.r, h.h1, h.h2, h.w1, h.w2⟩
theorem Gw.addc (h : Gw s g ks W) (x : G_widen_Cluster) : Gw (s.add_widen_Cluster x) g ks W := ⟨h.g, h.r, h.h1, h.h2, h.w1, h.w2⟩
theorem Pv.sc (h : Pv s s k g W q ks) (j : Nat) (x : G_widen_Cluster) : Pv (s.sc j x) (s.sc j x) k g W q ks :=
 ⟨h.p, h.g.sc j x, h.nd, h.l, rfl, h.f.rgp ⟨rfl, rfl, rfl⟩ ⟨rfl, rfl, rfl⟩⟩
theorem Pv.addc (h : Pv s s k g W q ks) (x : G_widen_Cluster) : Pv (s.add_widen_Cluster x) (s.add_widen_Cluster x) k g W q ks :=
 ⟨h.p, h.g.addc x, h.nd, h.l, rfl, h.f.rgp ⟨rfl, rfl, rfl⟩ ⟨rfl, rfl, rfl⟩⟩
theorem oth_cl {a b : Sto} (h : a.oth = b.oth) : a.widen_Cluster = b.widen_Cluster := by
 have := congrArg Sto.widen_Cluster h
 exact this
structure Wc (s : Sto) (j : Nat) (c : G_api_Cursor) (y : G_cwidth_Gauge) (t : List Int) (n : Int) : Prop where
 x : ∃ b, s.widen_Cluster[j]? = some ⟨c, n, b, y⟩ ∧ Cv b t
theorem Wc.lt {c : G_api_Cursor} {y : G_cwidth_Gauge} {t : List Int} {n : Int} (h : Wc s j c y t n) : j < s.widen_Cluster.length := by
 obtain ⟨b, h, _⟩ := h.x
 exact get_lt h
theorem sca_fix (r : Int) : ((f_scalar_Valid r).bind fun x_6 => if (!x_6) = true then (some (65533) : Option (Int)) else (some (r) : Option (Int))) = some (fixv r) := by
 rw [sca_valid]
 unfold fixv
 cases vld r <;> rfl
theorem add_eq {c : G_api_Cursor} {y : G_cwidth_Gauge} {t : List Int} {n : Int} (h : Wc s j c y t n) (ht : t.length < 16) (r : Int) (x : G_api_Prop) :
  ∃ b', f_widen_Cluster_add s (some j) r x = some (s.sc j ⟨c, n, b', gz y (fixv r) x⟩, wz (gz y (fixv r) x)) ∧ Cv b' (t ++ [fixv r]) := by
 have hj := h.lt
 obtain ⟨b, hb, hv⟩ := h.x
 obtain ⟨b', h1, h2⟩ := cl_add hv ht (fixv r)
 refine ⟨b', ?_, h2⟩
 unfold f_widen_Cluster_add
 rw [sca_fix]
 simp only [bsm, hb, h1]
 rw [set_cl hj]
 simp only [bsm, gauge_step]
 rw [set_cl (by simp [Sto.sc]; exact hj), sc_sc]
 rfl
theorem cl2_two (t : List Int) (h : 2 ≤ W) : cl2 2 t W = (2, t) := by
 unfold cl2
 rw [if_neg (by omega)]
 rfl
theorem cl2_one (t : List Int) (h : 1 ≤ W) : cl2 1 t W = (1, t) := by
 unfold cl2
 rw [if_neg (by omega)]
 rfl
theorem cl2_nar (t : List Int) : cl2 2 t 1 = (1, [65533]) := by
 unfold cl2
 rw [if_pos (by decide)]
structure On (C s : Sto) (k g W H j : Nat) (q0 : G_linotyperef34_Pen) (y : G_cwidth_Gauge) (t : List Int) (q : G_linotyperef34_Pen) (c : G_api_Cursor) (ks : List Nat) : Prop where
 v : Pv s s k g W q ks
 f : Fr C s k g ks
 w : Wc s j c y t (wz y)
 n : ks.length = H
 p : f_linotyperef34_Pen_Put q0 (wz y) t = some (q, c)
theorem begin_eq {q0 : G_linotyperef34_Pen} (h : Pv C s k g W q0 ks) (r : Int) (x : G_api_Prop) : ∃ s' q' c ks', f_widen_Begin s (some k) r x = some (s', some s.widen_Cluster.length) ∧
  On C s' k g W ks.length s.widen_Cluster.length q0 (gz ⟨false, false, false⟩ (fixv r) x) [fixv r] q' c ks' ∧ ∃ z, s'.oth = (s.add_widen_Cluster z).oth := by
 unfold f_widen_Begin
 simp only [Option.isNone_some, orE_false, bsm, h.p, Bool.false_eq_true, if_false]
 have h0 : Wc (s.add_widen_Cluster ⟨⟨0, 0, false⟩, 0, ⟨(0, 0, 0, 0, 0, 0, 0, 0, 0, 0, 0, 0, 0, 0, 0, 0), 0⟩, ⟨false, false, false⟩⟩) s.widen_Cluster.length ⟨0, 0, false⟩ ⟨false, false, false⟩ [] 0 :=
  ⟨⟨⟨(0, 0, 0, 0, 0, 0, 0, 0, 0, 0, 0, 0, 0, 0, 0, 0), 0⟩, by simp [Sto.add_widen_Cluster], ⟨rfl, by simp, rfl⟩⟩⟩
 obtain ⟨b, h1, h2⟩ := add_eq h0 (by simp) r x
 have hlt := h0.lt
 rw [h1]
 have hv := (h.self.addc ⟨⟨0, 0, false⟩, 0, ⟨(0, 0, 0, 0, 0, 0, 0, 0, 0, 0, 0, 0, 0, 0, 0, 0), 0⟩, ⟨false, false, false⟩⟩).sc s.widen_Cluster.length ⟨⟨0, 0, false⟩, 0, b, gz ⟨false, false, false⟩ (fixv r) x⟩
 have hR : Rgp s (s.add_widen_Cluster ⟨⟨0, 0, false⟩, 0, ⟨(0, 0, 0, 0, 0, 0, 0, 0, 0, 0, 0, 0, 0, 0, 0, 0), 0⟩, ⟨false, false, false⟩⟩) := ⟨rfl, rfl, rfl⟩
 have hA : ∀ z, ((s.add_widen_Cluster ⟨⟨0, 0, false⟩, 0, ⟨(0, 0, 0, 0, 0, 0, 0, 0, 0, 0, 0, 0, 0, 0, 0, 0), 0⟩, ⟨false, false, false⟩⟩).sc s.widen_Cluster.length z) = s.add_widen_Cluster z := fun z => by
  simp [Sto.sc, Sto.add_widen_Cluster]
 generalize hs1 : s.add_widen_Cluster ⟨⟨0, 0, false⟩, 0, ⟨(0, 0, 0, 0, 0, 0, 0, 0, 0, 0, 0, 0, 0, 0, 0, 0), 0⟩, ⟨false, false, false⟩⟩ = s1 at *
 simp only [bsm]
 rw [sc_get hlt]
 simp only [bsm]
 rw [set_cl (by simp [Sto.sc]; exact hlt), sc_sc]
 simp only [bsm]
 rw [cl_text h2]
 simp only [bsm, List.nil_append]
 have hv2 := hv.sc s.widen_Cluster.length ⟨⟨0, 0, false⟩, wz (gz ⟨false, false, false⟩ (fixv r) x), b, gz ⟨false, false, false⟩ (fixv r) x⟩
 simp only [sc_sc] at hv2
 obtain ⟨s3, q3, ks3, i, a, p1, p2, p3, p4, p5, p6, p7, _⟩ := put_eq hv2 (wz (gz ⟨false, false, false⟩ (fixv r) x)) [fixv r] (by simp)
 rw [p2]
 have hcl : s3.widen_Cluster = (s1.sc s.widen_Cluster.length ⟨⟨0, 0, false⟩, wz (gz ⟨false, false, false⟩ (fixv r) x), b, gz ⟨false, false, false⟩ (fixv r) x⟩).widen_Cluster := oth_cl p4.o
 have hg3 : s3.widen_Cluster[s.widen_Cluster.length]? = some ⟨⟨0, 0, false⟩, wz (gz ⟨false, false, false⟩ (fixv r) x), b, gz ⟨false, false, false⟩ (fixv r) x⟩ := by
  rw [hcl]
  exact sc_get hlt
 simp only [bsm]
 rw [hg3]
 simp only [bsm]
 rw [set_cl (get_lt hg3)]
 refine ⟨_, q3, _, ks3, rfl, ⟨p4.self.sc _ _, ?_, ⟨_, sc_get (get_lt hg3), by simpa using h2⟩, p5, p3⟩, ⟨⟨(i : Int), (a : Int), false⟩, wz (gz ⟨false, false, false⟩ (fixv r) x), b, gz ⟨false, false, false⟩ (fixv r) x⟩, ?_⟩
 ·exact (h.f.trans h.oG h.oR (p4.f.rgp (C' := s) ⟨hR.symm.r, hR.symm.g, hR.symm.p⟩ (Rgp.self _))).rgp (Rgp.self _) ⟨rfl, rfl, rfl⟩
 ·rw [← hA]
  have := congrArg (fun y : Sto => y.sc s.widen_Cluster.length ⟨⟨(i : Int), (a : Int), false⟩, wz (gz ⟨false, false, false⟩ (fixv r) x), b, gz ⟨false, false, false⟩ (fixv r) x⟩) p4.o
  refine this.trans ?_
  show (((s1.sc _ _).sc _ _).oth) = _
  rw [sc_sc]
theorem wz_12 (y : G_cwidth_Gauge) : (y.wide = false ∧ wz y = 1) ∨ (y.wide = true ∧ wz y = 2) := by
 unfold wz
 cases y.wide
 ·exact .inl ⟨rfl, rfl⟩
 ·exact .inr ⟨rfl, rfl⟩
theorem gz_wide {y : G_cwidth_Gauge} (h : y.wide = true) (r : Int) (x : G_api_Prop) : (gz y r x).wide = true := by
 unfold gz
 simp [h]
theorem cl2_fst (p1 : Int) (t t' : List Int) (W : Nat) : (cl2 p1 t W).1 = (cl2 p1 t' W).1 := by
 unfold cl2
 split <;> rfl
theorem join_full {q0 : G_linotyperef34_Pen} {y : G_cwidth_Gauge} {t : List Int} {c : G_api_Cursor} {H : Nat} (h : On C s k g W H j q0 y t q c ks) (ht : t.length = 16) (r : Int) (x : G_api_Prop) :
  f_widen_Cluster_Join s (some j) (some k) r x = some (s, false) := by
 obtain ⟨b, hb, hv⟩ := h.w.x
 unfold f_widen_Cluster_Join
 simp only [Option.isNone_some, orE_false, bsm, h.v.p, hb, cl_full hv, ht]
 rfl
theorem join_eq {C0 s0 : Sto} {ks0 : List Nat} {q0 : G_linotyperef34_Pen} {H : Nat} (h0 : Pv C0 s0 k g W q0 ks0) (hH : ks0.length = H) {y : G_cwidth_Gauge} {t : List Int} {c : G_api_Cursor} (h : On C s k g W H j q0 y t q c ks) (ht1 : 1 ≤ t.length) (ht : t.length < 16) (hvt : ∀ x ∈ t, vld x = true) (r : Int) (x : G_api_Prop) :
  ∃ s' q' c' ks', f_widen_Cluster_Join s (some j) (some k) r x = some (s', true) ∧ On C s' k g W H j q0 (gz y (fixv r) x) (t ++ [fixv r]) q' c' ks' ∧ ∃ z, s'.oth = (s.sc j z).oth := by
 have hj := h.w.lt
 obtain ⟨b', e1, e2⟩ := add_eq h.w ht r x
 obtain ⟨b, hb, hv⟩ := h.w.x
 have w1 := h0.g.w1
 have w2 := h0.g.w2
 unfold f_widen_Cluster_Join
 have hfull : decide (t.length = 16) = false := by simp; omega
 simp only [Option.isNone_some, orE_false, bsm, h.v.p, hb, cl_full hv, hfull, Bool.false_eq_true, if_false, e1]
 have htl : (t ++ [fixv r]).length ≤ 1000000 := by simp; omega
 generalize hy' : gz y (fixv r) x = y' at *
 rw [sc_get hj]
 simp only [bsm]
 rw [set_cl (by simp [Sto.sc]; exact hj), sc_sc]
 simp only [bsm]
 have hv2 := h.v.sc j ⟨c, wz y', b', y'⟩
 have hfr : Fr C (s.sc j ⟨c, wz y', b', y'⟩) k g ks := h.f.rgp (Rgp.self _) ⟨rfl, rfl, rfl⟩
 by_cases hw : wz y' = wz y
 ·rw [if_neg (by simp [hw])]
  simp only [hv2.p, bsm]
  rw [grid_wide hv2.g]
  simp only [bsm]
  obtain ⟨hdd, hdw⟩ := cl2_d (wz y) t w1
  obtain ⟨L2, i, a, pd, r1, r2, r3, r4, r5⟩ := rdy_ok h0 hdd hdw
  have hq := put_of_room hdd h0 r1 r2 r3 r4 r5 (wz y) t (by omega) rfl
  have hq' := put_of_room hdd h0 r1 r2 r3 r4 r5 (wz y) (t ++ [fixv r]) htl (cl2_fst _ _ _ _)
  rw [h.p] at hq
  simp only [Option.some.injEq, Prod.mk.injEq] at hq
  obtain ⟨hq1, rfl⟩ := hq
  by_cases hle : wz y' ≤ (W : Int)
  ·rw [if_pos (by simpa using hle)]
   have hcl : ∀ t2 : List Int, cl2 (wz y) t2 W = ((wz y).toNat, t2) := fun t2 => by
    rw [hw] at hle
    rcases wz_12 y with ⟨_, q1⟩ | ⟨_, q1⟩
    ·rw [q1]; exact cl2_one t2 w1
    ·rw [q1]; exact cl2_two t2 (by omega)
   rw [hcl] at hq1 r3 hdd hdw r1 hq'
   rw [hcl] at hq'
   simp only at hq1 r3 hdd hdw r1 hq'
   generalize (wz y).toNat = d at *
   have hik : i < ks.length := by rw [h.n, ← hH]; exact r2
   rw [grid_row hv2.g hik]
   simp only [bsm]
   have hfx : fx t = t := fx_id hvt (by omega)
   obtain ⟨⟨rc, rw_⟩, hr0, hsn, hlw⟩ := h.v.g.at hik
   simp only at hsn hlw
   have hlt : i < L2.length := by rw [r4]; exact r2
   have hat := h.v.at hik
   rw [ln_eq hr0] at hat
   have hqL : q.L = L2.set i ⟨pl (L2.getD i dl).Cells a (strip d (fx t)), pw (L2.getD i dl).Cells (L2.getD i dl).Wrap a d⟩ := by rw [hq1]; rfl
   have hgi : q.L[i]'(by rw [h.v.len]; exact hik) = ⟨pl (L2.getD i dl).Cells a (strip d (fx t)), pw (L2.getD i dl).Cells (L2.getD i dl).Wrap a d⟩ := by
    have : q.L[i]? = some ⟨pl (L2.getD i dl).Cells a (strip d (fx t)), pw (L2.getD i dl).Cells (L2.getD i dl).Wrap a d⟩ := by rw [hqL, List.getElem?_set_self hlt]
    rw [List.getElem?_eq_getElem (by rw [h.v.len]; exact hik)] at this
    exact Option.some.inj this
   rw [hgi] at hat
   simp only [G_api_Line.mk.injEq] at hat
   obtain ⟨hrc, hrw⟩ := hat
   subst hrc hrw
   have hcells : (L2.getD i dl).Cells.length = W := by
    rw [gdl hlt]
    exact (r5 _ (List.getElem_mem hlt)).2
   have hq1A : q.At = ca ⟨(i : Int), (a : Int), false⟩ d W q0.Auto ∧ q.Auto = q0.Auto := by rw [hq1]; exact ⟨rfl, rfl⟩
   generalize hl0 : (L2.getD i dl).Cells = l0 at *
   generalize hw0 : (L2.getD i dl).Wrap = w0 at *
   rw [hfx] at hr0 hsn hqL hlw hgi
   have hr0' : (s.sc j ⟨⟨(i : Int), (a : Int), false⟩, wz y', b', y'⟩).row_Row[ks[i]]? = some ⟨pl l0 a (strip d t), pw l0 w0 a d⟩ := hr0
   have hst := strip_d d hdd t
   have hst2 := strip_d d hdd (fx (t ++ [r]))
   rw [mark_more hdd hr0' hsn (by omega) (by omega) ht1 (by omega) r]
   simp only [bsm]
   have o1 := pl_over (l := l0) (p := strip d t) (p' := strip d (fx (t ++ [r]))) (Nat.le_refl a) (by omega) (by omega)
   have o2 := pw_over (l := l0) (w := w0) (p := strip d t) (p' := strip d (fx (t ++ [r]))) (Nat.le_refl a) (by omega) (by omega)
   rw [hst, hst2] at o2
   have hsn2 : Snd (pl l0 a (strip d (fx (t ++ [r])))) := by
    rw [← o1]
    exact hsn.paint (snd_fx _ _) (by rw [pl_len]; omega)
   have hv4 := hv2.row hik (r := ⟨pl l0 a (strip d (fx (t ++ [r]))), pw (pl l0 a (strip d t)) (pw l0 w0 a d) a d⟩) hsn2 (by simp only [pl_len]; exact hcells)
   refine ⟨_, _, _, ks, rfl, ⟨hv4.self, hfr.sr (List.getElem_mem hik) _, ⟨b', sc_get hj, e2⟩, h.n, ?_⟩, _, rfl⟩
   rw [hw, hq']
   have hfx2 := fx_snoc' (t := t) (by omega) r
   rw [o2, hqL, hq1A.1, hq1A.2, List.set_set, ← hfx2]
   unfold putq
   rw [hl0, hw0]
  ·rw [if_neg (by simpa using hle)]
   have hW : W = 1 := by
    rcases wz_12 y' with ⟨_, q1⟩ | ⟨_, q1⟩ <;> omega
   refine ⟨_, q, _, ks, rfl, ⟨hv2, hfr, ⟨b', sc_get hj, e2⟩, h.n, ?_⟩, _, rfl⟩
   rw [hw, hq']
   have h2 : wz y = 2 := by
    rcases wz_12 y with ⟨_, q1⟩ | ⟨_, q1⟩
    ·rw [hw, q1] at hle; omega
    ·exact q1
   rw [hq1, h2, hW, cl2_nar, cl2_nar]
 ·rw [if_pos (by simpa using hw)]
  have hy1 : wz y = 1 ∧ wz y' = 2 := by
   rcases wz_12 y with ⟨_, q1⟩ | ⟨q1, q2⟩
   ·rcases wz_12 y' with ⟨_, q3⟩ | ⟨_, q3⟩
    ·rw [q1, q3] at hw; exact absurd rfl hw
    ·exact ⟨q1, q3⟩
   ·have := gz_wide q1 (fixv r) x
    rw [hy'] at this
    unfold wz at hw
    rw [this, q1] at hw
    exact absurd rfl hw
  simp only [hv2.p, bsm]
  rw [set_pen (get_lt hv2.p)]
  simp only [bsm]
  have hv3 := hv2.set c q.Auto
  have hc3 : ((s.sc j ⟨c, wz y', b', y'⟩).sp k ⟨some g, c, q.Auto⟩).widen_Cluster[j]? = some ⟨c, wz y', b', y'⟩ := sc_get hj
  rw [hc3]
  simp only [bsm]
  rw [cl_text e2]
  simp only [bsm]
  obtain ⟨s4, q4, ks4, i, a, p1, p2, p3, p4, p5, p6, p7, _⟩ := put_eq hv3 (wz y') (t ++ [fixv r]) htl
  rw [p2]
  simp only [bsm]
  have hc4 : s4.widen_Cluster[j]? = some ⟨c, wz y', b', y'⟩ := by
   rw [oth_cl p4.o]
   exact hc3
  rw [hc4]
  simp only [bsm]
  rw [set_cl (get_lt hc4)]
  refine ⟨_, q4, _, ks4, rfl, ⟨p4.self.sc _ _, ?_, ⟨b', sc_get (get_lt hc4), e2⟩, p5.trans h.n, ?_⟩, ⟨⟨(i : Int), (a : Int), false⟩, wz y', b', y'⟩, ?_⟩
  ·have h3 := p4.f
   have := h.f.trans h.v.oG h.v.oR (h3.rgp (C' := s) ⟨rfl, rfl, rfl⟩ (Rgp.self _))
   exact this.rgp (Rgp.self _) ⟨rfl, rfl, rfl⟩
  ·rw [← p3]
   exact (put_again h0 (by omega) htl (by rw [hy1.1, cl2_one _ w1]) h.p h.v (h.n.trans hH.symm)).symm
  ·have := congrArg (fun y : Sto => y.sc j ⟨⟨(i : Int), (a : Int), false⟩, wz y', b', y'⟩) p4.o
   refine this.trans ?_
   show (((s.sc _ _).sc _ _).oth) = _
   rw [sc_sc]
def gf (t : List Int) (x : List G_api_Prop) : G_cwidth_Gauge := (t.zip x).foldl (fun y p => gz y p.1 p.2) ⟨false, false, false⟩
theorem zip_snoc {α β : Type} : ∀ (t : List α) (x : List β) (r : α) (h : t.length < x.length), (t ++ [r]).zip x = t.zip x ++ [(r, x[t.length])]
 | [], [], _, h => by simp at h
 | [], b :: x, r, _ => by simp
 | a :: t, [], _, h => by simp at h
 | a :: t, b :: x, r, h => by
  have := zip_snoc t x r (by simpa using h)
  simp only [List.cons_append, List.zip_cons_cons, this, List.length_cons, List.getElem_cons_succ]
theorem gf_snoc {t : List Int} {x : List G_api_Prop} (h : t.length < x.length) (r : Int) : gf (t ++ [r]) x = gz (gf t x) r x[t.length] := by
 unfold gf
 rw [zip_snoc t x r h, List.foldl_append]
 rfl
theorem zip_take {α β : Type} : ∀ (t : List α) (x : List β) (n : Nat), t.length ≤ n → t.zip (x.take n) = t.zip x
 | [], _, _, _ => rfl
 | _ :: _, [], _, _ => by simp
 | _ :: _, _ :: _, 0, h => by simp at h
 | a :: t, b :: x, n + 1, h => by
  rw [List.take_succ_cons, List.zip_cons_cons, List.zip_cons_cons, zip_take t x n (by simpa using h)]
theorem gf_take (t : List Int) (x : List G_api_Prop) {n : Nat} (h : t.length ≤ n) : gf t (x.take n) = gf t x := by
 unfold gf
 rw [zip_take _ _ _ h]
theorem ref18_loop (b : Int) (zs : List Int) (hz : zs.length ≤ 1000) : ∃ t, iter (σ := Int) (τ := Int ⊕ Unit) (((zs.length : Int) - 0).toNat + 1) (fun s_9 =>
 if (decide (s_9 < (zs.length : Int))) = true then
 (idx zs s_9).bind fun x_19 =>
 if (b == x_19) = true then
 some (.inr (.inl 0))
 else
 some (.inl ((w64 (s_9 + 1))))
 else
 some (.inr (.inr ()))) (0) = some t ∧ (match t with | .inl n => n = 0 ∧ b ∈ zs | .inr _ => b ∉ zs) := by
 refine iter_for (n := zs.length) (fun i s => s = (i : Int) ∧ ∀ k (h : k < zs.length), k < i → zs[k] ≠ b) (fun t : Int ⊕ Unit => match t with | .inl n => n = 0 ∧ b ∈ zs | .inr _ => b ∉ zs) (fun i s hi he => ?_) (fun s he => ?_) ⟨rfl, fun k h hk => by omega⟩ (by omega)
 ·obtain ⟨e, hI⟩ := he
  subst e
  rw [if_pos (dlt hi), idx_at hi, w64_succ hi (by omega)]
  simp only [bsm]
  by_cases hx : b = zs[i]
  ·rw [if_pos (by simpa using hx)]
   exact .inr ⟨_, rfl, rfl, hx ▸ List.getElem_mem hi⟩
  ·rw [if_neg (by simpa using hx)]
   refine .inl ⟨_, rfl, rfl, fun k h hk => ?_⟩
   by_cases hki : k = i
   ·subst hki; exact fun e => hx e.symm
   ·exact hI k h (by omega)
 ·obtain ⟨e, hI⟩ := he
  subst e
  refine ⟨.inr (), by rw [if_neg (by simp)], fun hb => ?_⟩
  obtain ⟨i, hi, e⟩ := List.mem_iff_getElem.1 hb
  exact hI i hi hi e
theorem ref18_of (x : G_api_Prop) : ∃ n, f_linotyperef18_Of x = some n ∧ (n == 2) = b2 x := by
 unfold f_linotyperef18_Of
 obtain ⟨t, h1, h2⟩ := ref18_loop x.Break [1, 2, 3, 4, 5, 10, 11] (by decide)
 rw [h1]
 have hz : zb x.Break = true ↔ x.Break ∈ ([1, 2, 3, 4, 5, 10, 11] : List Int) := by simp [zb]; omega
 unfold b2
 cases t with
 | inl n =>
  obtain ⟨rfl, hm⟩ := h2
  exact ⟨0, rfl, by rw [hz.2 hm]; rfl⟩
 | inr u =>
  have hf : zb x.Break = false := by rw [← Bool.not_eq_true, hz]; exact h2
  simp only [orE_some, bsm, hf]
  cases h : (x.East == 1 || x.East == 2) with
  | true => exact ⟨2, by simp, rfl⟩
  | false => exact ⟨1, by simp, rfl⟩
theorem row19 (t : List Int) (x : List G_api_Prop) (h : t.length ≤ x.length) (ht : t.length ≤ 1000000) : f_linotyperef19_Row t x = some (wz (gf t x)) := by
 unfold f_linotyperef19_Row
 have key : ∀ i, i ≤ t.length → (gf (t.take i) x).some = decide (0 < i) ∧ (∀ (h1 : 0 < i) (h2 : i - 1 < x.length), (gf (t.take i) x).pict = x[i - 1].Pict) := fun i hi => by
  cases i with
  | zero => exact ⟨rfl, fun h => absurd h (by decide)⟩
  | succ i =>
   have hl : (t.take i).length = i := by rw [List.length_take]; omega
   rw [List.take_succ_eq_append_getElem (by omega), gf_snoc (by rw [hl]; omega)]
   exact ⟨by simp [gz], fun _ _ => by simp [gz, hl]⟩
 have mono : ∀ i, i ≤ t.length → (gf (t.take i) x).wide = true → (gf t x).wide = true := fun i hi hw => by
  have : ∀ m, i ≤ m → m ≤ t.length → (gf (t.take m) x).wide = true := by
   intro m
   induction m with
   | zero => intro h1 _; rw [show i = 0 by omega] at hw; exact hw
   | succ m ih =>
    intro h1 h2
    by_cases e : i = m + 1
    ·rw [← e]; exact hw
    ·rw [List.take_succ_eq_append_getElem (by omega), gf_snoc (by rw [List.length_take]; omega)]
     exact gz_wide (ih (by omega) (by omega)) _ _
  have := this t.length hi (Nat.le_refl _)
  rwa [List.take_of_length_le (Nat.le_refl _)] at this
 refine iter_forB (n := t.length) (fun i s => s = (i : Int) ∧ (gf (t.take i) x).wide = false) (fun u => match u with | .inl n => n = 2 ∧ (gf t x).wide = true | .inr _ => (gf t x).wide = false) (fun i s hi ⟨e, hI⟩ => ?_) (fun s ⟨e, hI⟩ => ?_) ⟨rfl, rfl⟩ (by omega) (fun u hu => ?_)
 ·subst e
  have e5 := w64_succ hi (by omega)
  have hx : i < x.length := by omega
  obtain ⟨n, h1, h2⟩ := ref18_of x[i]
  rw [if_pos (dlt hi), idx_at hx]
  simp only [bsm, h1, h2, e5, idx_at hi]
  have hl : (t.take i).length = i := by rw [List.length_take]; omega
  have hs : (gf (t.take (i + 1)) x).wide = (b2 x[i] || (decide (0 < i) && ((t[i] == 65039 && (gf (t.take i) x).pict) || x[i].Pict || x[i].Break == 6))) := by
   rw [List.take_succ_eq_append_getElem hi, gf_snoc (by rw [hl]; omega)]
   simp only [gz, hI, Bool.false_or, (key i (by omega)).1, hl]
  have hd : ∀ (A : Option Bool), (∀ (h0 : 0 < i), A = some ((t[i] == 65039 && x[i - 1].Pict) || x[i].Pict || x[i].Break == 6)) →
    (orE (b2 x[i]) ((andE (decide ((i : Int) > 0)) A).bind fun d_21 => some d_21)) = some (gf (t.take (i + 1)) x).wide := fun A hA => by
   rw [hs]
   by_cases h0 : 0 < i
   ·rw [hA h0, show decide ((i : Int) > 0) = true by simp; omega, andE_true, show decide (0 < i) = true by simpa using h0, (key i (by omega)).2 h0 (by omega)]
    simp only [bsm, orE_some, Bool.true_and]
   ·rw [show decide ((i : Int) > 0) = false by simp; omega, andE_false, show decide (0 < i) = false by simpa using h0]
    simp only [bsm, orE_some, Bool.false_and]
  rw [hd _ (fun h0 => by
   rw [show w64 ((i : Int) - 1) = ((i - 1 : Nat) : Int) by rw [w64_in (by omega)]; omega, idx_at (show i - 1 < x.length by omega)]
   simp only [bsm, andE_some, orE_some])]
  simp only [bsm]
  cases hw : (gf (t.take (i + 1)) x).wide with
  | true => exact .inr ⟨.inl 2, rfl, rfl, mono (i + 1) (by omega) hw⟩
  | false => exact .inl ⟨_, rfl, rfl, rfl⟩
 ·subst e
  rw [List.take_of_length_le (Nat.le_refl _)] at hI
  exact ⟨.inr (), by rw [if_neg (by simp)], hI⟩
 ·unfold wz
  cases u with
  | inl n =>
   obtain ⟨rfl, hw⟩ := hu
   rw [hw]
   rfl
  | inr u =>
   simp only at hu
   rw [hu]
   rfl
end Go.Proofs.YtfhhpdggmefcoaaGreatDoor
namespace Go.Proofs.YtfhhpdggmefcoaaGreatDoor
open Go Go.Lt
variable {s C : Sto} {g k W : Nat} {ks : List Nat} {q : G_linotyperef34_Pen}
def bls (W H : Nat) : List G_api_Line := List.replicate H ⟨List.replicate W bl, false⟩
theorem bls_ok {W H : Nat} (w1 : 1 ≤ W) (w2 : W ≤ 1024) (h1 : 1 ≤ H) : ∀ i (h : i < (bls W H).length), 1 ≤ (bls W H)[i].Cells.length ∧ (bls W H)[i].Cells.length ≤ 1024 ∧ Snd (bls W H)[i].Cells ∧ (bls W H)[i].Cells.length = ((bls W H)[0]'(by omega)).Cells.length := fun i h => by
 have e : ∀ j (hj : j < (bls W H).length), (bls W H)[j] = ⟨List.replicate W bl, false⟩ := fun j hj => by
  unfold bls
  exact List.getElem_replicate _
 rw [e i h, e 0 (by omega)]
 simp only [List.length_replicate]
 exact ⟨w1, w2, snd_bl W, trivial⟩
theorem grid_new (n m : Int) : f_grid_New s n m = some ((s.addr ((bls (sd n) (sd m)).map lr)).add_grid_Grid ⟨(List.range' s.row_Row.length (sd m)).map some⟩, some s.grid_Grid.length) := by
 have hsd := sd_in m
 have hL : ∀ i, ((bls (sd n) (sd m)).map lr).take i = List.replicate (min i (sd m)) ⟨List.replicate (sd n) bl, false⟩ := fun i => by
  unfold bls
  rw [List.map_replicate, List.take_replicate]
  rfl
 have hlen : ((bls (sd n) (sd m)).map lr).length = sd m := by simp [bls]
 have hH : imax 1 (imin m 1024) = (sd m : Int) := by
  rw [imin_eq, imax_eq]
  unfold sd
  omega
 unfold f_grid_New
 rw [hH]
 simp only [bsm]
 obtain ⟨t, h3, h4⟩ := iter_for (σ := Int × Sto) (τ := Sto) (n := sd m) (fuel := (((sd m : Nat) : Int) - 0).toNat + 1) (s := (0, s.add_grid_Grid (⟨([] : List (Option Nat))⟩ : G_grid_Grid)))
  (fun i q => q = ((i : Int), (s.addr (((bls (sd n) (sd m)).map lr).take i)).add_grid_Grid ⟨(List.range' s.row_Row.length i).map some⟩))
  (fun t => t = (s.addr ((bls (sd n) (sd m)).map lr)).add_grid_Grid ⟨(List.range' s.row_Row.length (sd m)).map some⟩)
  (step := fun s_12 =>
 if (decide (s_12.1 < ((sd m : Nat) : Int))) = true then
 (s_12.2.grid_Grid[s.grid_Grid.length]?).bind fun o_19 =>
 (f_row_New s_12.2 n).bind fun x_21 =>
 (app o_19.rows ([x_21.2] : List (Option Nat))).bind fun x_23 =>
 (x_21.1.set_grid_Grid s.grid_Grid.length (⟨x_23⟩ : G_grid_Grid)).bind fun s_26001 =>
 some (.inl ((w64 (s_12.1 + 1)), s_26001))
 else
 some (.inr (s_12.2)))
  (fun i q hi e => by
   subst e
   refine .inl ⟨_, ?_, rfl⟩
   have e5 : w64 ((i : Int) + 1) = ((i + 1 : Nat) : Int) := by rw [w64_in (by omega)]; simp
   have hd : decide ((i : Int) < ((sd m : Nat) : Int)) = true := by simp; exact hi
   have hg : ((s.addr (((bls (sd n) (sd m)).map lr).take i)).add_grid_Grid ⟨(List.range' s.row_Row.length i).map some⟩).grid_Grid[s.grid_Grid.length]? = some ⟨(List.range' s.row_Row.length i).map some⟩ := by
    simp [Sto.add_grid_Grid, Sto.addr]
   simp only [hd, if_true]
   rw [hg, row_new]
   simp only [bsm]
   rw [app_eq (by simp; omega)]
   simp only [bsm]
   have hlt : s.grid_Grid.length < (((s.addr (((bls (sd n) (sd m)).map lr).take i)).add_grid_Grid ⟨(List.range' s.row_Row.length i).map some⟩).add_row_Row ⟨List.replicate (sd n) bl, false⟩).grid_Grid.length := by
    simp [Sto.add_grid_Grid, Sto.addr, Sto.add_row_Row]
   rw [set_grid hlt, e5]
   simp only [bsm]
   congr 4
   refine sto_eq ?_ ?_ rfl
   ·simp only [Sto.sg, Sto.add_grid_Grid, Sto.add_row_Row, Sto.addr]
    rw [hL, hL, Nat.min_eq_left (by omega), Nat.min_eq_left (by omega), List.replicate_succ', List.append_assoc]
   ·simp only [Sto.sg, Sto.add_grid_Grid, Sto.add_row_Row, Sto.addr]
    rw [List.set_append_right _ _ (Nat.le_refl _), Nat.sub_self, List.set_cons_zero, List.range'_concat, List.map_append, hL, Nat.min_eq_left (by omega)]
    simp)
  (fun q e => ⟨q.2, by subst e; simp, by subst e; simp only; rw [List.take_of_length_le (by omega)]⟩)
  (by simp [addr_nil]) (by omega)
 subst h4
 rw [h3]
 rfl
theorem Fr.of_grid (xs : List G_row_Row) (x : G_grid_Grid) {n : Nat} (hn : n = s.grid_Grid.length) {m : Nat} : Fr s ((s.addr xs).add_grid_Grid x) k n (List.range' s.row_Row.length m) := by
 subst hn
 refine Fr.new (Nat.le_refl _) ?_ ?_ (fun _ _ => rfl) (fun j hj => ?_) (fun j hj => ?_) (Nat.le_refl _) (fun r hr => (List.mem_range'_1.1 hr).1)
 ·simp [Sto.add_grid_Grid, Sto.addr]
 ·simp [Sto.add_grid_Grid, Sto.addr]
 ·simp only [Sto.add_grid_Grid, Sto.addr]; exact List.getElem?_append_left hj
 ·simp only [Sto.add_grid_Grid, Sto.addr]; exact List.getElem?_append_left hj
theorem Gw.addp (h : Gw s g ks W) (x : G_place_Pen) : Gw (s.add_place_Pen x) g ks W := ⟨h.g, h.r, h.h1, h.h2, h.w1, h.w2⟩
theorem place_new (n m : Int) : ∃ s' ks, f_place_New s n m = some (s', some s.place_Pen.length) ∧ Pv s s' s.place_Pen.length s.grid_Grid.length (sd n) ⟨bls (sd n) (sd m), ⟨0, 0, false⟩, true⟩ ks := by
 have h1 := sd_in n
 have h2 := sd_in m
 have hb : (bls (sd n) (sd m)).length = sd m := by simp [bls]
 have h0 : ((bls (sd n) (sd m))[0]'(by omega)).Cells.length = sd n := by simp [bls]
 obtain ⟨g1, g2⟩ := gw_of (s := s) (L := bls (sd n) (sd m)) (by omega) (by omega) (bls_ok h1.1 h1.2 h2.1)
 rw [h0] at g1
 rw [hb] at g1 g2
 unfold f_place_New
 rw [grid_new]
 refine ⟨_, _, rfl, ⟨?_, g1.addp _, ?_, ?_, rfl, (Fr.of_grid _ _ rfl).addp _⟩⟩
 ·simp [Sto.add_place_Pen, Sto.add_grid_Grid, Sto.addr]
 ·exact List.nodup_range'
 ·exact g2
theorem ref32_new {W H : Nat} (w2 : W ≤ 1024) (h2 : H ≤ 1024) : f_linotyperef32_New W H = some (bls W H) := by
 unfold f_linotyperef32_New
 obtain ⟨t, h3, h4⟩ := iter_for (σ := (List G_api_Line) × Int) (τ := (List G_api_Line)) (n := H) (fuel := ((H : Int) - 0).toNat + 1) (s := (([] : List G_api_Line), 0))
  (fun i q => q = (bls W i, (i : Int))) (fun t => t = bls W H)
  (step := fun s_7 =>
 if (decide (s_7.2 < (H : Int))) = true then
 (rep (W : Int) (⟨0, ([] : List Int)⟩ : G_api_Cell)).bind fun x_14 =>
 (app s_7.1 ([(⟨x_14, false⟩ : G_api_Line)] : List G_api_Line)).bind fun x_17 =>
 some (.inl (x_17, (w64 (s_7.2 + 1))))
 else
 some (.inr (s_7.1)))
  (fun i q hi e => by
   subst e
   refine .inl ⟨_, ?_, rfl⟩
   have e5 : w64 ((i : Int) + 1) = ((i + 1 : Nat) : Int) := by rw [w64_in (by omega)]; simp
   have hd : decide ((i : Int) < (H : Int)) = true := by simp; exact hi
   simp only [hd, if_true, e5]
   rw [rep_eq _ (by omega)]
   simp only [bsm]
   rw [app_eq (by simp [bls]; omega)]
   simp only [bsm]
   unfold bls
   rw [List.replicate_succ']
   rfl)
  (fun q e => ⟨_, by subst e; simp, rfl⟩)
  rfl (by omega)
 subst h4
 rw [h3]
 rfl
theorem alike_true (h : Pv C s k g W q ks) : f_linotypelaw34_Alike s (some k) q = some true := by
 unfold f_linotypelaw34_Alike
 simp only [bsm, h.p, beq_self_eq_true, Bool.and_self, Bool.and_true, andE_true]
 rw [grid_lines h.g]
 simp only [bsm]
 rw [h.l, same_lines (by rw [h.len]; exact h.g.h2) h.g.w2 h.ok]
 rfl
def sil (r : Int) : Bool := (decide (0 ≤ r) && decide (r < 32)) || (decide (127 ≤ r) && decide (r ≤ 159))
theorem silent (r : Int) : f_basew_Silent r = some (sil r) := by
 simp only [f_basew_Silent, andE_some, orE_some, bsm, sil, ge_iff_le]
theorem ref_silent (r : Int) : f_linotyperef18_Silent r = some (sil r) := by
 simp only [f_linotyperef18_Silent, andE_some, orE_some, bsm, sil, ge_iff_le, Option.some.injEq]
 rw [Bool.eq_iff_iff]
 simp
 omega
theorem ref_do_id (r : Int) (h : r ≠ 13 ∧ r ≠ 10 ∧ r ≠ 8) : f_linotyperef36_Do q r = some (q, sil r) := by
 unfold f_linotyperef36_Do
 rw [if_neg (by simpa using h.1)]
 simp only [bsm]
 rw [if_neg (by simpa using h.2.1)]
 simp only [bsm]
 rw [if_neg (by simpa using h.2.2)]
 simp only [bsm]
 rw [ref_silent]
 rfl
theorem ctrl_eq (h : Pv C s k g W q ks) (r : Int) : ∃ s' q' ks', f_ctrl_Do s (some k) r = some (s', sil r) ∧ f_linotyperef36_Do q r = some (q', sil r) ∧ Pv C s' k g W q' ks' ∧ ks'.length = ks.length ∧ (Hd q.At W ks.length → Hd q'.At W ks.length) := by
 have w1 := h.g.w1
 have w2 := h.g.w2
 unfold f_ctrl_Do
 rw [silent]
 simp only [bsm, Option.isNone_some, orE_false, h.p]
 by_cases hs : sil r = true
 ·rw [hs]
  simp only [Bool.not_true, Bool.false_eq_true, if_false]
  rw [grid_wide h.g, grid_high h.g]
  simp only [bsm]
  rw [cur_hold _ h.g.w1 h.g.w2 h.g.h1 h.g.h2]
  have hd := hc_hd q.At h.g.w1 h.g.h1
  have hh := ref_Hold h
  by_cases h13 : r = 13
  ·subst h13
   simp only [bsm, beq_self_eq_true, if_true, f_cursor_Return]
   rw [set_pen (get_lt h.p)]
   refine ⟨_, _, ks, rfl, ?_, h.set ⟨(hc q.At W ks.length).Row, 0, false⟩ q.Auto, rfl, fun _ => ⟨hd.rr, by simp only; omega, fun e => by cases e⟩⟩
   unfold f_linotyperef36_Do
   rw [hh, ref_silent, hs]
   rfl
  by_cases h10 : r = 10
  ·subst h10
   obtain ⟨s', q', ks', a1, a2, v, hn, hnd, _⟩ := newline_eq h
   simp only [bsm]
   rw [if_neg (by decide), if_pos (by decide), a1]
   refine ⟨s', q', ks', rfl, ?_, v, hn, fun _ => hnd⟩
   unfold f_linotyperef36_Do
   rw [if_neg (by decide)]
   simp only [bsm]
   rw [if_pos (by decide), show (⟨q.L, ⟨q.At.Row, q.At.Col, q.At.Pending⟩, q.Auto⟩ : G_linotyperef34_Pen) = q from rfl, a2]
   simp only [bsm]
   rw [if_neg (by decide), ref_silent, hs]
   rfl
  by_cases h8 : r = 8
  ·subst h8
   have hcc := hd.cc
   have hb : f_cursor_Back (hc q.At W ks.length) = some ⟨(hc q.At W ks.length).Row, max 0 ((hc q.At W ks.length).Col - 1), false⟩ := by
    unfold f_cursor_Back
    by_cases h0 : (hc q.At W ks.length).Col > 0
    ·rw [if_pos (by simpa using h0), w64_in (by omega)]
     simp only [bsm, Option.some.injEq, G_api_Cursor.mk.injEq, true_and, and_true]
     omega
    ·rw [if_neg (by simpa using h0)]
     simp only [bsm, Option.some.injEq, G_api_Cursor.mk.injEq, true_and, and_true]
     omega
   simp only [bsm]
   rw [if_neg (by decide), if_neg (by decide), if_pos (by decide), hb]
   simp only [bsm]
   rw [set_pen (get_lt h.p)]
   refine ⟨_, _, ks, rfl, ?_, h.set ⟨(hc q.At W ks.length).Row, max 0 ((hc q.At W ks.length).Col - 1), false⟩ q.Auto, rfl, fun _ => ⟨hd.rr, by simp only; omega, fun e => by cases e⟩⟩
   unfold f_linotyperef36_Do
   rw [if_neg (by decide)]
   simp only [bsm]
   rw [if_neg (by decide)]
   simp only [bsm]
   rw [if_pos (by decide), show (⟨q.L, ⟨q.At.Row, q.At.Col, q.At.Pending⟩, q.Auto⟩ : G_linotyperef34_Pen) = q from rfl, hh]
   simp only [bsm]
   rw [ref_silent, hs, w64_in (by omega), imax_eq]
   rfl
  ·simp only [bsm]
   rw [if_neg (by simpa using h13), if_neg (by simpa using h10), if_neg (by simpa using h8)]
   exact ⟨s, q, ks, rfl, by rw [ref_do_id r ⟨h13, h10, h8⟩, hs], h, rfl, id⟩
 ·have hf : sil r = false := by simpa using hs
  rw [hf]
  simp only [Bool.not_false, if_true]
  have hn : r ≠ 13 ∧ r ≠ 10 ∧ r ≠ 8 := by
   refine ⟨?_, ?_, ?_⟩ <;> (rintro rfl; revert hf; decide)
  exact ⟨s, q, ks, rfl, by rw [ref_do_id r hn, hf], h, rfl, id⟩
end Go.Proofs.YtfhhpdggmefcoaaGreatDoor
namespace Go.Proofs.YtfhhpdggmefcoaaGreatDoor
open Go Go.Lt
def pj (a b : Int) : Int := (f_pairs_Join a b).getD 0
def clz (a : Int) : Int := if a < 0 ∨ 13 < a then 0 else a
def pjT (i j : Nat) : Bool := match f_pairs_Join i j, f_linotyperef14_Join i j with
  | some x, some y => x == y && (x != 2 || ((i == 6) == (j == 6))) && (x == 0 || !(i == 1 || i == 2 || i == 3 || j == 1 || j == 2 || j == 3) || (i == 1 && j == 2))
  | _, _ => false
theorem pj_all : ((List.range 14).all fun i => (List.range 14).all fun j => pjT i j) = true := by kernel_rfl
theorem clz_nat (a : Int) : ∃ i : Nat, clz a = (i : Int) ∧ i < 14 ∧ (0 < i → a = (i : Int)) := by
  unfold clz
  split
  · exact ⟨0, rfl, by omega, fun h => by omega⟩
  · exact ⟨a.toNat, by omega, by omega, fun _ => by omega⟩
theorem pairs_class (a : Int) : f_pairs_class a = some (clz a) := by
  unfold f_pairs_class clz
  simp only [orE_some, bsm]
  by_cases h : a < 0 ∨ 13 < a
  · rw [if_pos (by simp only [Bool.or_eq_true, decide_eq_true_eq]; omega), if_pos h]
  · rw [if_neg (by simp only [Bool.or_eq_true, decide_eq_true_eq]; omega), if_neg h]
theorem clz_clz (a : Int) : clz (clz a) = clz a := by
  unfold clz
  repeat' split
  all_goals omega
theorem pairs_clz (a b : Int) : f_pairs_Join a b = f_pairs_Join (clz a) (clz b) := by
  unfold f_pairs_Join
  rw [pairs_class, pairs_class, pairs_class, pairs_class, clz_clz, clz_clz]
theorem ref14_clz (a b : Int) : f_linotyperef14_Join a b = f_linotyperef14_Join (clz a) (clz b) := by
  have h : ∀ (a : Int), ((orE (decide (a < 0)) (some (decide (a > 13)))).bind fun d_6 => if d_6 = true then (some (0) : Option (Int)) else (some (a) : Option (Int))) = some (clz a) := fun a => by
    have := pairs_class a
    unfold f_pairs_class at this
    exact this
  unfold f_linotyperef14_Join
  rw [h, h, h, h, clz_clz, clz_clz]
theorem pj_tab (a b : Int) : ∃ x, f_pairs_Join a b = some x ∧ f_linotyperef14_Join a b = some x ∧ pj a b = x ∧ (x = 2 → (a = 6 ↔ b = 6)) ∧ (x ≠ 0 → (a = 1 ∨ a = 2 ∨ a = 3 ∨ b = 1 ∨ b = 2 ∨ b = 3) → a = 1 ∧ b = 2) := by
  obtain ⟨i, hi, i14, i0⟩ := clz_nat a
  obtain ⟨j, hj, j14, j0⟩ := clz_nat b
  have h := List.all_eq_true.1 (List.all_eq_true.1 pj_all i (List.mem_range.2 i14)) j (List.mem_range.2 j14)
  have ia : ∀ n : Nat, 0 < n → n < 14 → (a = (n : Int) ↔ i = n) := fun n h0 h1 => by
    constructor
    · intro e
      unfold clz at hi
      split at hi <;> omega
    · intro e; subst e; exact i0 h0
  have jb : ∀ n : Nat, 0 < n → n < 14 → (b = (n : Int) ↔ j = n) := fun n h0 h1 => by
    constructor
    · intro e
      unfold clz at hj
      split at hj <;> omega
    · intro e; subst e; exact j0 h0
  have a1 := ia 1 (by omega) (by omega)
  have a2 := ia 2 (by omega) (by omega)
  have a3 := ia 3 (by omega) (by omega)
  have a6 := ia 6 (by omega) (by omega)
  have b1 := jb 1 (by omega) (by omega)
  have b2 := jb 2 (by omega) (by omega)
  have b3 := jb 3 (by omega) (by omega)
  have b6 := jb 6 (by omega) (by omega)
  unfold pj
  rw [pairs_clz, ref14_clz, hi, hj]
  unfold pjT at h
  split at h
  · rename_i x y e1 e2
    simp only [Bool.and_eq_true, Bool.or_eq_true, beq_iff_eq, bne_iff_ne, ne_eq, Bool.not_eq_true', Bool.or_eq_false_iff, beq_eq_false_iff_ne] at h
    obtain ⟨⟨hxy, h2⟩, h3⟩ := h
    subst hxy
    refine ⟨x, e1, e2, by rw [e1]; rfl, fun hx => ?_, fun hx hc => ?_⟩
    · rcases h2 with q | q
      · exact absurd hx q
      · have q1 : (i == 6) = (j == 6) := q
        rw [Bool.eq_iff_iff, beq_iff_eq, beq_iff_eq] at q1
        omega
    · rcases h3 with (q | q) | q
      · exact absurd q hx
      · exfalso
        omega
      · omega
  · cases h
theorem pj_join (a b : Int) : f_pairs_Join a b = some (pj a b) := by
  obtain ⟨x, h1, _, h3, _⟩ := pj_tab a b
  rw [h1, h3]
theorem pj_ref (a b : Int) : f_linotyperef14_Join a b = some (pj a b) := by
  obtain ⟨x, _, h2, h3, _⟩ := pj_tab a b
  rw [h2, h3]
theorem pj_two (a b : Int) (h : pj a b = 2) : a = 6 ↔ b = 6 := by
  obtain ⟨x, _, _, h3, h4, _⟩ := pj_tab a b
  exact h4 (by omega)
def sgB (s : Sg) : G_seg_State := ⟨s.some, s.last, s.pict, s.conj, s.odd⟩
theorem seg_step (s : Sg) (p : G_api_Prop) : f_seg_State_Step__feed_Feeder_6 (sgB s) p = some (sgB (sgN s p), sgJ pj s p) := by
  have hj : f_seg_State_joins__feed_Feeder_6 (sgB s) p = some (sgJ pj s p) := by
    unfold f_seg_State_joins__feed_Feeder_6 sgB sgJ
    simp only [andE_some, bsm, pj_join]
    cases s.some with
    | false => rfl
    | true =>
      simp only [Bool.not_true, Bool.false_eq_true, if_false, Bool.true_and]
      cases h1 : (p.Conj == 1 && s.conj == 2) with
      | true => rfl
      | false =>
        simp only [Bool.false_eq_true, if_false, bsm, Bool.false_or]
        cases h2 : (p.Pict && s.pict == 2) with
        | true => rfl
        | false =>
          simp only [Bool.false_eq_true, if_false, Bool.false_or]
          by_cases h3 : pj s.last p.Break = 1
          · rw [if_pos (by simpa using h3), h3]
            rfl
          · rw [if_neg (by simpa using h3), show (pj s.last p.Break == 1) = false by simpa using h3, Bool.false_or]
            by_cases h4 : pj s.last p.Break = 2
            · rw [if_pos (by simpa using h4), h4]
              rfl
            · rw [if_neg (by simpa using h4), show (pj s.last p.Break == 2) = false by simpa using h4]
              rfl
  have hp : f_seg_State_picture__feed_Feeder_6 (sgB s) p = some (nxP s.pict p) := by
    unfold f_seg_State_picture__feed_Feeder_6 sgB nxP
    simp only [andE_some, bsm]
    by_cases h1 : p.Pict = true
    · rw [if_pos h1, if_pos h1]
    · rw [if_neg h1, if_neg h1]
      by_cases h2 : s.pict = 1 ∧ p.Break = 4
      · rw [if_pos (by simpa using h2), if_pos h2]
      · rw [if_neg (by simpa using h2), if_neg h2]
        by_cases h3 : s.pict = 1 ∧ p.Break = 5
        · rw [if_pos (by simpa using h3), if_pos h3]
        · rw [if_neg (by simpa using h3), if_neg h3]
  have hc : f_seg_State_conjunct__feed_Feeder_6 (sgB s) p = some (nxC s.conj p) := by
    unfold f_seg_State_conjunct__feed_Feeder_6 sgB nxC
    simp only [beq_iff_eq]
    repeat' split
    all_goals rfl
  unfold f_seg_State_Step__feed_Feeder_6
  simp only [Bool.false_eq_true, if_false]
  rw [hj, hp, hc]
  simp only [bsm, andE_some]
  rfl
theorem seg_reset (d : G_seg_State) : f_seg_State_Reset__feed_Feeder_6 d = some (sgB sg0) := rfl
theorem take_rev {α : Type} {l : List α} {k : Nat} (h : k < l.length) : (l.take (k + 1)).reverse = l[k] :: (l.take k).reverse := by
  rw [List.take_succ_eq_append_getElem h, List.reverse_append]
  rfl
theorem cj_cons (x : G_api_Prop) (l : List G_api_Prop) (n : Nat) : cj (x :: l) n = if x.Conj = 1 then decide (0 < n) else if x.Conj = 2 then cj l (n + 1) else if x.Conj = 3 then cj l n else false := rfl
theorem pk_cons (x : G_api_Prop) (l : List G_api_Prop) : pk (x :: l) = if x.Pict = true then true else if x.Break = 4 then pk l else false := rfl
theorem ri_cons (x : G_api_Prop) (l : List G_api_Prop) : ri (x :: l) = if x.Break = 6 then ri l + 1 else 0 := rfl
theorem ref15_conj {P : List G_api_Prop} (hP : P.length ≤ 1000000) {i : Nat} (hi : i < P.length) : f_linotyperef15_conjunct P i = some (P[i].Conj == 1 && cj (P.take i).reverse 0) := by
  unfold f_linotyperef15_conjunct
  rw [idx_at hi]
  simp only [bsm]
  by_cases h1 : P[i].Conj = 1
  · rw [if_neg (by simpa using h1), show (P[i].Conj == 1) = true by simpa using h1, Bool.true_and]
    have e1 : w64 ((i : Int) - 1) = (i : Int) - 1 := w64_in (by omega)
    rw [e1]
    refine iter_invB (fun s => ∃ k n : Nat, s = ((n : Int), (k : Int) - 1) ∧ k ≤ i ∧ n + k ≤ i ∧ cj (P.take k).reverse n = cj (P.take i).reverse 0) (fun s => (s.2 + 1).toNat) (fun u => (match u with | .inl b => b | .inr _ => false) = cj (P.take i).reverse 0) (fun s hs => ?_) ⟨i, 0, rfl, Nat.le_refl _, by omega, rfl⟩ (by simp only; omega) (fun u hu => ?_)
    · obtain ⟨k, n, rfl, hk, hn, hI⟩ := hs
      simp only
      cases k with
      | zero =>
        rw [if_neg (by simp)]
        exact .inr ⟨_, rfl, by rw [← hI]; rfl⟩
      | succ k =>
        have e2 : ((k + 1 : Nat) : Int) - 1 = (k : Int) := by omega
        have hkl : k < P.length := by omega
        rw [take_rev hkl] at hI
        rw [cj_cons] at hI
        rw [e2, if_pos (by simp), idx_at hkl]
        simp only [bsm]
        by_cases c1 : P[k].Conj = 1
        · rw [if_pos (by simpa using c1)]
          rw [if_pos c1] at hI
          exact .inr ⟨_, rfl, by rw [← hI]; simp⟩
        · rw [if_neg (by simpa using c1)]
          rw [if_neg c1] at hI
          have e3 : w64 ((k : Int) - 1) = (k : Int) - 1 := w64_in (by omega)
          have e4 : w64 ((n : Int) + 1) = ((n + 1 : Nat) : Int) := by rw [w64_in (by omega)]; simp
          simp only [andE_some, bsm, e3, e4]
          by_cases c2 : P[k].Conj = 2
          · rw [if_pos (by simpa using c2)]
            simp only [bsm]
            rw [if_neg (by simp [c2])]
            rw [if_pos c2] at hI
            exact .inl ⟨_, rfl, ⟨k, n + 1, rfl, by omega, by omega, hI⟩, by simp only; omega⟩
          · rw [if_neg (by simpa using c2)]
            rw [if_neg c2] at hI
            simp only [bsm]
            by_cases c3 : P[k].Conj = 3
            · rw [if_neg (by simp [c3])]
              rw [if_pos c3] at hI
              exact .inl ⟨_, rfl, ⟨k, n, rfl, by omega, by omega, hI⟩, by simp only; omega⟩
            · rw [if_pos (by simp [c2, c3])]
              rw [if_neg c3] at hI
              exact .inr ⟨_, rfl, by rw [← hI]⟩
    · cases u with
      | inl b => simp only at hu ⊢; rw [hu]
      | inr u => simp only at hu ⊢; rw [hu]
  · rw [if_pos (by simpa using h1), show (P[i].Conj == 1) = false by simpa using h1]
    rfl
theorem ref15_pict {P : List G_api_Prop} (hP : P.length ≤ 1000000) {i : Nat} (hi : i < P.length) (h0 : 1 ≤ i) : f_linotyperef15_picture P i = some (P[i].Pict && (!(P[i - 1]'(by omega)).Pict && (P[i - 1]'(by omega)).Break == 5 && pk (P.take (i - 1)).reverse)) := by
  have e1 : w64 ((i : Int) - 1) = ((i - 1 : Nat) : Int) := by rw [w64_in (by omega)]; omega
  unfold f_linotyperef15_picture
  rw [idx_at hi, e1, idx_at (show i - 1 < P.length by omega)]
  simp only [bsm, orE_some]
  by_cases hc : P[i].Pict = true ∧ 2 ≤ i ∧ (P[i - 1]'(by omega)).Break = 5 ∧ (P[i - 1]'(by omega)).Pict = false
  · obtain ⟨c1, c2, c3, c4⟩ := hc
    rw [if_neg (by rw [c1, c3, c4]; simp; omega), c1, c3, c4]
    simp only [Bool.not_false, beq_self_eq_true, Bool.true_and]
    have e2 : w64 ((i : Int) - 2) = ((i - 1 : Nat) : Int) - 1 := by rw [w64_in (by omega)]; omega
    rw [e2]
    refine iter_invB (fun s => ∃ k : Nat, s = (k : Int) - 1 ∧ k ≤ i - 1 ∧ pk (P.take k).reverse = pk (P.take (i - 1)).reverse) (fun s => (s + 1).toNat) (fun u => (match u with | .inl b => b | .inr _ => false) = pk (P.take (i - 1)).reverse) (fun s hs => ?_) ⟨i - 1, rfl, Nat.le_refl _, rfl⟩ (by omega) (fun u hu => ?_)
    · obtain ⟨k, rfl, hk, hI⟩ := hs
      cases k with
      | zero =>
        rw [if_neg (by simp)]
        exact .inr ⟨_, rfl, by rw [← hI]; rfl⟩
      | succ k =>
        have e2 : ((k + 1 : Nat) : Int) - 1 = (k : Int) := by omega
        have hkl : k < P.length := by omega
        rw [take_rev hkl] at hI
        rw [pk_cons] at hI
        rw [e2, if_pos (by simp), idx_at hkl]
        simp only [bsm]
        by_cases d1 : P[k].Pict = true
        · rw [if_pos d1]
          rw [if_pos d1] at hI
          exact .inr ⟨_, rfl, by rw [← hI]⟩
        · rw [if_neg d1]
          rw [if_neg d1] at hI
          by_cases d2 : P[k].Break = 4
          · rw [if_neg (by simpa using d2), w64_in (by omega)]
            rw [if_pos d2] at hI
            exact .inl ⟨_, rfl, ⟨k, rfl, by omega, hI⟩, by omega⟩
          · rw [if_pos (by simpa using d2)]
            rw [if_neg d2] at hI
            exact .inr ⟨_, rfl, by rw [← hI]⟩
    · cases u with
      | inl b => simp only at hu ⊢; rw [hu]
      | inr u => simp only at hu ⊢; rw [hu]
  · rw [if_pos ?_]
    · congr 1
      rw [eq_comm, Bool.eq_false_iff]
      intro hh
      simp only [Bool.and_eq_true, Bool.not_eq_true', beq_iff_eq] at hh
      obtain ⟨g1, ⟨g2, g3⟩, g4⟩ := hh
      by_cases h2 : 2 ≤ i
      · exact hc ⟨g1, h2, g3, g2⟩
      · rw [show i - 1 = 0 by omega] at g4
        simp [pk] at g4
    · simp only [Bool.or_eq_true, Bool.not_eq_true', decide_eq_true_eq, bne_iff_ne, ne_eq]
      by_cases g1 : P[i].Pict = true
      · by_cases g2 : 2 ≤ i
        · by_cases g3 : (P[i - 1]'(by omega)).Break = 5
          · right
            cases g4 : (P[i - 1]'(by omega)).Pict with
            | true => rfl
            | false => exact absurd ⟨g1, g2, g3, g4⟩ hc
          · exact .inl (.inr g3)
        · exact .inl (.inl (.inr (by omega)))
      · exact .inl (.inl (.inl (by simpa using g1)))
theorem ref15_ri {P : List G_api_Prop} (hP : P.length ≤ 1000000) {i : Nat} (hi : i < P.length) : (iter (σ := Int × Int) (τ := Int) (((w64 ((i : Int) - 1)) - 0).toNat + 2) (fun s_62 =>
 (andE (decide (s_62.2 ≥ 0)) ((idx P s_62.2).bind fun x_69 =>
 some (x_69.Break == 6))).bind fun d_65 =>
 if d_65 = true then
 some (.inl ((w64 (s_62.1 + 1)), (w64 (s_62.2 - 1))))
 else
 some (.inr (s_62.1))) (0, (w64 ((i : Int) - 1)))) = some (ri (P.take i).reverse : Int) := by
  have e1 : w64 ((i : Int) - 1) = (i : Int) - 1 := w64_in (by omega)
  rw [e1]
  obtain ⟨t, h1, h2⟩ := iter_inv (σ := Int × Int) (τ := Int) (step := fun s_62 =>
 (andE (decide (s_62.2 ≥ 0)) ((idx P s_62.2).bind fun x_69 =>
 some (x_69.Break == 6))).bind fun d_65 =>
 if d_65 = true then
 some (.inl ((w64 (s_62.1 + 1)), (w64 (s_62.2 - 1))))
 else
 some (.inr (s_62.1))) (fun s => ∃ k n : Nat, s = ((n : Int), (k : Int) - 1) ∧ k ≤ i ∧ n + k ≤ i ∧ n + ri (P.take k).reverse = ri (P.take i).reverse) (fun s => (s.2 + 1).toNat) (fun t => t = (ri (P.take i).reverse : Int)) (fun s hs => by
      obtain ⟨k, n, rfl, hk, hn, hI⟩ := hs
      simp only
      cases k with
      | zero =>
        rw [show decide (((0 : Nat) : Int) - 1 ≥ 0) = false by simp, andE_false]
        exact .inr ⟨_, rfl, by rw [← hI]; simp [ri]⟩
      | succ k =>
        have e2 : ((k + 1 : Nat) : Int) - 1 = (k : Int) := by omega
        have hkl : k < P.length := by omega
        rw [take_rev hkl] at hI
        rw [ri_cons] at hI
        rw [e2, show decide ((k : Int) ≥ 0) = true by simp, andE_true, idx_at hkl]
        simp only [bsm]
        by_cases c1 : P[k].Break = 6
        · rw [if_pos (by simpa using c1), w64_in (by omega), w64_in (by omega)]
          rw [if_pos c1] at hI
          exact .inl ⟨_, rfl, ⟨k, n + 1, by simp, by omega, by omega, by omega⟩, by simp only; omega⟩
        · rw [if_neg (by simpa using c1)]
          rw [if_neg c1] at hI
          exact .inr ⟨_, rfl, by rw [← hI]; simp⟩) ((((i : Int) - 1) - 0).toNat + 2) (0, (i : Int) - 1) ⟨i, 0, rfl, Nat.le_refl _, by omega, by omega⟩ (by simp only; omega)
  rw [h1, h2]
theorem ref15_joins {P : List G_api_Prop} (hP : P.length ≤ 1000000) {i : Nat} (hi : i < P.length) : f_linotyperef15_Joins P i = some (rj pj (P.take i).reverse P[i]) := by
  unfold f_linotyperef15_Joins
  simp only [orE_some, bsm]
  by_cases h0 : i = 0
  · subst h0
    rw [if_pos (by simp)]
    rfl
  · obtain ⟨j, rfl⟩ : ∃ j, i = j + 1 := ⟨i - 1, by omega⟩
    rw [if_neg (by simp; omega)]
    have e1 : w64 (((j + 1 : Nat) : Int) - 1) = (j : Int) := by rw [w64_in (by omega)]; omega
    have hj : j < P.length := by omega
    have hp := ref15_pict hP hi (by omega)
    simp only [Nat.add_sub_cancel] at hp
    have hr := ref15_ri hP hi
    rw [e1] at hr ⊢
    rw [idx_at hj, idx_at hi]
    simp only [bsm, pj_ref, ref15_conj hP hi, hp]
    simp only [orE_some, bsm]
    rw [take_rev hj]
    unfold rj
    simp only
    rw [take_rev hj] at hr
    generalize hA : (pj P[j].Break P[j + 1].Break == 1 || (P[j + 1].Conj == 1 && cj (P[j] :: (P.take j).reverse) 0) || (P[j + 1].Pict && (!P[j].Pict && P[j].Break == 5 && pk (P.take j).reverse))) = A
    cases A with
    | true => simp
    | false =>
      simp only [Bool.false_eq_true, if_false, Bool.false_or]
      by_cases hc : pj P[j].Break P[j + 1].Break = 2 ∧ P[j + 1].Break = 6
      · have b1 : (pj P[j].Break P[j + 1].Break == 2) = true := by rw [beq_iff_eq]; exact hc.1
        have b2 : (P[j + 1].Break == 6) = true := by rw [beq_iff_eq]; exact hc.2
        have b3 : (pj P[j].Break P[j + 1].Break != 2) = false := by rw [bne, b1]; rfl
        have b4 : (P[j + 1].Break != 6) = false := by rw [bne, b2]; rfl
        rw [if_neg (by rw [b3, b4]; simp), hr]
        simp only [bsm, b1, b2, Bool.true_and, Option.some.injEq]
        rw [Bool.eq_iff_iff, beq_iff_eq, beq_iff_eq, Int.tmod_eq_emod_of_nonneg (by omega)]
        omega
      · rw [if_pos (by simp only [Bool.or_eq_true, bne_iff_ne, ne_eq]; omega)]
        congr 1
        rw [eq_comm, Bool.eq_false_iff]
        simp only [ne_eq, Bool.and_eq_true, beq_iff_eq]
        exact fun h => hc ⟨h.1.1, h.1.2⟩
def R32 (l : List Int) : Prop := ∀ x ∈ l, r32 x
theorem props_loop (l : List Int) (h : R32 l) (hl : l.length ≤ 1000000) : (iter (σ := (List G_api_Prop) × Int) (τ := (List G_api_Prop)) (((l.length : Int) - 0).toNat + 1) (fun s_7 =>
 if (decide (s_7.2 < (l.length : Int))) = true then
 (idx l s_7.2).bind fun x_16 =>
 (f_linotyperef13_Of x_16).bind fun x_18 =>
 (app s_7.1 ([x_18] : List G_api_Prop)).bind fun x_20 =>
 some (.inl (x_20, (w64 (s_7.2 + 1))))
 else
 some (.inr (s_7.1))) (([] : List G_api_Prop), 0)) = some (l.map pr) := by
  obtain ⟨t, h1, h2⟩ := iter_for (σ := (List G_api_Prop) × Int) (τ := (List G_api_Prop)) (n := l.length) (fuel := ((l.length : Int) - 0).toNat + 1) (s := (([] : List G_api_Prop), 0))
    (fun i s => s = ((l.take i).map pr, (i : Int))) (fun t => t = l.map pr) (step := fun s_7 =>
 if (decide (s_7.2 < (l.length : Int))) = true then
 (idx l s_7.2).bind fun x_16 =>
 (f_linotyperef13_Of x_16).bind fun x_18 =>
 (app s_7.1 ([x_18] : List G_api_Prop)).bind fun x_20 =>
 some (.inl (x_20, (w64 (s_7.2 + 1))))
 else
 some (.inr (s_7.1)))
    (fun i s hi e => by
      subst e
      simp only
      rw [if_pos (dlt hi), idx_at hi, w64_succ hi (by omega)]
      simp only [bsm]
      rw [ref13 _ (h _ (List.getElem_mem hi))]
      simp only [bsm]
      rw [app_eq (by simp; omega)]
      refine .inl ⟨_, rfl, ?_⟩
      rw [List.take_succ_eq_append_getElem hi, List.map_append]
      rfl)
    (fun s e => by subst e; exact ⟨_, by simp only; rw [if_neg (by simp)], by rw [List.take_of_length_le (Nat.le_refl _)]⟩)
    rfl (by omega)
  rw [h1, h2]
theorem props_eq (l : List Int) (h : R32 l) (hl : l.length ≤ 1000000) : f_linotyperef16_Props l = some (l.map pr) := by
  unfold f_linotyperef16_Props
  rw [props_loop l h hl]
  rfl
theorem joins_jn {l : List Int} (hl : l.length ≤ 1000000) {i : Nat} (hi : i < l.length) : f_linotyperef15_Joins (l.map pr) i = some (jn pj pr (l.take i) l[i]) := by
  rw [ref15_joins (by simpa using hl) (by simpa using hi)]
  unfold jn
  rw [sgJ_eq pj pj_two, List.getElem_map, List.map_take]
theorem starts_eq (l : List Int) (h : R32 l) (hl : l.length ≤ 1000000) : f_linotyperef16_Starts l = some ((sts pj pr l).map fun n : Nat => (n : Int)) := by
  unfold f_linotyperef16_Starts
  rw [props_eq l h hl]
  simp only [bsm, List.length_map]
  have hsl : ∀ l : List Int, (sts pj pr l).length ≤ l.length := fun l => by
    unfold sts
    exact Nat.le_trans (List.length_filter_le _ _) (by simp)
  refine iter_forB (n := l.length) (fun i s => s = ((sts pj pr (l.take i)).map fun n : Nat => (n : Int), (i : Int))) (fun u => u = (sts pj pr l).map fun n : Nat => (n : Int)) (fun i s hi e => ?_) (fun s e => ?_) rfl (by omega) (fun u hu => by rw [hu])
  · subst e
    simp only
    rw [if_pos (dlt hi), joins_jn hl hi, w64_succ hi (by omega)]
    simp only [bsm]
    rw [List.take_succ_eq_append_getElem hi, sts_snoc]
    have hle := hsl (l.take i)
    rw [List.length_take] at hle
    cases jn pj pr (l.take i) l[i] with
    | true =>
      simp only [Bool.not_true, Bool.false_eq_true, if_false, bsm, if_true, List.append_nil]
      exact .inl ⟨_, rfl, rfl⟩
    | false =>
      simp only [Bool.not_false, if_true, Bool.false_eq_true, if_false]
      rw [app_eq (by simp; omega)]
      refine .inl ⟨_, rfl, ?_⟩
      rw [List.map_append, List.length_take, Nat.min_eq_left (Nat.le_of_lt hi)]
      rfl
  · subst e
    exact ⟨_, by simp only; rw [if_neg (by simp)], by rw [List.take_of_length_le (Nat.le_refl _)]⟩
theorem sts_inc (l : List Int) : (sts pj pr l ++ [l.length]).Pairwise (· < ·) := by
  rw [List.pairwise_append]
  refine ⟨?_, by simp, fun a ha b hb => ?_⟩
  · unfold sts
    exact List.Pairwise.filter _ List.pairwise_lt_range
  · rw [List.mem_singleton.1 hb]
    exact sts_lt ha
theorem clusters_eq (l : List Int) (h : R32 l) (hl : l.length ≤ 1000000) : f_linotyperef16_Clusters l = some (cls pj pr l) := by
  have hsl : (sts pj pr l).length ≤ l.length := by
    unfold sts
    exact Nat.le_trans (List.length_filter_le _ _) (by simp)
  unfold f_linotyperef16_Clusters
  rw [starts_eq l h hl]
  simp only [bsm]
  rw [app_eq (by simp; omega)]
  simp only [bsm]
  have e0 : ((sts pj pr l).map fun n : Nat => (n : Int)) ++ [(l.length : Int)] = (sts pj pr l ++ [l.length]).map fun n : Nat => (n : Int) := by rw [List.map_append]; rfl
  rw [e0, ← pcs_cls (pj := pj) (pr := pr) l]
  have hinc := sts_inc l
  have hAl : (sts pj pr l ++ [l.length]).length = (sts pj pr l).length + 1 := by simp
  have hle : ∀ a ∈ sts pj pr l ++ [l.length], a ≤ l.length := fun a ha => by
    rcases List.mem_append.1 ha with ha | ha
    · exact Nat.le_of_lt (sts_lt ha)
    · rw [List.mem_singleton.1 ha]; exact Nat.le_refl _
  generalize sts pj pr l ++ [l.length] = A at *
  simp only [List.length_map]
  have e1 : w64 (0 + 1) = 1 := rfl
  rw [e1]
  refine iter_forB (n := A.length - 1) (fun i s => s = ((List.range i).map (fun i => slx l (A.getD i 0) (A.getD (i + 1) 0)), (i : Int))) (fun u => u = pcs l A) (fun i s hi e => ?_) (fun s e => ?_) rfl (by omega) (fun u hu => by rw [hu])
  · subst e
    have hi1 : i + 1 < A.length := by omega
    simp only
    rw [w64_succ (show i < A.length by omega) (by omega), if_pos (by simp; omega)]
    rw [idx_at (show i < (A.map fun n : Nat => (n : Int)).length by simp; omega), idx_at (show i + 1 < (A.map fun n : Nat => (n : Int)).length by simp; omega)]
    simp only [bsm, List.getElem_map]
    have hlt := List.pairwise_iff_getElem.1 hinc i (i + 1) (by omega) hi1 (by omega)
    have hb := hle _ (List.getElem_mem hi1)
    rw [slc_eq (by omega) hb]
    simp only [bsm]
    rw [app_eq (by simp; omega), List.nil_append]
    simp only [bsm]
    rw [app_eq (by simp; omega)]
    refine .inl ⟨_, rfl, ?_⟩
    rw [List.range_succ, List.map_append]
    simp only [List.map_cons, List.map_nil, Prod.mk.injEq, and_true]
    congr 2
    unfold slx
    have g : ∀ j (h : j < A.length), A.getD j 0 = A[j] := fun j h => by rw [List.getD_eq_getElem?_getD, List.getElem?_eq_getElem h]; rfl
    rw [g i (by omega), g (i + 1) hi1]
  · subst e
    refine ⟨_, ?_, rfl⟩
    simp only
    rw [w64_in (by omega), if_neg (by simp; omega)]
    rfl
def silT (n : Nat) : Bool := !sil n || (((pr n).Break == 1 || (pr n).Break == 2 || (pr n).Break == 3) && !(pr n).Pict && (pr n).Conj == 0)
theorem sil_all : (List.range 160).all silT = true := by kernel_rfl
theorem gT_sil : gT.all (fun x => !(x.2.2 == 1 || x.2.2 == 2) || (decide (0 ≤ x.1) && decide (x.2.1 ≤ 31))) = true := by kernel_rfl
theorem sil_in {r : Int} (h : sil r = true) : 0 ≤ r ∧ r < 160 := by
  unfold sil at h
  simp only [Bool.or_eq_true, Bool.and_eq_true, decide_eq_true_eq] at h
  omega
theorem silS : Sil pj pr sil := by
  refine ⟨fun r hr => ?_, fun a b ha hne => ?_, fun a b hb hne => ?_, fun r hr => ?_⟩
  · obtain ⟨h1, h2⟩ := sil_in hr
    have := List.all_eq_true.1 sil_all r.toNat (List.mem_range.2 (by omega))
    unfold silT at this
    rw [Int.toNat_of_nonneg h1, hr] at this
    simp only [Bool.not_true, Bool.false_or, Bool.and_eq_true, Bool.or_eq_true, beq_iff_eq, Bool.not_eq_true'] at this
    obtain ⟨⟨q1, q2⟩, q3⟩ := this
    exact ⟨by rcases q1 with (q | q) | q <;> simp [q], q2, q3⟩
  · obtain ⟨x, _, _, h3, _, h5⟩ := pj_tab a b
    exact h5 (by omega) (by omega)
  · obtain ⟨x, _, _, h3, _, h5⟩ := pj_tab a b
    exact h5 (by omega) (by omega)
  · have e : (pr r).Break = (lk gT r).getD (hcl r) := rfl
    rw [e] at hr
    have hh : hcl r = 9 ∨ hcl r = 10 ∨ hcl r = 11 ∨ hcl r = 0 ∨ hcl r = 12 ∨ hcl r = 13 := by
      unfold hcl
      repeat' split
      all_goals simp
    cases hx : fnd (fun x : Int × Int × Int => x.1) (fun x => x.2.1) gT r with
    | none =>
      unfold lk at hr
      rw [hx] at hr
      simp only [Option.map_none, Option.getD_none] at hr
      omega
    | some x =>
      unfold lk at hr
      rw [hx] at hr
      simp only [Option.map_some, Option.getD_some] at hr
      obtain ⟨m1, m2⟩ := fnd_mem hx
      have := List.all_eq_true.1 gT_sil x m1
      rw [onn_iff] at m2
      simp only [Bool.or_eq_true, Bool.not_eq_true', Bool.or_eq_false_iff, beq_eq_false_iff_ne, Bool.and_eq_true, decide_eq_true_eq] at this
      unfold sil
      simp only [Bool.or_eq_true, Bool.and_eq_true, decide_eq_true_eq]
      omega
def fo {α β : Type} (f : β → α → Option β) : β → List α → Option β
  | b, [] => some b
  | b, a :: l => (f b a).bind fun b' => fo f b' l
theorem fo_app {α β : Type} (f : β → α → Option β) (b : β) (l m : List α) : fo f b (l ++ m) = (fo f b l).bind fun b' => fo f b' m := by
  induction l generalizing b with
  | nil => rfl
  | cons a l ih =>
    show (f b a).bind (fun b' => fo f b' (l ++ m)) = ((f b a).bind fun b' => fo f b' l).bind fun b' => fo f b' m
    rw [Option.bind_assoc]
    congr 1
    funext b'
    exact ih b'
theorem fo_snoc {α β : Type} (f : β → α → Option β) (b : β) (l : List α) (a : α) : fo f b (l ++ [a]) = (fo f b l).bind fun b' => f b' a := by
  rw [fo_app]
  congr 1
  funext b'
  show (f b' a).bind (fun b' => some b') = f b' a
  cases f b' a <;> rfl
theorem fo_take {α β : Type} {f : β → α → Option β} {b : β} {l : List α} {r : β} (h : fo f b l = some r) (i : Nat) : ∃ q, fo f b (l.take i) = some q := by
  rw [← List.take_append_drop i l, fo_app] at h
  cases hq : fo f b (l.take i) with
  | none => rw [hq] at h; cases h
  | some q => exact ⟨q, rfl⟩
theorem fo_next {α β : Type} {f : β → α → Option β} {b : β} {l : List α} {r q : β} (h : fo f b l = some r) {i : Nat} (hi : i < l.length) (hq : fo f b (l.take i) = some q) : ∃ q', f q l[i] = some q' ∧ fo f b (l.take (i + 1)) = some q' := by
  obtain ⟨q', e⟩ := fo_take h (i + 1)
  refine ⟨q', ?_, e⟩
  rw [List.take_succ_eq_append_getElem hi, fo_snoc, hq] at e
  exact e
def do36 (q : G_linotyperef34_Pen) (r : Int) : Option G_linotyperef34_Pen := (f_linotyperef36_Do q r).map (·.1)
def w16 (c : List Int) : Int := wz (gf (c.take 16) ((c.take 16).map pr))
def layc (q : G_linotyperef34_Pen) (c : List Int) : Option G_linotyperef34_Pen :=
  if sil (c.headD 0) = true then fo do36 q c else (f_linotyperef34_Pen_Put q (w16 c) (c.take 16)).map (·.1)
theorem layc_sil {q : G_linotyperef34_Pen} {a : Int} {t : List Int} (h : sil a = true) : layc q (a :: t) = fo do36 q (a :: t) := by
  unfold layc
  rw [if_pos (show sil ((a :: t).headD 0) = true from h)]
theorem layc_not {q : G_linotyperef34_Pen} {a : Int} {t : List Int} (h : sil a = false) : layc q (a :: t) = (f_linotyperef34_Pen_Put q (w16 (a :: t)) ((a :: t).take 16)).map (·.1) := by
  unfold layc
  rw [if_neg (show ¬ sil ((a :: t).headD 0) = true by rw [List.headD_cons, h]; simp)]
theorem first_eq (c : List Int) (hl : c.length ≤ 1000000) : f_linotyperef21_First c = some (c.take 16) := by
  unfold f_linotyperef21_First
  have hmin : imin (c.length : Int) 16 = ((min c.length 16 : Nat) : Int) := by rw [imin_eq]; omega
  have := slc_eq (xs := c) (i := 0) (j := min c.length 16) (Nat.zero_le _) (by omega)
  rw [show ((0 : Nat) : Int) = 0 from rfl] at this
  rw [hmin, this]
  simp only [bsm, List.drop_zero, Nat.sub_zero]
  rw [app_eq (by simp; omega), List.nil_append]
  simp only [bsm]
  rw [show c.take (min c.length 16) = c.take 16 by rw [List.take_eq_take_iff]; omega]
theorem wide_eq (c : List Int) (h : R32 c) (hl : c.length ≤ 1000000) (hne : c ≠ []) : f_linotyperef21_Wide c = some (if sil (c.headD 0) = true then 0 else w16 c) := by
  cases c with
  | nil => exact absurd rfl hne
  | cons a t =>
    unfold f_linotyperef21_Wide
    rw [show idx (a :: t) 0 = some a from rfl]
    simp only [bsm, ref_silent]
    by_cases hs : sil a = true
    · rw [if_pos hs, if_pos (show sil ((a :: t).headD 0) = true from hs)]
    · rw [if_neg hs, if_neg (show ¬ sil ((a :: t).headD 0) = true from hs), first_eq _ hl]
      simp only [bsm]
      have ht : ((a :: t).take 16).length ≤ 16 := by rw [List.length_take]; omega
      have hr : R32 ((a :: t).take 16) := fun x hx => h x (List.mem_of_mem_take hx)
      unfold f_linotyperef19_Of
      rw [props_loop _ hr (by omega)]
      simp only [bsm]
      rw [row19 _ _ (by simp) (by omega)]
      rfl
theorem lay_eq {p q : G_linotyperef34_Pen} {l : List Int} (h : R32 l) (hl : l.length ≤ 1000000) (hq : fo layc p (cls pj pr l) = some q) : f_linotyperef37_Lay p l = some q := by
  obtain ⟨hf, hne, _⟩ := cls_flat (pj := pj) (pr := pr) l
  have hmem : ∀ c ∈ (cls pj pr l), ∀ x ∈ c, x ∈ l := fun c hc x hx => by rw [← hf]; exact List.mem_flatten.2 ⟨c, hc, hx⟩
  have hcl : ∀ c ∈ (cls pj pr l), c.length ≤ l.length := fun c hc => by
    obtain ⟨i, hi, rfl⟩ := List.mem_iff_getElem.1 hc
    have e : (cls pj pr l).flatten = ((cls pj pr l).take i).flatten ++ ((cls pj pr l)[i] ++ ((cls pj pr l).drop (i + 1)).flatten) := by
      rw [← List.flatten_cons, ← List.flatten_append, ← List.drop_eq_getElem_cons hi, List.take_append_drop]
    have := congrArg List.length e
    rw [hf] at this
    simp only [List.length_append] at this
    omega
  have hcn : (cls pj pr l).length ≤ l.length := by
    have key : ∀ cs : List (List Int), (∀ c ∈ cs, c ≠ []) → cs.length ≤ cs.flatten.length := by
      intro cs
      induction cs with
      | nil => intro _; simp
      | cons c cs ih =>
        intro h
        have h1 := ih fun d hd => h d (List.mem_cons_of_mem _ hd)
        have h2 : 1 ≤ c.length := by
          cases c with
          | nil => exact absurd rfl (h [] (by simp))
          | cons _ _ => simp
        simp only [List.flatten_cons, List.length_cons, List.length_append]
        omega
    have := key (cls pj pr l) hne
    rw [hf] at this
    exact this
  unfold f_linotyperef37_Lay
  rw [clusters_eq l h hl]
  simp only [bsm]
  generalize (cls pj pr l) = cs at *
  refine iter_forB (n := cs.length) (fun i st => ∃ qi, fo layc p (cs.take i) = some qi ∧ st = ((i : Int), qi.L, qi.At.Row, qi.At.Col, qi.At.Pending, qi.Auto)) (fun u => u = (q.L, q.At.Row, q.At.Col, q.At.Pending, q.Auto)) (fun i st hi hI => ?_) (fun st hI => ?_) ⟨p, rfl, rfl⟩ (by omega) (fun u hu => by rw [hu])
  · obtain ⟨qi, hqi, rfl⟩ := hI
    obtain ⟨q', h1, h2⟩ := fo_next hq hi hqi
    have hci := List.getElem_mem hi
    have hcne := hne _ hci
    have hcL := hcl _ hci
    simp only
    rw [if_pos (dlt hi), idx_at hi, w64_succ hi (by omega)]
    simp only [bsm]
    refine .inl ⟨((i + 1 : Nat), q'.L, q'.At.Row, q'.At.Col, q'.At.Pending, q'.Auto), ?_, q', h2, rfl⟩
    generalize cs[i] = c at *
    cases c with
    | nil => exact absurd rfl hcne
    | cons a t =>
      rw [show idx (a :: t) 0 = some a from rfl]
      simp only [bsm, ref_silent]
      have hR : R32 (a :: t) := fun x hx => h x (hmem _ hci x hx)
      cases hs : sil a with
      | false =>
        rw [layc_not hs] at h1
        simp only [Bool.not_false, if_true]
        rw [wide_eq _ hR (by omega) (by simp), first_eq _ (by omega)]
        simp only [bsm]
        rw [if_neg (show ¬ sil ((a :: t).headD 0) = true by rw [List.headD_cons, hs]; simp)]
        rw [Option.map_eq_some_iff] at h1
        obtain ⟨z, hz, rfl⟩ := h1
        rw [show (⟨qi.L, ⟨qi.At.Row, qi.At.Col, qi.At.Pending⟩, qi.Auto⟩ : G_linotyperef34_Pen) = qi from rfl, hz]
        rfl
      | true =>
        rw [layc_sil hs] at h1
        simp only [Bool.not_true, Bool.false_eq_true, if_false]
        generalize hcc : a :: t = c at *
        obtain ⟨u, e1, e2⟩ := iter_for (σ := Int × (List G_api_Line) × Int × Int × Bool × Bool) (τ := ((List G_api_Line) × Int × Int × Bool × Bool)) (n := c.length) (fuel := ((c.length : Int) - 0).toNat + 1) (s := (0, qi.L, qi.At.Row, qi.At.Col, qi.At.Pending, qi.Auto))
          (fun k st => ∃ qk, fo do36 qi (c.take k) = some qk ∧ st = ((k : Int), qk.L, qk.At.Row, qk.At.Col, qk.At.Pending, qk.Auto)) (fun u => u = (q'.L, q'.At.Row, q'.At.Col, q'.At.Pending, q'.Auto))
          (step := fun s_45 =>
 (some c).bind fun x_49 =>
 if (decide (s_45.1 < (x_49.length : Int))) = true then
 (some c).bind fun x_57 =>
 (idx x_57 s_45.1).bind fun x_60 =>
 (f_linotyperef36_Do (⟨s_45.2.1, (⟨s_45.2.2.1, s_45.2.2.2.1, s_45.2.2.2.2.1⟩ : G_api_Cursor), s_45.2.2.2.2.2⟩ : G_linotyperef34_Pen) x_60).bind fun x_62 =>
 some (.inl ((w64 (s_45.1 + 1)), x_62.1.L, x_62.1.At.Row, x_62.1.At.Col, x_62.1.At.Pending, x_62.1.Auto))
 else
 some (.inr (s_45.2.1, s_45.2.2.1, s_45.2.2.2.1, s_45.2.2.2.2.1, s_45.2.2.2.2.2)))
          (fun k st hk hI => by
            obtain ⟨qk, g1, rfl⟩ := hI
            obtain ⟨qn, g2, g3⟩ := fo_next h1 hk g1
            unfold do36 at g2
            rw [Option.map_eq_some_iff] at g2
            obtain ⟨z, hz, rfl⟩ := g2
            simp only [bsm]
            rw [if_pos (dlt hk), idx_at hk, w64_succ hk (by omega)]
            simp only [bsm]
            rw [show (⟨qk.L, ⟨qk.At.Row, qk.At.Col, qk.At.Pending⟩, qk.Auto⟩ : G_linotyperef34_Pen) = qk from rfl, hz]
            exact .inl ⟨_, rfl, _, g3, rfl⟩)
          (fun st hI => by
            obtain ⟨qk, g1, rfl⟩ := hI
            rw [List.take_of_length_le (Nat.le_refl _), h1] at g1
            cases g1
            simp only [bsm]
            exact ⟨_, by rw [if_neg (by simp)], rfl⟩)
          ⟨qi, rfl, rfl⟩ (by omega)
        subst e2
        simp only [bsm] at e1 ⊢
        rw [e1]
        rfl
  · obtain ⟨qi, hqi, rfl⟩ := hI
    rw [List.take_of_length_le (Nat.le_refl _), hq] at hqi
    cases hqi
    exact ⟨_, by simp only; rw [if_neg (by simp)], rfl⟩
end Go.Proofs.YtfhhpdggmefcoaaGreatDoor
namespace Go.Proofs.YtfhhpdggmefcoaaGreatDoor
def ld (b : Int) : Int := if b < 128 then 1 else if 194 ≤ b ∧ b ≤ 223 then 2 else if 224 ≤ b ∧ b ≤ 239 then 3 else if 240 ≤ b ∧ b ≤ 244 then 4 else 0
def slo (b : Int) : Int := if b = 224 then 160 else if b = 240 then 144 else 128
def shi (b : Int) : Int := if b = 237 then 159 else if b = 244 then 143 else 191
theorem ld_in (b : Int) : 0 ≤ ld b ∧ ld b ≤ 4 := by
 unfold ld
 repeat' split
 all_goals omega
def bg : List Int → Int
 | [a] => ld a
 | [a, b] => if 2 ≤ ld a ∧ slo a ≤ b ∧ b ≤ shi a then ld a else 0
 | [a, b, c] => if 3 ≤ ld a ∧ slo a ≤ b ∧ b ≤ shi a ∧ 128 ≤ c ∧ c ≤ 191 then ld a else 0
 | [a, b, c, d] => if ld a = 4 ∧ slo a ≤ b ∧ b ≤ shi a ∧ 128 ≤ c ∧ c ≤ 191 ∧ 128 ≤ d ∧ d ≤ 191 then 4 else 0
 | _ => 0
def b0 (a : Int) : Int := if ld a = 2 then a - 192 else if ld a = 3 then a - 224 else if ld a = 4 then a - 240 else a
def vl : List Int → Int
 | [] => 0
 | a :: l => l.foldl (fun v x => v * 64 + (x - 128)) (b0 a)
def rs0 (b : Int) : List Int × List Int := if 1 < ld b then ([], [b]) else if ld b = 1 then ([b], []) else ([65533], [])
def rstep (h : List Int) (b : Int) : List Int × List Int :=
 if h = [] then rs0 b else if (h.length : Int) + 1 < bg (h ++ [b]) then ([], h ++ [b]) else if 0 < bg (h ++ [b]) then ([vl (h ++ [b])], []) else (65533 :: (rs0 b).1, (rs0 b).2)
def rfeed : List Int → List Int → List Int × List Int
 | h, [] => ([], h)
 | h, b :: p => ((rstep h b).1 ++ (rfeed (rstep h b).2 p).1, (rfeed (rstep h b).2 p).2)
theorem rfeed_app (h a b : List Int) : rfeed h (a ++ b) = ((rfeed h a).1 ++ (rfeed (rfeed h a).2 b).1, (rfeed (rfeed h a).2 b).2) := by
 induction a generalizing h with
 | nil => simp [rfeed]
 | cons x a ih => simp [rfeed, ih]
theorem rfeed_snoc (h a : List Int) (x : Int) : rfeed h (a ++ [x]) = ((rfeed h a).1 ++ (rstep (rfeed h a).2 x).1, (rstep (rfeed h a).2 x).2) := by
 rw [rfeed_app]
 simp [rfeed]
def Hh (h : List Int) : Prop := h = [] ∨ (h.length : Int) < bg h
theorem Hh.step {h : List Int} (hh : Hh h) (b : Int) : Hh (rstep h b).2 := by
 unfold rstep
 have h0 : Hh (rs0 b).2 := by
  unfold rs0
  split
  ·rename_i q; exact .inr q
  ·split <;> exact .inl rfl
 split
 ·exact h0
 ·split
  ·rename_i q; exact .inr (by simp only [List.length_append, List.length_cons, List.length_nil]; omega)
  ·split
   ·exact .inl rfl
   ·exact h0
theorem Hh.feed {h : List Int} (hh : Hh h) (p : List Int) : Hh (rfeed h p).2 := by
 induction p generalizing h with
 | nil => exact hh
 | cons b p ih => exact ih (hh.step b)
theorem Hh.len {h : List Int} (hh : Hh h) : h.length ≤ 3 := by
 rcases hh with rfl | hh
 ·simp
 ·match h, hh with
  | [], _ => simp
  | [_], _ => simp
  | [_, _], _ => simp
  | [_, _, _], _ => simp
  | [a, b, c, d], q => simp only [bg, List.length_cons, List.length_nil] at q; split at q <;> omega
  | _ :: _ :: _ :: _ :: _ :: _, q => simp only [bg, List.length_cons] at q; omega
theorem bg_long {l : List Int} (h : 5 ≤ l.length) : bg l = 0 := by
 match l, h with
 | [], h => simp at h
 | [_], h => simp at h
 | [_, _], h => simp at h
 | [_, _, _], h => simp at h
 | [_, _, _, _], h => simp at h
 | _ :: _ :: _ :: _ :: _ :: _, _ => rfl
theorem bg_pre {h : List Int} {b : Int} (hne : h ≠ []) (hb : 0 < bg (h ++ [b])) : bg h = bg (h ++ [b]) := by
 match h, hne, hb with
 | [a], _, q => simp only [List.cons_append, List.nil_append, bg] at q ⊢; split at q <;> rename_i g; rw [if_pos g]; omega
 | [a, c], _, q =>
  simp only [List.cons_append, List.nil_append, bg] at q ⊢
  split at q
  ·rename_i g; rw [if_pos g, if_pos ⟨by omega, g.2.1, g.2.2.1⟩]
  ·omega
 | [a, c, d], _, q =>
  simp only [List.cons_append, List.nil_append, bg] at q ⊢
  split at q
  ·rename_i g; rw [if_pos g, if_pos ⟨by omega, g.2.1, g.2.2.1, g.2.2.2.1, g.2.2.2.2.1⟩]; exact g.1
  ·omega
 | a :: c :: d :: e :: t, _, q => rw [bg_long (by simp)] at q; omega
theorem feed_held {c : List Int} (hc : c ≠ []) (h : ∀ k, 0 < k → k ≤ c.length → (k : Int) < bg (c.take k)) : rfeed [] c = ([], c) := by
 have key : ∀ n, n ≤ c.length → rfeed [] (c.take n) = ([], c.take n) := by
  intro n
  induction n with
  | zero => intro _; rfl
  | succ n ih =>
   intro hn
   have h1 := h (n + 1) (by omega) hn
   rw [List.take_succ_eq_append_getElem (by omega)] at h1 ⊢
   rw [rfeed_snoc, ih (by omega)]
   have h2 : rstep (c.take n) c[n] = ([], c.take n ++ [c[n]]) := by
    unfold rstep
    by_cases hz : c.take n = []
    ·rw [if_pos hz, hz]
     rw [hz] at h1
     simp only [List.nil_append, bg] at h1
     have hn0 : n = 0 := by
      have := congrArg List.length hz
      rw [List.length_take, List.length_nil] at this
      omega
     subst hn0
     unfold rs0
     rw [if_pos (by simpa using h1)]
     rfl
    ·have hl : (c.take n).length = n := by rw [List.length_take]; omega
     rw [if_neg hz, if_pos (by rw [hl]; omega)]
   rw [h2]
   rfl
 have := key c.length (Nat.le_refl _)
 rwa [List.take_of_length_le (Nat.le_refl _)] at this
structure GK (c : List Int) (k : Nat) : Prop where
 le : k ≤ c.length
 lt : ∀ m, 0 < m → m < k → (m : Int) < bg (c.take m)
 z : k = 0 → bg (c.take 1) = 0
 p : 0 < k → 0 < bg (c.take k)
 e : 0 < k → (k : Int) < bg (c.take k) → k = c.length ∨ bg (c.take (k + 1)) = 0
theorem rstep_nil (b : Int) : rstep [] b = rs0 b := by
 unfold rstep
 rw [if_pos rfl]
theorem rfeed_cons (b : Int) (p : List Int) : rfeed [] (b :: p) = ((rs0 b).1 ++ (rfeed (rs0 b).2 p).1, (rfeed (rs0 b).2 p).2) := by
 rw [rfeed, rstep_nil]
theorem part_whole {c : List Int} {k : Nat} (h : GK c k) (hk : 0 < k) (hw : bg (c.take k) = k) : rfeed [] c = (vl (c.take k) :: (rfeed [] (c.drop k)).1, (rfeed [] (c.drop k)).2) := by
 have hle := h.le
 conv => lhs; rw [← List.take_append_drop k c]
 rw [rfeed_app]
 suffices e : rfeed [] (c.take k) = ([vl (c.take k)], []) by
  rw [e]
  rfl
 obtain ⟨m, rfl⟩ : ∃ m, k = m + 1 := ⟨k - 1, by omega⟩
 have ht : c.take (m + 1) = c.take m ++ [c[m]] := List.take_succ_eq_append_getElem (by omega)
 rw [ht] at hw ⊢
 rw [rfeed_snoc]
 have hl : (c.take m).length = m := by rw [List.length_take]; omega
 by_cases hm : m = 0
 ·subst hm
  simp only [List.take_zero, List.nil_append] at hw ⊢
  simp only [rfeed, rstep_nil]
  unfold rs0
  simp only [bg] at hw
  rw [if_neg (by omega), if_pos (by omega)]
  simp only [vl, List.foldl, b0]
  rw [if_neg (by omega), if_neg (by omega), if_neg (by omega)]
  rfl
 ·have hne : c.take m ≠ [] := fun e => by rw [e] at hl; simp at hl; omega
  rw [feed_held hne (fun n h0 hn => by
   rw [List.take_take, show min n m = n by rw [hl] at hn; omega]
   exact h.lt n h0 (by omega))]
  simp only
  have h2 : rstep (c.take m) c[m] = ([vl (c.take m ++ [c[m]])], []) := by
   unfold rstep
   rw [if_neg hne, if_neg (by rw [hl, hw]; simp), if_pos (by rw [hw]; omega)]
  rw [h2]
  rfl
theorem part_none {c : List Int} (hc : c ≠ []) (h : bg (c.take 1) = 0) : rfeed [] c = (65533 :: (rfeed [] (c.drop 1)).1, (rfeed [] (c.drop 1)).2) := by
 cases c with
 | nil => exact absurd rfl hc
 | cons a c =>
  simp only [List.take_succ_cons, List.take_zero, bg] at h
  rw [rfeed_cons]
  unfold rs0
  rw [if_neg (by omega), if_neg (by omega)]
  rfl
theorem part_end {c : List Int} (h : GK c c.length) (hk : 0 < c.length) (hw : (c.length : Int) < bg c) : rfeed [] c = ([], c) := by
 refine feed_held (fun e => by rw [e] at hk; simp at hk) fun k h0 hn => ?_
 by_cases hkk : k = c.length
 ·subst hkk
  rw [List.take_of_length_le (Nat.le_refl _)]
  exact hw
 ·exact h.lt k h0 (by omega)
theorem part_torn {c : List Int} {k : Nat} (h : GK c k) (hk : 0 < k) (hw : (k : Int) < bg (c.take k)) (hlt : k < c.length) : rfeed [] c = (65533 :: (rfeed [] (c.drop k)).1, (rfeed [] (c.drop k)).2) := by
 have hl : (c.take k).length = k := by rw [List.length_take]; omega
 have hne : c.take k ≠ [] := fun e => by rw [e] at hl; simp at hl; omega
 have hz : bg (c.take (k + 1)) = 0 := by
  rcases h.e hk hw with q | q
  ·omega
  ·exact q
 conv => lhs; rw [← List.take_append_drop k c]
 rw [rfeed_app, feed_held hne (fun n h0 hn => by
  rw [List.take_take, show min n k = n by rw [hl] at hn; omega]
  by_cases hkk : n = k
  ·subst hkk; exact hw
  ·exact h.lt n h0 (by rw [hl] at hn; omega))]
 rw [List.drop_eq_getElem_cons hlt]
 simp only [List.nil_append]
 rw [List.take_succ_eq_append_getElem hlt] at hz
 have h2 : rstep (c.take k) c[k] = (65533 :: (rs0 c[k]).1, (rs0 c[k]).2) := by
  unfold rstep
  rw [if_neg hne, if_neg (by rw [hz]; omega), if_neg (by rw [hz]; omega)]
 rw [rfeed_cons, rfeed, h2]
 rfl
end Go.Proofs.YtfhhpdggmefcoaaGreatDoor
namespace Go.Proofs.YtfhhpdggmefcoaaGreatDoor
open Go Go.Lt
def Byt (b : Int) : Prop := 0 ≤ b ∧ b ≤ 255
def Bts (l : List Int) : Prop := ∀ x ∈ l, Byt x
theorem oct_lead {b : Int} (h : Byt b) : f_octet_Lead b = some (ld b) := by
 obtain ⟨h1, h2⟩ := h
 unfold f_octet_Lead ld
 simp only [andE_some, bsm, Bool.and_eq_true, decide_eq_true_eq, ge_iff_le]
 have e1 : w64 (0 + 1) = 1 := rfl
 have e2 : w64 (1 + 1) = 2 := rfl
 have e3 : w64 (2 + 1) = 3 := rfl
 have e4 : w64 (3 + 1) = 4 := rfl
 rw [e1, e2, e3, e4]
 repeat' split
 all_goals first | rfl | omega
theorem oct_second {b : Int} (h : Byt b) (hl : 2 ≤ ld b) : f_octet_Second b = some (slo b, shi b) := by
 unfold f_octet_Second slo shi
 rw [oct_lead h]
 simp only [bsm, beq_iff_eq, decide_eq_true_eq]
 rw [if_neg (by omega)]
 have e1 : IntKind.u8.wrap (IntKind.u8.wrap (191 - 16) - 32) = 143 := by decide
 have e2 : IntKind.u8.wrap (191 - 32) = 159 := by decide
 rw [e1, e2]
 by_cases a1 : b = 224
 ·subst a1; rfl
 by_cases a2 : b = 240
 ·subst a2; rfl
 by_cases a3 : b = 244
 ·subst a3; rfl
 by_cases a4 : b = 237
 ·subst a4; rfl
 rw [if_neg a1, if_neg a2, if_neg a3, if_neg a4, if_neg a1, if_neg a2, if_neg a4, if_neg a3]
 rfl
def bitsOk (n : Nat) : Bool := (f_octet_Bits n == if ld n = 0 then some 0 else some (b0 n))
theorem bits_all : (List.range 256).all bitsOk = true := by kernel_rfl
theorem oct_bits {b : Int} (h : Byt b) (hl : 1 ≤ ld b) : f_octet_Bits b = some (b0 b) := by
 obtain ⟨h1, h2⟩ := h
 have := List.all_eq_true.1 bits_all b.toNat (List.mem_range.2 (by omega))
 unfold bitsOk at this
 rw [beq_iff_eq, Int.toNat_of_nonneg h1, if_neg (by omega)] at this
 exact this
def tailOk (n : Nat) : Bool := (ibAnd .u8 n 63 == if 128 ≤ n ∧ n ≤ 191 then (n : Int) - 128 else ibAnd .u8 n 63)
theorem tail_all : (List.range 256).all tailOk = true := by kernel_rfl
theorem tail_and {b : Int} (h1 : 128 ≤ b) (h2 : b ≤ 191) : ibAnd .u8 b 63 = b - 128 := by
 have := List.all_eq_true.1 tail_all b.toNat (List.mem_range.2 (by omega))
 unfold tailOk at this
 rw [beq_iff_eq, Int.toNat_of_nonneg (by omega), if_pos (by omega)] at this
 exact this
theorem or_add {x y : Nat} (hx : x < 1000000000) (hy : y < 64) : ibOr .i64 ((x : Int) * 64) (y : Int) = ((x * 64 + y : Nat) : Int) := by
 have e1 : BitVec.ofInt 64 ((x : Int) * 64) = BitVec.ofNat 64 (x * 64) := by
  rw [show ((x : Int) * 64) = ((x * 64 : Nat) : Int) by simp, BitVec.ofInt_natCast]
 have e2 : BitVec.ofInt 64 (y : Int) = BitVec.ofNat 64 y := BitVec.ofInt_natCast _ _
 have e3 : (x * 64) ||| y = x * 64 + y := by
  have := Nat.shiftLeft_add_eq_or_of_lt (show y < 2 ^ 6 by omega) x
  rw [Nat.shiftLeft_eq] at this
  exact this.symm
 unfold ibOr
 rw [show IntKind.i64.bits = 64 from rfl, e1, e2, BitVec.toNat_or, BitVec.toNat_ofNat, BitVec.toNat_ofNat, Nat.mod_eq_of_lt (by omega), Nat.mod_eq_of_lt (by omega), e3]
 exact w64_in (by omega)
def Dv (d : G_utfdec_Dec) (h : List Int) : Prop :=
 Hh h ∧ Bts h ∧ d = (match h with | [] => ⟨0, 0, 0, 0, 0⟩ | [a] => ⟨1, ld a - 1, slo a, shi a, b0 a⟩ | a :: b :: t => ⟨(h.length : Int), bg h - (h.length : Int), 128, 191, vl h⟩)
theorem dec_begin {b : Int} (h : Byt b) : ∃ d', f_utfdec_Dec_begin__feed_Feeder_1 ⟨0, 0, 0, 0, 0⟩ b = some (d', (rs0 b).1) ∧ Dv d' (rs0 b).2 := by
 have hb := h
 obtain ⟨h1, h2⟩ := hb
 unfold f_utfdec_Dec_begin__feed_Feeder_1 rs0
 rw [oct_lead h]
 simp only [bsm, beq_iff_eq]
 have hin := ld_in b
 by_cases e0 : ld b = 0
 ·rw [if_pos e0, if_neg (by omega), if_neg (by omega)]
  exact ⟨_, rfl, .inl rfl, fun x hx => by simp at hx, rfl⟩
 ·rw [if_neg e0]
  by_cases e1 : ld b = 1
  ·rw [if_pos e1, if_neg (by omega), if_pos e1, w32_in (by omega)]
   exact ⟨_, rfl, .inl rfl, fun x hx => by simp at hx, rfl⟩
  ·rw [if_neg e1, if_pos (by omega), oct_bits h (by omega), oct_second h (by omega)]
   simp only [bsm]
   rw [w64_in (by omega)]
   refine ⟨_, rfl, .inr ?_, fun x hx => ?_, rfl⟩
   ·simp only [List.length_cons, List.length_nil, bg]; omega
   ·rw [List.mem_singleton.1 hx]; exact h
theorem vl_snoc {h : List Int} (hne : h ≠ []) (b : Int) : vl (h ++ [b]) = vl h * 64 + (b - 128) := by
 cases h with
 | nil => exact absurd rfl hne
 | cons a t => simp [vl, List.foldl_append]
theorem b0_in {a : Int} (h : Byt a) (hl : 2 ≤ ld a) : 0 ≤ b0 a ∧ b0 a ≤ 31 := by
 obtain ⟨h1, h2⟩ := h
 unfold b0
 unfold ld at hl
 unfold ld
 repeat' split at hl
 all_goals (repeat' split)
 all_goals omega
theorem vl_in {h : List Int} (hh : Hh h) (hb : Bts h) (hne : h ≠ []) : 0 ≤ vl h ∧ vl h ≤ 131071 := by
 rcases hh with rfl | hh
 ·exact absurd rfl hne
 ·match h, hh with
  | [], _ => exact absurd rfl hne
  | [a], q =>
   have ha := hb a (by simp)
   simp only [bg, List.length_cons, List.length_nil] at q
   have := b0_in ha (by omega)
   simp only [vl, List.foldl]
   omega
  | [a, b], q =>
   have ha := hb a (by simp)
   simp only [bg, List.length_cons, List.length_nil] at q
   split at q
   ·rename_i g
    have := b0_in ha (by omega)
    have hs : 128 ≤ b ∧ b ≤ 191 := by
     have := g.2
     unfold slo shi at this
     repeat' split at this
     all_goals omega
    simp only [vl, List.foldl]
    omega
   ·omega
  | [a, b, c], q =>
   have ha := hb a (by simp)
   simp only [bg, List.length_cons, List.length_nil] at q
   split at q
   ·rename_i g
    have := b0_in ha (by omega)
    have hs : 128 ≤ b ∧ b ≤ 191 := by
     have := g.2
     unfold slo shi at this
     repeat' split at this
     all_goals omega
    simp only [vl, List.foldl]
    omega
   ·omega
  | [a, b, c, d], q => simp only [bg, List.length_cons, List.length_nil] at q; split at q <;> omega
  | _ :: _ :: _ :: _ :: _ :: _, q => simp only [bg, List.length_cons] at q; omega
theorem more_iff {h : List Int} (hh : (h.length : Int) < bg h) (hne : h ≠ []) (b : Int) : ∃ lo hi, (match h with | [a] => (slo a, shi a) | _ => (128, 191)) = (lo, hi) ∧ 128 ≤ lo ∧ hi ≤ 191 ∧
  ((lo ≤ b ∧ b ≤ hi) → bg (h ++ [b]) = bg h) ∧ (¬ (lo ≤ b ∧ b ≤ hi) → bg (h ++ [b]) = 0) := by
 match h, hh with
 | [], _ => exact absurd rfl hne
 | [a], q =>
  simp only [bg, List.length_cons, List.length_nil] at q
  refine ⟨slo a, shi a, rfl, by unfold slo; repeat' split; all_goals omega, by unfold shi; repeat' split; all_goals omega, fun g => ?_, fun g => ?_⟩
  ·simp only [List.cons_append, List.nil_append, bg]
   rw [if_pos ⟨by omega, g.1, g.2⟩]
  ·simp only [List.cons_append, List.nil_append, bg]
   rw [if_neg (fun c => g c.2)]
 | [a, c], q =>
  simp only [bg, List.length_cons, List.length_nil] at q
  refine ⟨128, 191, rfl, by omega, by omega, fun g => ?_, fun g => ?_⟩
  ·simp only [List.cons_append, List.nil_append, bg]
   split at q
   ·rename_i r
    rw [if_pos ⟨by omega, r.2.1, r.2.2, g.1, g.2⟩, if_pos r]
   ·omega
  ·simp only [List.cons_append, List.nil_append, bg]
   rw [if_neg (fun r => g r.2.2.2)]
 | [a, c, d], q =>
  have hl := ld_in a
  simp only [bg, List.length_cons, List.length_nil] at q
  refine ⟨128, 191, rfl, by omega, by omega, fun g => ?_, fun g => ?_⟩
  ·simp only [List.cons_append, List.nil_append, bg]
   split at q
   ·rename_i r
    rw [if_pos ⟨by omega, r.2.1, r.2.2.1, r.2.2.2.1, r.2.2.2.2, g.1, g.2⟩, if_pos r]
    omega
   ·omega
  ·simp only [List.cons_append, List.nil_append, bg]
   rw [if_neg (fun r => g r.2.2.2.2.2)]
 | [a, b, c, d], q => simp only [bg, List.length_cons, List.length_nil] at q; split at q <;> omega
 | _ :: _ :: _ :: _ :: _ :: _, q => simp only [bg, List.length_cons] at q; omega
theorem Dv.shape {d : G_utfdec_Dec} {h : List Int} (v : Dv d h) (hne : h ≠ []) : ∃ lo hi, (match h with | [a] => (slo a, shi a) | _ => (128, 191)) = (lo, hi) ∧ d = ⟨(h.length : Int), bg h - (h.length : Int), lo, hi, vl h⟩ := by
 obtain ⟨_, _, e⟩ := v
 match h, e with
 | [], _ => exact absurd rfl hne
 | [a], e => exact ⟨_, _, rfl, e⟩
 | a :: b :: t, e => exact ⟨_, _, rfl, e⟩
theorem dec_step {d : G_utfdec_Dec} {h : List Int} (v : Dv d h) {b : Int} (hb : Byt b) : ∃ d', f_utfdec_Dec_Step__feed_Feeder_1 d b = some (d', (rstep h b).1) ∧ Dv d' (rstep h b).2 := by
 have v0 := v
 obtain ⟨hh, hbs, e⟩ := v
 unfold f_utfdec_Dec_Step__feed_Feeder_1 rstep
 simp only [Bool.false_eq_true, if_false]
 by_cases hne : h = []
 ·subst hne
  simp only at e
  subst e
  obtain ⟨d', a1, a2⟩ := dec_begin hb
  simp only [beq_self_eq_true, eq_self, if_true, a1, bsm]
  exact ⟨d', rfl, a2⟩
 ·obtain ⟨lo, hi, e1, e2⟩ := v0.shape hne
  have hlt : (h.length : Int) < bg h := by
   rcases hh with q | q
   ·exact absurd q hne
   ·exact q
  obtain ⟨lo', hi', f1, f2, f3, f4, f5⟩ := more_iff hlt hne b
  rw [e1] at f1
  cases f1
  subst e2
  have hlen : 0 < h.length := by
   cases h with
   | nil => exact absurd rfl hne
   | cons _ _ => simp
  have hl3 := hh.len
  rw [if_neg hne]
  simp only [beq_iff_eq]
  rw [if_neg (by omega)]
  simp only [orE_some, bsm, Bool.or_eq_true, decide_eq_true_eq, gt_iff_lt]
  by_cases hr : lo ≤ b ∧ b ≤ hi
  ·have hbg := f4 hr
   have hvl := vl_in hh hbs hne
   have hbgl : bg h ≤ 4 := by
    match h, hlen with
    | [a], _ => simp only [bg]; exact (ld_in a).2
    | [a, b], _ => simp only [bg]; split <;> first | exact (ld_in a).2 | omega
    | [a, b, c], _ => simp only [bg]; split <;> first | exact (ld_in a).2 | omega
    | a :: b :: c :: x :: t, _ => simp at hl3
   have hbits : ibOr .i64 (w64 (vl h * 2 ^ 6)) (w64 (ibAnd .u8 b 63)) = vl h * 64 + (b - 128) := by
    obtain ⟨x, hx⟩ : ∃ x : Nat, vl h = (x : Int) := ⟨(vl h).toNat, by omega⟩
    obtain ⟨y, hy⟩ : ∃ y : Nat, b - 128 = (y : Int) := ⟨(b - 128).toNat, by omega⟩
    rw [tail_and (by omega) (by omega), hx, hy, show ((x : Int) * 2 ^ 6) = (x : Int) * 64 from rfl, w64_in (by omega), w64_in (by omega), or_add (by omega) (by omega)]
    simp
   have hbs' : Bts (h ++ [b]) := fun x hx => by
    rcases List.mem_append.1 hx with hx | hx
    ·exact hbs x hx
    ·rw [List.mem_singleton.1 hx]; exact hb
   have hsn := vl_snoc hne b
   rw [if_neg (by omega), w64_in (by omega), w64_in (by omega), hbits, ← hsn]
   by_cases hm : (h.length : Int) + 1 < bg h
   ·rw [if_pos (by omega), if_pos (by rw [hbg]; omega)]
    refine ⟨_, rfl, .inr (by rw [hbg]; simp; omega), hbs', ?_⟩
    simp only [hbg]
    match h, hlen with
    | a :: t, _ =>
     cases t with
     | nil => simp only [List.cons_append, List.nil_append, List.length_cons, List.length_nil, G_utfdec_Dec.mk.injEq, and_true, true_and]; omega
     | cons b2 t => simp only [List.cons_append, List.length_cons, List.length_append, List.length_nil, G_utfdec_Dec.mk.injEq, and_true, true_and]; omega
   ·rw [if_neg (by omega), if_neg (by rw [hbg]; omega), if_pos (by rw [hbg]; omega), w32_in (by rw [hsn]; omega)]
    exact ⟨_, rfl, .inl rfl, fun x hx => by simp at hx, rfl⟩
  ·have hz := f5 hr
   rw [if_pos (by omega), if_neg (by rw [hz]; omega), if_neg (by rw [hz]; omega)]
   have hfl : f_utfdec_Dec_Flush__feed_Feeder_1 ⟨(h.length : Int), bg h - (h.length : Int), lo, hi, vl h⟩ = some (⟨0, 0, 0, 0, 0⟩, [65533]) := by
    unfold f_utfdec_Dec_Flush__feed_Feeder_1 f_utfdec_Dec_Held__feed_Feeder_1
    simp only [Bool.false_eq_true, if_false, bsm, beq_iff_eq]
    rw [if_neg (by omega)]
   rw [hfl]
   simp only [bsm]
   obtain ⟨d', a1, a2⟩ := dec_begin hb
   rw [a1]
   simp only [bsm]
   have hrl : (rs0 b).1.length ≤ 1 := by
    unfold rs0
    split
    ·simp
    ·split <;> simp
   rw [app_eq (by simp; omega)]
   exact ⟨d', rfl, a2⟩
theorem dec_held {d : G_utfdec_Dec} {h : List Int} (v : Dv d h) : f_utfdec_Dec_Held__feed_Feeder_1 d = some (h.length : Int) := by
 unfold f_utfdec_Dec_Held__feed_Feeder_1
 simp only [Bool.false_eq_true, if_false]
 by_cases hne : h = []
 ·subst hne
  obtain ⟨_, _, e⟩ := v
  simp only at e
  rw [e]
  rfl
 ·obtain ⟨lo, hi, _, e⟩ := v.shape hne
  rw [e]
theorem dec_flush {d : G_utfdec_Dec} {h : List Int} (v : Dv d h) : f_utfdec_Dec_Flush__feed_Feeder_1 d = some (⟨0, 0, 0, 0, 0⟩, if h = [] then [] else [65533]) := by
 unfold f_utfdec_Dec_Flush__feed_Feeder_1
 rw [dec_held v]
 simp only [bsm, beq_iff_eq]
 by_cases hne : h = []
 ·subst hne
  obtain ⟨_, _, e⟩ := v
  simp only at e
  rw [if_pos (by simp), if_pos rfl, e]
 ·rw [if_neg (fun e => hne (List.eq_nil_of_length_eq_zero (by omega))), if_neg hne]
theorem Dv.zero : Dv ⟨0, 0, 0, 0, 0⟩ [] := ⟨.inl rfl, fun x hx => by simp at hx, rfl⟩
theorem iter_s {σ τ : Type} (n : Nat) (f : σ → Option (σ ⊕ τ)) (s : σ) : iter (n + 1) f s = (f s).bind fun x => match x with | .inl s' => iter n f s' | .inr t => some t := rfl
def lp : List Int → Nat → Int → Int → Bool ⊕ (Int × Int)
 | _, 0, lo, hi => .inr (lo, hi)
 | x :: xs, k + 1, lo, hi => if 128 ≤ x ∧ x ≤ 191 then lp xs k (lo * 64 + (x - 128)) (hi * 64 + (x - 128)) else .inl false
 | [], k + 1, lo, hi => lp [] k (lo * 64) (hi * 64 + 63)
def bd (k : Nat) : Int := if k = 3 then 127 else if k = 2 then 8191 else if k = 1 then 524287 else 33554431
def mk (n : Nat) : Int := if n = 2 then 192 else if n = 3 then 224 else if n = 4 then 240 else 0
def sz (n : Nat) : Int := if n = 1 then 128 else if n = 2 then 32 else if n = 3 then 16 else if n = 4 then 8 else 0
def fr (n : Nat) : Int := if n = 2 then 128 else if n = 3 then 2048 else if n = 4 then 65536 else 0
def to (n : Nat) : Int := if n = 1 then 127 else if n = 2 then 2047 else if n = 3 then 65535 else if n = 4 then 1114111 else 0
theorem mk_at {n : Nat} (h1 : 1 ≤ n) (h2 : n ≤ 4) : idx ([0, 0, 192, 224, 240] : List Int) n = some (mk n) ∧ idx ([0, 128, 32, 16, 8] : List Int) n = some (sz n) ∧ idx ([0, 0, 128, 2048, 65536] : List Int) n = some (fr n) ∧ idx ([0, 127, 2047, 65535, 1114111] : List Int) n = some (to n) := by
 have : n = 1 ∨ n = 2 ∨ n = 3 ∨ n = 4 := by omega
 rcases this with rfl | rfl | rfl | rfl <;> exact ⟨rfl, rfl, rfl, rfl⟩
def sst (p : List Int) (n : Nat) : Int × Int × Int → Option ((Int × Int × Int) ⊕ (Bool ⊕ (Int × Int))) := fun s_40 =>
 if (decide (s_40.2.2 < (n : Int))) = true then
 if (decide (s_40.2.2 < (p.length : Int))) = true then
 (idx p s_40.2.2).bind fun x_62 =>
 (orE (decide ((w64 ((w64 x_62) - 128)) < 0)) (some (decide ((w64 ((w64 x_62) - 128)) > 63)))).bind fun d_70 =>
 if d_70 = true then
 some (.inr (.inl false))
 else
 some (.inl ((w64 ((w64 (s_40.1 * 64)) + (w64 ((w64 x_62) - 128)))), (w64 ((w64 ((w64 ((w64 (s_40.2.1 * 64)) + 63)) - 63)) + (w64 ((w64 x_62) - 128)))), (w64 (s_40.2.2 + 1))))
 else
 some (.inl ((w64 (s_40.1 * 64)), (w64 ((w64 (s_40.2.1 * 64)) + 63)), (w64 (s_40.2.2 + 1))))
 else
 some (.inr (.inr (s_40.1, s_40.2.1)))
theorem some_loop (p : List Int) (hp : Bts p) (n : Nat) (hn : n ≤ 4) : ∀ (k : Nat) (i : Nat) (lo hi : Int), k ≤ 3 → 1 ≤ i → i + k = n → 0 ≤ lo → lo ≤ bd k → 0 ≤ hi → hi ≤ bd k → iter (σ := Int × Int × Int) (τ := Bool ⊕ (Int × Int)) (k + 1) (sst p n) (lo, hi, (i : Int)) = some (lp (p.drop i) k lo hi) := by
 intro k
 induction k with
 | zero =>
  intro i lo hi _ _ hik _ _ _ _
  rw [iter_s]
  have e : sst p n (lo, hi, (i : Int)) = some (.inr (.inr (lo, hi))) := by
   unfold sst
   simp only
   rw [if_neg (by simp; omega)]
  rw [e]
  cases p.drop i <;> rfl
 | succ k ih =>
  intro i lo hi hk h1 hik a1 a2 a3 a4
  have hb : (bd (k + 1) + 1) * 64 ≤ bd k + 1 := by
   have : k = 0 ∨ k = 1 ∨ k = 2 := by omega
   rcases this with rfl | rfl | rfl <;> decide
  have hb2 : bd k ≤ 33554431 := by unfold bd; repeat' split; all_goals omega
  rw [iter_s]
  by_cases hi' : i < p.length
  ·rw [List.drop_eq_getElem_cons hi']
   have hx := hp _ (List.getElem_mem hi')
   obtain ⟨x1, x2⟩ := hx
   unfold lp
   have e : sst p n (lo, hi, (i : Int)) = if 128 ≤ p[i] ∧ p[i] ≤ 191 then some (.inl (lo * 64 + (p[i] - 128), hi * 64 + (p[i] - 128), ((i + 1 : Nat) : Int))) else some (.inr (.inl false)) := by
    unfold sst
    simp only
    rw [if_pos (by simp; omega), w64_succ (show i < n by omega) (by omega), if_pos (dlt hi'), idx_at hi']
    simp only [bsm, orE_some, Bool.or_eq_true, decide_eq_true_eq]
    rw [w64_in (n := p[i]) (by omega), w64_in (n := p[i] - 128) (by omega)]
    by_cases hr : 128 ≤ p[i] ∧ p[i] ≤ 191
    ·rw [if_neg (by omega), if_pos hr]
     rw [w64_in (n := lo * 64) (by omega), w64_in (n := hi * 64) (by omega), w64_in (n := hi * 64 + 63) (by omega), w64_in (n := hi * 64 + 63 - 63) (by omega), w64_in (n := lo * 64 + (p[i] - 128)) (by omega), w64_in (n := hi * 64 + 63 - 63 + (p[i] - 128)) (by omega), show hi * 64 + 63 - 63 + (p[i] - 128) = hi * 64 + (p[i] - 128) by omega]
    ·rw [if_pos (by omega), if_neg hr]
   rw [e]
   by_cases hr : 128 ≤ p[i] ∧ p[i] ≤ 191
   ·rw [if_pos hr, if_pos hr]
    exact ih (i + 1) (lo * 64 + (p[i] - 128)) (hi * 64 + (p[i] - 128)) (by omega) (by omega) (by omega) (by omega) (by omega) (by omega) (by omega)
   ·rw [if_neg hr, if_neg hr]
    rfl
  ·rw [List.drop_of_length_le (by omega)]
   unfold lp
   have e : sst p n (lo, hi, (i : Int)) = some (.inl (lo * 64, hi * 64 + 63, ((i + 1 : Nat) : Int))) := by
    unfold sst
    simp only
    rw [if_pos (by simp; omega), w64_succ (show i < n by omega) (by omega), if_neg (by simp; omega)]
    rw [w64_in (n := lo * 64) (by omega), w64_in (n := hi * 64) (by omega), w64_in (n := hi * 64 + 63) (by omega)]
   rw [e]
   have := ih (i + 1) (lo * 64) (hi * 64 + 63) (by omega) (by omega) (by omega) (by omega) (by omega) (by omega) (by omega)
   rw [List.drop_of_length_le (by omega)] at this
   exact this
def sfin (n : Nat) (z : Bool ⊕ (Int × Int)) : Bool := match z with | .inl b => b | .inr (lo, hi) => decide (max lo (fr n) ≤ min hi (to n)) && (decide (max lo (fr n) < 55296) || decide (min hi (to n) > 57343))
def smf (a : Int) (t : List Int) (n : Nat) : Bool := if a - mk n < 0 ∨ sz n ≤ a - mk n then false else sfin n (lp t (n - 1) (a - mk n) (a - mk n))
theorem some_eq {a : Int} {t : List Int} (hp : Bts (a :: t)) {n : Nat} (h1 : 1 ≤ n) (h2 : n ≤ 4) : f_linotyperef03_some (a :: t) n = some (smf a t n) := by
 obtain ⟨a1, a2⟩ := hp a (by simp)
 obtain ⟨m1, m2, m3, m4⟩ := mk_at h1 h2
 have hm : 0 ≤ mk n ∧ mk n ≤ 240 := by unfold mk; repeat' split; all_goals omega
 have hsz : sz n ≤ bd (n - 1) + 1 := by
  have : n = 1 ∨ n = 2 ∨ n = 3 ∨ n = 4 := by omega
  rcases this with rfl | rfl | rfl | rfl <;> decide
 unfold f_linotyperef03_some smf
 rw [m1, m2, m3, m4, show idx (a :: t) 0 = some a from rfl]
 simp only [bsm]
 rw [w64_in (n := a) (by omega), w64_in (n := a - mk n) (by omega), orE_some]
 simp only [bsm]
 by_cases hA : a - mk n < 0 ∨ sz n ≤ a - mk n
 ·rw [if_pos (by simp only [Bool.or_eq_true, decide_eq_true_eq]; omega), if_pos hA]
 ·rw [if_neg (by simp only [Bool.or_eq_true, decide_eq_true_eq]; omega), if_neg hA, show ((n : Int) - 1).toNat + 1 = (n - 1) + 1 by omega]
  have := some_loop (a :: t) hp n h2 (n - 1) 1 (a - mk n) (a - mk n) (by omega) (by omega) (by omega) (by omega) (by omega) (by omega) (by omega)
  unfold sst at this
  simp only [Int.natCast_one, List.drop_succ_cons, List.drop_zero] at this
  rw [this]
  simp only [bsm]
  cases lp t (n - 1) (a - mk n) (a - mk n) with
  | inl b => rfl
  | inr z => simp only [imax_eq, imin_eq, andE_some, orE_some, bsm, sfin]
theorem ld_cases (a : Int) : (ld a = 1 ∧ a < 128) ∨ (ld a = 2 ∧ 194 ≤ a ∧ a ≤ 223) ∨ (ld a = 3 ∧ 224 ≤ a ∧ a ≤ 239) ∨ (ld a = 4 ∧ 240 ≤ a ∧ a ≤ 244) ∨ (ld a = 0 ∧ 128 ≤ a ∧ ¬ (194 ≤ a ∧ a ≤ 244)) := by
 unfold ld
 repeat' split
 all_goals omega
theorem smf_bg {a : Int} {t : List Int} (hp : Bts (a :: t)) {n : Nat} (h1 : 1 ≤ n) (h2 : n ≤ 4) (h3 : t.length + 1 ≤ n) : smf a t n = true ↔ bg (a :: t) = (n : Int) := by
 have hl := ld_cases a
 obtain ⟨a1, a2⟩ := hp a (by simp)
 have : n = 1 ∨ n = 2 ∨ n = 3 ∨ n = 4 := by omega
 match t, hp, h3 with
 | [], _, _ =>
  rcases this with rfl | rfl | rfl | rfl <;>
   simp only [smf, lp, sfin, bg, mk, sz, fr, to, Nat.reduceEqDiff, if_true, if_false, Nat.reduceSub, Bool.and_eq_true, Bool.or_eq_true, decide_eq_true_eq] <;> split <;>
   simp only [Bool.and_eq_true, Bool.or_eq_true, decide_eq_true_eq, Bool.false_eq_true, false_iff] <;> omega
 | [b], hp, h3 =>
  obtain ⟨b1, b2⟩ := hp b (by simp)
  simp only [List.length_cons, List.length_nil] at h3
  have hs : slo a = (if a = 224 then 160 else if a = 240 then 144 else 128) ∧ shi a = (if a = 237 then 159 else if a = 244 then 143 else 191) := ⟨rfl, rfl⟩
  have hs1 : (a = 224 ∧ slo a = 160) ∨ (a = 240 ∧ slo a = 144) ∨ (a ≠ 224 ∧ a ≠ 240 ∧ slo a = 128) := by rw [hs.1]; repeat' split; all_goals omega
  have hs2 : (a = 237 ∧ shi a = 159) ∨ (a = 244 ∧ shi a = 143) ∨ (a ≠ 237 ∧ a ≠ 244 ∧ shi a = 191) := by rw [hs.2]; repeat' split; all_goals omega
  clear hs
  have hbg : bg [a, b] = if 2 ≤ ld a ∧ slo a ≤ b ∧ b ≤ shi a then ld a else 0 := rfl
  rw [hbg]
  rcases this with rfl | rfl | rfl | rfl
  ·omega
  all_goals
   simp only [smf, lp, sfin, mk, sz, fr, to, Nat.reduceEqDiff, if_true, if_false, Nat.reduceSub]
   split
   ·split <;> simp only [Bool.false_eq_true, false_iff] <;> omega
   ·by_cases hb : 128 ≤ b ∧ b ≤ 191
    ·simp only [if_pos hb, Bool.and_eq_true, Bool.or_eq_true, decide_eq_true_eq]
     split <;> omega
    ·simp only [if_neg hb]
     split <;> simp only [Bool.false_eq_true, false_iff] <;> omega
 | [b, c], hp, h3 =>
  obtain ⟨b1, b2⟩ := hp b (by simp)
  obtain ⟨c1, c2⟩ := hp c (by simp)
  simp only [List.length_cons, List.length_nil] at h3
  have hs : slo a = (if a = 224 then 160 else if a = 240 then 144 else 128) ∧ shi a = (if a = 237 then 159 else if a = 244 then 143 else 191) := ⟨rfl, rfl⟩
  have hs1 : (a = 224 ∧ slo a = 160) ∨ (a = 240 ∧ slo a = 144) ∨ (a ≠ 224 ∧ a ≠ 240 ∧ slo a = 128) := by rw [hs.1]; repeat' split; all_goals omega
  have hs2 : (a = 237 ∧ shi a = 159) ∨ (a = 244 ∧ shi a = 143) ∨ (a ≠ 237 ∧ a ≠ 244 ∧ shi a = 191) := by rw [hs.2]; repeat' split; all_goals omega
  clear hs
  have hbg : bg [a, b, c] = if 3 ≤ ld a ∧ slo a ≤ b ∧ b ≤ shi a ∧ 128 ≤ c ∧ c ≤ 191 then ld a else 0 := rfl
  rw [hbg]
  rcases this with rfl | rfl | rfl | rfl
  ·omega
  ·omega
  all_goals
   simp only [smf, lp, sfin, mk, sz, fr, to, Nat.reduceEqDiff, if_true, if_false, Nat.reduceSub]
   split
   ·split <;> simp only [Bool.false_eq_true, false_iff] <;> omega
   ·by_cases hb : 128 ≤ b ∧ b ≤ 191
    ·by_cases hc : 128 ≤ c ∧ c ≤ 191
     ·simp only [if_pos hb, if_pos hc, Bool.and_eq_true, Bool.or_eq_true, decide_eq_true_eq]
      split <;> omega
     ·simp only [if_pos hb, if_neg hc]
      split <;> simp only [Bool.false_eq_true, false_iff] <;> omega
    ·simp only [if_neg hb]
     split <;> simp only [Bool.false_eq_true, false_iff] <;> omega
 | [b, c, d], hp, h3 =>
  obtain ⟨b1, b2⟩ := hp b (by simp)
  obtain ⟨c1, c2⟩ := hp c (by simp)
  obtain ⟨d1, d2⟩ := hp d (by simp)
  simp only [List.length_cons, List.length_nil] at h3
  have hs : slo a = (if a = 224 then 160 else if a = 240 then 144 else 128) ∧ shi a = (if a = 237 then 159 else if a = 244 then 143 else 191) := ⟨rfl, rfl⟩
  have hs1 : (a = 224 ∧ slo a = 160) ∨ (a = 240 ∧ slo a = 144) ∨ (a ≠ 224 ∧ a ≠ 240 ∧ slo a = 128) := by rw [hs.1]; repeat' split; all_goals omega
  have hs2 : (a = 237 ∧ shi a = 159) ∨ (a = 244 ∧ shi a = 143) ∨ (a ≠ 237 ∧ a ≠ 244 ∧ shi a = 191) := by rw [hs.2]; repeat' split; all_goals omega
  clear hs
  have hbg : bg [a, b, c, d] = if ld a = 4 ∧ slo a ≤ b ∧ b ≤ shi a ∧ 128 ≤ c ∧ c ≤ 191 ∧ 128 ≤ d ∧ d ≤ 191 then 4 else 0 := rfl
  rw [hbg]
  rcases this with rfl | rfl | rfl | rfl
  ·omega
  ·omega
  ·omega
  ·simp only [smf, lp, sfin, mk, sz, fr, to, Nat.reduceEqDiff, if_true, if_false, Nat.reduceSub]
   split
   ·split <;> simp only [Bool.false_eq_true, false_iff] <;> omega
   ·by_cases hb : 128 ≤ b ∧ b ≤ 191
    ·by_cases hc : 128 ≤ c ∧ c ≤ 191
     ·by_cases hd : 128 ≤ d ∧ d ≤ 191
      ·simp only [if_pos hb, if_pos hc, if_pos hd, Bool.and_eq_true, Bool.or_eq_true, decide_eq_true_eq]
       split <;> omega
      ·simp only [if_pos hb, if_pos hc, if_neg hd]
       split <;> simp only [Bool.false_eq_true, false_iff] <;> omega
     ·simp only [if_pos hb, if_neg hc]
      split <;> simp only [Bool.false_eq_true, false_iff] <;> omega
    ·simp only [if_neg hb]
     split <;> simp only [Bool.false_eq_true, false_iff] <;> omega
 | _ :: _ :: _ :: _ :: _, _, h3 => simp at h3; omega
theorem bg_ge {p : List Int} (h : 0 < bg p) : (p.length : Int) ≤ bg p := by
 match p, h with
 | [], h => simp [bg] at h
 | [a], h => simp only [bg, List.length_cons, List.length_nil] at h ⊢; omega
 | [a, b], h => simp only [bg, List.length_cons, List.length_nil] at h ⊢; split at h <;> rename_i g; rw [if_pos g]; omega; omega
 | [a, b, c], h => simp only [bg, List.length_cons, List.length_nil] at h ⊢; split at h <;> rename_i g; rw [if_pos g]; omega; omega
 | [a, b, c, d], h => simp only [bg, List.length_cons, List.length_nil] at h ⊢; split at h <;> rename_i g; rw [if_pos g]; omega; omega
 | _ :: _ :: _ :: _ :: _ :: _, h => simp [bg] at h
theorem bg_le (p : List Int) : 0 ≤ bg p ∧ bg p ≤ 4 := by
 match p with
 | [] => simp [bg]
 | [a] => exact ld_in a
 | [a, b] => simp only [bg]; split <;> first | exact ld_in a | omega
 | [a, b, c] => simp only [bg]; split <;> first | exact ld_in a | omega
 | [a, b, c, d] => simp only [bg]; split <;> omega
 | _ :: _ :: _ :: _ :: _ :: _ => simp [bg]
theorem begins_eq {p : List Int} (hp : Bts p) (hl : p.length ≤ 1000000) : f_linotyperef03_Begins p = some (bg p) := by
 have hb := bg_le p
 unfold f_linotyperef03_Begins
 refine iter_forB (n := 4) (fun i s => s = ((i + 1 : Nat) : Int) ∧ ∀ m : Nat, 1 ≤ m → m ≤ i → bg p ≠ (m : Int)) (fun u => match u with | .inl n => n = bg p | .inr _ => bg p = 0) (fun i s hi hI => ?_) (fun s hI => ?_) ⟨rfl, fun m h1 h2 => by omega⟩ (by decide) (fun u hu => ?_)
 ·obtain ⟨e, hI⟩ := hI
  subst e
  rw [if_pos (by simp; omega)]
  simp only [andE_some, bsm]
  have key : ∃ t : Bool, (andE (decide ((p.length : Int) ≥ 1) && decide ((p.length : Int) ≤ ((i + 1 : Nat) : Int))) ((f_linotyperef03_some p ((i + 1 : Nat) : Int)).bind fun x_22 => some x_22)) = some t ∧ (t = true ↔ bg p = ((i + 1 : Nat) : Int)) := by
   by_cases hc : 1 ≤ p.length ∧ p.length ≤ i + 1
   ·rw [show (decide ((p.length : Int) ≥ 1) && decide ((p.length : Int) ≤ ((i + 1 : Nat) : Int))) = true by simp; omega, andE_true]
    cases p with
    | nil => simp at hc
    | cons a t =>
     rw [some_eq hp (by omega) (by omega)]
     exact ⟨_, rfl, smf_bg hp (by omega) (by omega) (by simpa using hc.2)⟩
   ·rw [show (decide ((p.length : Int) ≥ 1) && decide ((p.length : Int) ≤ ((i + 1 : Nat) : Int))) = false by simp; omega, andE_false]
    refine ⟨false, rfl, ?_⟩
    simp only [Bool.false_eq_true, false_iff]
    intro e
    have := bg_ge (p := p) (by omega)
    have h1 : 1 ≤ p.length := by
     cases p with
     | nil => simp [bg] at e; omega
     | cons _ _ => simp
    omega
  obtain ⟨t, h1, h2⟩ := key
  rw [h1]
  simp only [bsm]
  cases t with
  | true => exact .inr ⟨_, rfl, (h2.1 rfl).symm⟩
  | false =>
   refine .inl ⟨_, rfl, by rw [w64_in (by omega)]; simp, fun m m1 m2 => ?_⟩
   by_cases hm : m ≤ i
   ·exact hI m m1 hm
   ·obtain rfl : m = i + 1 := by omega
    exact fun e => by have := h2.2 e; cases this
 ·obtain ⟨e, hI⟩ := hI
  subst e
  refine ⟨.inr (), rfl, ?_⟩
  have e1 := hI 1 (by omega) (by omega)
  have e2 := hI 2 (by omega) (by omega)
  have e3 := hI 3 (by omega) (by omega)
  have e4 := hI 4 (by omega) (by omega)
  simp only
  omega
 ·cases u with
  | inl n => simp only at hu; rw [hu]
  | inr u => simp only at hu; rw [hu]
theorem bg_take {p : List Int} (h : 0 < bg p) {i : Nat} (h1 : 1 ≤ i) (h2 : i ≤ p.length) : bg (p.take i) = bg p := by
 have key : ∀ d, d + 1 ≤ p.length → bg (p.take (p.length - d)) = bg p := by
  intro d
  induction d with
  | zero => intro _; rw [Nat.sub_zero, List.take_of_length_le (Nat.le_refl _)]
  | succ d ih =>
   intro hd
   have e := ih (by omega)
   rw [show p.length - d = (p.length - (d + 1)) + 1 by omega, List.take_succ_eq_append_getElem (show p.length - (d + 1) < p.length by omega)] at e
   have hne : p.take (p.length - (d + 1)) ≠ [] := fun q => by
    have := congrArg List.length q
    rw [List.length_take, List.length_nil] at this
    omega
   rw [bg_pre hne (by rw [e]; exact h), e]
 have := key (p.length - i) (by omega)
 rwa [show p.length - (p.length - i) = i by omega] at this
theorem vl_whole {p : List Int} (hp : Bts p) (hb : bg p = (p.length : Int)) (hne : p ≠ []) : f_linotyperef03_whole p = some (vl p) ∧ 0 ≤ vl p ∧ vl p ≤ 2000000000 := by
 have h4 := bg_le p
 have hlen : 1 ≤ p.length := by
  cases p with
  | nil => exact absurd rfl hne
  | cons _ _ => simp
 have hbd : ∀ i, 1 ≤ i → i < p.length → 0 ≤ vl (p.take i) ∧ vl (p.take i) ≤ 131071 := fun i h1 h2 => by
  have hl : (p.take i).length = i := by rw [List.length_take]; omega
  refine vl_in (.inr ?_) (fun x hx => hp x (List.mem_of_mem_take hx)) (fun e => by rw [e] at hl; simp at hl; omega)
  rw [hl, bg_take (by omega) h1 (by omega)]
  omega
 have hstep : ∀ i, 1 ≤ i → (h : i < p.length) → vl (p.take (i + 1)) = vl (p.take i) * 64 + (p[i] - 128) := fun i h1 h => by
  rw [List.take_succ_eq_append_getElem h, vl_snoc]
  intro e
  have := congrArg List.length e
  rw [List.length_take, List.length_nil] at this
  omega
 have h0 : ∀ a t, p = a :: t → vl (p.take 1) = a - mk p.length := fun a t e => by
  have hk : ld a = (p.length : Int) := by
   have := bg_take (p := p) (by omega) (i := 1) (by omega) (by omega)
   rw [e, List.take_succ_cons, List.take_zero] at this
   rw [← hb, e, ← this]
   rfl
  rw [e, List.take_succ_cons, List.take_zero, ← e]
  simp only [vl, List.foldl]
  unfold b0 mk
  repeat' split
  all_goals omega
 have hfin : 0 ≤ vl p ∧ vl p ≤ 2000000000 := by
  by_cases h1 : p.length = 1
  ·obtain ⟨a, rfl⟩ : ∃ a, p = [a] := by
    match p, h1 with
    | [a], _ => exact ⟨a, rfl⟩
   have := hp a (by simp)
   obtain ⟨a1, a2⟩ := this
   simp only [bg, List.length_cons, List.length_nil] at hb
   simp only [vl, List.foldl]
   unfold b0
   repeat' split
   all_goals omega
  ·have e := hstep (p.length - 1) (by omega) (by omega)
   rw [show p.length - 1 + 1 = p.length by omega, List.take_of_length_le (Nat.le_refl _)] at e
   have b := hbd (p.length - 1) (by omega) (by omega)
   have hx := hp _ (List.getElem_mem (show p.length - 1 < p.length by omega))
   obtain ⟨x1, x2⟩ := hx
   have ht : 128 ≤ p[p.length - 1] := by
    have e2 : p = p.take (p.length - 1) ++ [p[p.length - 1]'(by omega)] := by
     rw [← List.take_succ_eq_append_getElem (by omega), show p.length - 1 + 1 = p.length by omega, List.take_of_length_le (Nat.le_refl _)]
    have hl : (p.take (p.length - 1)).length = p.length - 1 := by rw [List.length_take]; omega
    obtain ⟨lo, hi, _, f2, f3, f4, f5⟩ := more_iff (h := p.take (p.length - 1)) (by rw [hl, bg_take (by omega) (by omega) (by omega)]; omega) (fun q => by rw [q] at hl; simp at hl; omega) (p[p.length - 1]'(by omega))
    by_cases hr : lo ≤ p[p.length - 1]'(by omega) ∧ p[p.length - 1]'(by omega) ≤ hi
    ·omega
    ·have := f5 hr
     rw [← e2] at this
     omega
   omega
 refine ⟨?_, hfin⟩
 obtain ⟨m1, _, _, _⟩ := mk_at (n := p.length) hlen (by omega)
 cases hpe : p with
 | nil => exact absurd hpe hne
 | cons a t =>
  rw [← hpe]
  have hmk : 0 ≤ mk p.length ∧ mk p.length ≤ 240 := by unfold mk; repeat' split; all_goals omega
  have ha := hp a (by rw [hpe]; simp)
  obtain ⟨a1, a2⟩ := ha
  have hi0 : idx p 0 = some a := by rw [hpe]; rfl
  unfold f_linotyperef03_whole
  rw [m1, hi0]
  simp only [bsm]
  rw [w64_in (n := a) (by omega), w64_in (n := a - mk p.length) (by omega)]
  refine iter_forB (n := p.length - 1) (fun i s => s = (vl (p.take (i + 1)), ((i + 1 : Nat) : Int))) (fun u => u = vl p) (fun i s hi e => ?_) (fun s e => ?_) (by rw [h0 a t hpe]; rfl) (by omega) (fun u hu => ?_)
  ·subst e
   have hx := hp _ (List.getElem_mem (show i + 1 < p.length by omega))
   obtain ⟨x1, x2⟩ := hx
   have hv := hbd (i + 1) (by omega) (by omega)
   simp only
   rw [if_pos (by simp; omega), idx_at (show i + 1 < p.length by omega)]
   simp only [bsm]
   rw [w64_in (n := p[i + 1]) (by omega), w64_in (n := vl (p.take (i + 1)) * 64) (by omega), w64_in (n := vl (p.take (i + 1)) * 64 + p[i + 1]) (by omega), w64_in (n := vl (p.take (i + 1)) * 64 + p[i + 1] - 128) (by omega), w64_succ (show i + 1 < p.length by omega) (by omega)]
   refine .inl ⟨_, rfl, ?_⟩
   rw [hstep (i + 1) (by omega) (by omega)]
   congr 1
   omega
  ·subst e
   refine ⟨_, by simp only; rw [if_neg (by simp; omega)], ?_⟩
   rw [show p.length - 1 + 1 = p.length by omega, List.take_of_length_le (Nat.le_refl _)]
  ·subst hu
   rw [w32_in (by omega)]
theorem Bts.snoc {h : List Int} (hb : Bts h) {b : Int} (h1 : Byt b) : Bts (h ++ [b]) := fun x hx => by
 rcases List.mem_append.1 hx with hx | hx
 ·exact hb x hx
 ·rw [List.mem_singleton.1 hx]; exact h1
theorem step1_nil {b : Int} (h : Byt b) : f_linotyperef03_Step__1 [] b = some (rs0 b) := by
 have hb1 : Bts ([] ++ [b]) := Bts.snoc (fun x hx => by simp at hx) h
 have hl := ld_in b
 unfold f_linotyperef03_Step__1
 rw [app_eq (by simp)]
 simp only [bsm]
 rw [app_eq (by simp)]
 simp only [bsm]
 rw [begins_eq (by simpa using hb1) (by simp)]
 simp only [bsm, andE_some, List.nil_append, bg, List.length_cons, List.length_nil]
 unfold rs0
 by_cases h1 : 1 < ld b
 ·rw [if_pos (by simp; omega), if_pos h1]
 ·rw [if_neg (by simp; omega), if_neg h1]
  by_cases h2 : ld b = 1
  ·rw [if_pos (by simp; omega), if_pos h2, (vl_whole (p := [b]) (by simpa using hb1) (by simpa [bg] using h2) (by simp)).1]
   simp only [bsm, vl, List.foldl, b0]
   rw [if_neg (by omega), if_neg (by omega), if_neg (by omega)]
  ·rw [if_neg (by simp; omega), if_neg h2]
   simp
theorem step_eq {h : List Int} (hh : Hh h) (hb : Bts h) {b : Int} (h1 : Byt b) : f_linotyperef03_Step h b = some (rstep h b) := by
 have hb1 := hb.snoc h1
 have h3 := hh.len
 unfold f_linotyperef03_Step
 rw [app_eq (by simp; omega), List.nil_append]
 simp only [bsm]
 rw [app_eq (by simp; omega)]
 simp only [bsm]
 rw [begins_eq hb1 (by simp; omega)]
 simp only [bsm, andE_some]
 by_cases hne : h = []
 ·subst hne
  have := step1_nil h1
  unfold f_linotyperef03_Step__1 at this
  rw [rstep_nil, ← this, app_eq (by simp)]
  simp only [bsm]
  rw [app_eq (by simp)]
  simp only [bsm]
  rw [begins_eq (by simpa using hb1) (by simp)]
  simp only [bsm, andE_some, List.nil_append, List.length_nil]
  rfl
 ·unfold rstep
  rw [if_neg hne]
  have hl : (h ++ [b]).length = h.length + 1 := by simp
  rw [hl]
  by_cases g1 : (h.length : Int) + 1 < bg (h ++ [b])
  ·rw [if_pos (by simp; omega), if_pos g1]
  ·rw [if_neg (by simp; omega), if_neg g1]
   by_cases g2 : 0 < bg (h ++ [b])
   ·rw [if_pos (by simpa using g2), if_pos g2]
    have hw : bg (h ++ [b]) = ((h ++ [b]).length : Int) := by
     have := bg_ge g2
     rw [hl] at this ⊢
     omega
    rw [(vl_whole hb1 hw (by simp)).1]
    rfl
   ·rw [if_neg (by simpa using g2), if_neg g2, if_neg (by simp; exact hne), step1_nil h1]
    have hrl : (rs0 b).1.length ≤ 1 := by
     unfold rs0
     split
     ·simp
     ·split <;> simp
    simp only [bsm]
    rw [app_eq (by simp; omega)]
    rfl
theorem rstep_len (h : List Int) (b : Int) : (rstep h b).1.length ≤ 2 := by
 have hrl : (rs0 b).1.length ≤ 1 := by
  unfold rs0
  split
  ·simp
  ·split <;> simp
 unfold rstep
 split
 ·omega
 ·split
  ·simp
  ·split
   ·simp
   ·simp; omega
theorem rfeed_len (h p : List Int) : (rfeed h p).1.length ≤ 2 * p.length := by
 induction p generalizing h with
 | nil => simp [rfeed]
 | cons b p ih =>
  have := ih (rstep h b).2
  have h2 := rstep_len h b
  simp only [rfeed, List.length_append, List.length_cons]
  omega
theorem rstep_bts {h : List Int} (hb : Bts h) {b : Int} (h1 : Byt b) : Bts (rstep h b).2 := by
 have h0 : Bts (rs0 b).2 := by
  unfold rs0
  split
  ·intro x hx; rw [List.mem_singleton.1 hx]; exact h1
  ·split <;> (intro x hx; simp at hx)
 unfold rstep
 split
 ·exact h0
 ·split
  ·exact hb.snoc h1
  ·split
   ·intro x hx; simp at hx
   ·exact h0
theorem rfeed_bts {h p : List Int} (hb : Bts h) (hp : Bts p) : Bts (rfeed h p).2 := by
 induction p generalizing h with
 | nil => exact hb
 | cons b p ih => exact ih (rstep_bts hb (hp b (by simp))) (fun x hx => hp x (List.mem_cons_of_mem _ hx))
theorem feed_eq {h p : List Int} (hh : Hh h) (hb : Bts h) (hp : Bts p) (hl : p.length ≤ 1000000) : f_linotyperef03_Feed h p = some (rfeed h p) := by
 unfold f_linotyperef03_Feed
 refine iter_forB (n := p.length) (fun i s => s = ((rfeed h (p.take i)).2, (rfeed h (p.take i)).1, (i : Int))) (fun u => u = ((rfeed h p).2, (rfeed h p).1)) (fun i s hi e => ?_) (fun s e => ?_) rfl (by omega) (fun u hu => ?_)
 ·subst e
  have hpt : Bts (p.take i) := fun x hx => hp x (List.mem_of_mem_take hx)
  simp only
  rw [if_pos (dlt hi), idx_at hi, w64_succ hi (by omega)]
  simp only [bsm]
  rw [step_eq (hh.feed _) (rfeed_bts hb hpt) (hp _ (List.getElem_mem hi))]
  simp only [bsm]
  have h1 := rfeed_len h (p.take i)
  have h2 := rstep_len (rfeed h (p.take i)).2 p[i]
  rw [List.length_take] at h1
  rw [app_eq (by omega)]
  refine .inl ⟨_, rfl, ?_⟩
  rw [List.take_succ_eq_append_getElem hi, rfeed_snoc]
 ·subst e
  refine ⟨_, by simp only; rw [if_neg (by simp)], ?_⟩
  rw [List.take_of_length_le (Nat.le_refl _)]
 ·subst hu
  rfl
theorem Hh.nil : Hh [] := .inl rfl
theorem Bts.nil : Bts [] := fun x hx => by simp at hx
def told (c : List Int) : List Int := (rfeed [] c).1 ++ (if (rfeed [] c).2 = [] then [] else [65533])
theorem GK.take {c : List Int} {k : Nat} (h : GK c k) : GK (c.take k) k := by
  have hle := h.le
  refine ⟨by rw [List.length_take]; omega, fun m h1 h2 => ?_, fun hk => ?_, fun hk => ?_, fun hk _ => .inl (by rw [List.length_take]; omega)⟩
  · rw [List.take_take, Nat.min_eq_left (by omega)]
    exact h.lt m h1 h2
  · subst hk
    simp [bg]
  · rw [List.take_take, Nat.min_self]
    exact h.p hk
theorem part_feed {c : List Int} {k : Nat} (h : GK c k) (hk : 0 < k) : (bg (c.take k) = k ∧ rfeed [] (c.take k) = ([vl (c.take k)], [])) ∨ ((k : Int) < bg (c.take k) ∧ rfeed [] (c.take k) = ([], c.take k)) := by
  have hle := h.le
  have hl : (c.take k).length = k := by rw [List.length_take]; omega
  have hp := h.p hk
  have hge := bg_ge hp
  rw [hl] at hge
  have ht := h.take
  have htt : (c.take k).take k = c.take k := by rw [List.take_take, Nat.min_self]
  by_cases hw : bg (c.take k) = k
  · refine .inl ⟨hw, ?_⟩
    have := part_whole ht hk (by rw [htt]; exact hw)
    rw [htt, List.drop_of_length_le (by omega)] at this
    exact this
  · refine .inr ⟨by omega, ?_⟩
    have ht' : GK (c.take k) (c.take k).length := by rw [hl]; exact ht
    exact part_end ht' (by omega) (by rw [hl]; omega)
theorem told_part {c : List Int} {k : Nat} (h : GK c k) (hc : c ≠ []) : told c = (if 0 < k then (if bg (c.take k) = k then vl (c.take k) else 65533) else 65533) :: told (c.drop (max k 1)) := by
  by_cases hk : 0 < k
  · rw [if_pos hk, show max k 1 = k by omega]
    rcases part_feed h hk with ⟨hw, _⟩ | ⟨hw, _⟩
    · rw [if_pos hw]
      have := part_whole h hk hw
      unfold told
      rw [this]
      rfl
    · rw [if_neg (by omega)]
      by_cases hlt : k < c.length
      · have := part_torn h hk hw hlt
        unfold told
        rw [this]
        rfl
      · have hkl : k = c.length := by have := h.le; omega
        subst hkl
        rw [List.take_of_length_le (Nat.le_refl _)] at hw
        have := part_end h hk hw
        unfold told
        rw [this, if_neg hc, List.drop_of_length_le (Nat.le_refl _)]
        rfl
  · rw [if_neg hk, show max k 1 = 1 by omega]
    have := part_none hc (h.z (by omega))
    unfold told
    rw [this]
    rfl
theorem part_loop {p : List Int} (hp : Bts p) (hl : p.length ≤ 1000000) {a : Nat} (ha : a < p.length) : ∃ k : Nat, GK (p.drop a) k ∧ iter (σ := Int) (τ := Int) (((p.length : Int) - (w64 ((a : Int) + 0))).toNat + 1) (fun s_15 =>
 (andE (decide ((w64 ((a : Int) + s_15)) < (p.length : Int))) ((slc p (a : Int) (w64 ((w64 ((a : Int) + s_15)) + 1))).bind fun x_30 =>
 (f_linotyperef03_Begins x_30).bind fun x_31 =>
 some (decide (x_31 > 0)))).bind fun d_22 =>
 if d_22 = true then
 (slc p (a : Int) (w64 ((a : Int) + (w64 (s_15 + 1))))).bind fun x_43 =>
 (f_linotyperef03_Begins x_43).bind fun x_44 =>
 if (x_44 == (w64 (s_15 + 1))) = true then
 some (.inr ((w64 (s_15 + 1))))
 else
 some (.inl ((w64 (s_15 + 1))))
 else
 some (.inr (s_15))) (0) = some (k : Int) := by
  have hcl : (p.drop a).length = p.length - a := by simp
  have hbt : ∀ i, Bts ((p.drop a).take i) := fun i x hx => hp x (List.mem_of_mem_drop (List.mem_of_mem_take hx))
  obtain ⟨t, h1, h2⟩ := iter_inv (σ := Int) (τ := Int) (step := fun s_15 =>
 (andE (decide ((w64 ((a : Int) + s_15)) < (p.length : Int))) ((slc p (a : Int) (w64 ((w64 ((a : Int) + s_15)) + 1))).bind fun x_30 =>
 (f_linotyperef03_Begins x_30).bind fun x_31 =>
 some (decide (x_31 > 0)))).bind fun d_22 =>
 if d_22 = true then
 (slc p (a : Int) (w64 ((a : Int) + (w64 (s_15 + 1))))).bind fun x_43 =>
 (f_linotyperef03_Begins x_43).bind fun x_44 =>
 if (x_44 == (w64 (s_15 + 1))) = true then
 some (.inr ((w64 (s_15 + 1))))
 else
 some (.inl ((w64 (s_15 + 1))))
 else
 some (.inr (s_15))) (fun s => ∃ k : Nat, s = (k : Int) ∧ k ≤ p.length - a ∧ ∀ m, 0 < m → m ≤ k → (m : Int) < bg ((p.drop a).take m)) (fun s => p.length - a - s.toNat) (fun t => ∃ k : Nat, t = (k : Int) ∧ GK (p.drop a) k)
    (fun s hs => by
      obtain ⟨k, rfl, hk, hI⟩ := hs
      have e1 : w64 ((a : Int) + (k : Int)) = ((a + k : Nat) : Int) := by rw [w64_in (by omega)]; simp
      have e2 : w64 (((a + k : Nat) : Int) + 1) = ((a + k + 1 : Nat) : Int) := by rw [w64_in (by omega)]; simp
      have e3 : w64 ((k : Int) + 1) = ((k + 1 : Nat) : Int) := by rw [w64_in (by omega)]; simp
      have e4 : w64 ((a : Int) + ((k + 1 : Nat) : Int)) = ((a + k + 1 : Nat) : Int) := by rw [w64_in (by omega)]; simp; omega
      simp only [e1, e2, e3, e4]
      by_cases hlt : k < p.length - a
      · have hs := slc_eq (xs := p) (i := a) (j := a + k + 1) (by omega) (by omega)
        rw [show a + k + 1 - a = k + 1 by omega] at hs
        rw [show decide (((a + k : Nat) : Int) < (p.length : Int)) = true by simp; omega, andE_true, hs]
        simp only [bsm]
        rw [begins_eq (hbt _) (by simp; omega)]
        simp only [bsm]
        have hge : 0 < bg ((p.drop a).take (k + 1)) → ((k + 1 : Nat) : Int) ≤ bg ((p.drop a).take (k + 1)) := fun h => by
          have := bg_ge h
          rw [List.length_take, hcl] at this
          omega
        by_cases hb : 0 < bg ((p.drop a).take (k + 1))
        · rw [if_pos (by simpa using hb)]
          by_cases hw : bg ((p.drop a).take (k + 1)) = ((k + 1 : Nat) : Int)
          · rw [if_pos (by simpa using hw)]
            refine .inr ⟨_, rfl, k + 1, rfl, by omega, fun m m1 m2 => hI m m1 (by omega), fun h => by omega, fun _ => hb, fun _ h => by omega⟩
          · rw [if_neg (by simpa using hw)]
            refine .inl ⟨_, rfl, ⟨k + 1, rfl, by omega, fun m m1 m2 => ?_⟩, by simp; omega⟩
            by_cases hm : m ≤ k
            · exact hI m m1 hm
            · obtain rfl : m = k + 1 := by omega
              have := hge hb
              omega
        · rw [if_neg (by simpa using hb)]
          have hz : bg ((p.drop a).take (k + 1)) = 0 := by have := bg_le ((p.drop a).take (k + 1)); omega
          refine .inr ⟨_, rfl, k, rfl, by omega, fun m m1 m2 => hI m m1 (by omega), fun h => by subst h; exact hz, fun h => by have := hI k h (Nat.le_refl _); omega, fun _ _ => .inr hz⟩
      · rw [show decide (((a + k : Nat) : Int) < (p.length : Int)) = false by simp; omega, andE_false]
        simp only [bsm, Bool.false_eq_true, if_false]
        have hkk : k = (p.drop a).length := by omega
        refine .inr ⟨_, rfl, k, rfl, by omega, fun m m1 m2 => hI m m1 (by omega), fun h => by omega, fun h => by have := hI k h (Nat.le_refl _); omega, fun _ _ => .inl hkk⟩)
    (((p.length : Int) - (w64 ((a : Int) + 0))).toNat + 1) 0 ⟨0, rfl, Nat.zero_le _, fun m m1 m2 => by omega⟩ (by rw [w64_in (by omega)]; omega)
  obtain ⟨k, rfl, hk⟩ := h2
  exact ⟨k, hk, h1⟩
theorem told_nil : told [] = [] := rfl
theorem all_eq {p : List Int} (hp : Bts p) (hl : p.length ≤ 1000000) : ∃ l, f_linotyperef04_All p = some l ∧ l.map (·.R) = told p ∧ l.length ≤ p.length := by
  unfold f_linotyperef04_All
  refine iter_invE (fun s => ∃ a : Nat, s.2 = (a : Int) ∧ a ≤ p.length ∧ s.1.length ≤ a ∧ s.1.map (·.R) ++ told (p.drop a) = told p) (fun s => p.length - s.2.toNat) (fun t => t.map (·.R) = told p ∧ t.length ≤ p.length) (fun s hs => ?_) ⟨0, rfl, Nat.zero_le _, Nat.le_refl _, rfl⟩ (by simp) (fun t ht => ⟨t, rfl, ht⟩)
  obtain ⟨out, n⟩ := s
  obtain ⟨a, e, ha, ho, hI⟩ := hs
  simp only at e ho hI
  subst e
  simp only
  by_cases hlt : a < p.length
  · rw [if_pos (dlt hlt)]
    obtain ⟨k, hk, hloop⟩ := part_loop hp hl hlt
    rw [hloop]
    simp only [bsm]
    have hcl : (p.drop a).length = p.length - a := by simp
    have hkle := hk.le
    rw [hcl] at hkle
    have htp := told_part hk (fun e => by have := congrArg List.length e; rw [hcl] at this; simp at this; omega)
    have hz : ∃ kn bad, (if (decide ((k : Int) > 0)) = true then
        (slc p (a : Int) (w64 ((a : Int) + (k : Int)))).bind fun x_66 =>
        (f_linotyperef03_Feed ([] : List Int) x_66).bind fun x_67 =>
        if ((x_67.2.length : Int) == 0) = true then
        (idx x_67.1 0).bind fun x_89 =>
        (some (x_89, (k : Int), (w64 ((a : Int) + (k : Int))), false) : Option (Int × Int × Int × Bool))
        else
        (some (65533, (imax (k : Int) 1), (imin (w64 ((w64 ((a : Int) + (k : Int))) + 1)) (p.length : Int)), true) : Option (Int × Int × Int × Bool))
        else
        (some (65533, (imax (k : Int) 1), (w64 ((a : Int) + 1)), true) : Option (Int × Int × Int × Bool))) = some ((if 0 < k then (if bg ((p.drop a).take k) = k then vl ((p.drop a).take k) else 65533) else 65533), ((max k 1 : Nat) : Int), kn, bad) := by
      by_cases h0 : 0 < k
      · rw [if_pos (by simpa using h0), if_pos h0]
        have e1 : w64 ((a : Int) + (k : Int)) = ((a + k : Nat) : Int) := by rw [w64_in (by omega)]; simp
        have hs := slc_eq (xs := p) (i := a) (j := a + k) (by omega) (by omega)
        rw [show a + k - a = k by omega] at hs
        rw [e1, hs]
        simp only [bsm]
        rw [feed_eq Hh.nil Bts.nil (fun x hx => hp x (List.mem_of_mem_drop (List.mem_of_mem_take hx))) (by simp; omega)]
        simp only [bsm]
        rcases part_feed hk h0 with ⟨hw, hf⟩ | ⟨hw, hf⟩
        · rw [hf, if_pos (by simp), if_pos hw]
          exact ⟨_, _, by rw [show max k 1 = k by omega]; rfl⟩
        · rw [hf, if_neg (by simp; omega), if_neg (by omega)]
          exact ⟨_, _, by rw [imax_eq, show max (k : Int) 1 = ((max k 1 : Nat) : Int) by omega]⟩
      · rw [if_neg (by simpa using h0), if_neg h0]
        exact ⟨_, _, by rw [imax_eq, show max (k : Int) 1 = ((max k 1 : Nat) : Int) by omega]⟩
    obtain ⟨kn, bad, hz⟩ := hz
    rw [hz]
    simp only [bsm]
    rw [app_eq (by simp; omega)]
    simp only [bsm]
    have e5 : w64 ((a : Int) + ((max k 1 : Nat) : Int)) = ((a + max k 1 : Nat) : Int) := by rw [w64_in (by omega)]; simp
    rw [e5]
    refine .inl ⟨_, rfl, ⟨a + max k 1, rfl, by omega, by simp; omega, ?_⟩, by simp only; omega⟩
    simp only [List.map_append, List.map_cons, List.map_nil, List.append_assoc, List.cons_append, List.nil_append]
    rw [← hI, htp, List.drop_drop]
  · rw [if_neg (by simp; omega)]
    refine .inr ⟨_, rfl, ?_, by omega⟩
    rw [List.drop_of_length_le (by omega), told_nil, List.append_nil] at hI
    exact hI
end Go.Proofs.YtfhhpdggmefcoaaGreatDoor
namespace Go.Proofs.YtfhhpdggmefcoaaGreatDoor
open Go Go.Lt
variable {s C : Sto} {f k g W H : Nat} {q P : G_linotyperef34_Pen} {ks : List Nat}
def Sto.sf (s : Sto) (f : Nat) (x : G_feed_Feeder) : Sto := { s with feed_Feeder := s.feed_Feeder.set f x }
theorem set_fd {x : G_feed_Feeder} (h : f < s.feed_Feeder.length) : s.set_feed_Feeder f x = some (s.sf f x) := by
 unfold Sto.set_feed_Feeder
 rw [if_pos h]
 rfl
theorem sf_get {x : G_feed_Feeder} (h : f < s.feed_Feeder.length) : (s.sf f x).feed_Feeder[f]? = some x := by simp [Sto.sf, h]
theorem sf_sf (s : Sto) (f : Nat) (x y : G_feed_Feeder) : (s.sf f x).sf f y = s.sf f y := by simp [Sto.sf]
theorem sf_len (s : Sto) (f : Nat) (x : G_feed_Feeder) : (s.sf f x).feed_Feeder.length = s.feed_Feeder.length := by simp [Sto.sf]
theorem Pv.sf (h : Pv s s k g W q ks) (x : G_feed_Feeder) : Pv (s.sf f x) (s.sf f x) k g W q ks :=
 ⟨h.p, ⟨h.g.g, h.g.r, h.g.h1, h.g.h2, h.g.w1, h.g.w2⟩, h.nd, h.l, rfl, h.f.rgp ⟨rfl, rfl, rfl⟩ ⟨rfl, rfl, rfl⟩⟩
theorem Wc.sf {j : Nat} {c : G_api_Cursor} {y : G_cwidth_Gauge} {t : List Int} {n : Int} (h : Wc s j c y t n) (x : G_feed_Feeder) : Wc (s.sf f x) j c y t n := ⟨h.x⟩
def ownC (C : Sto) (f j : Nat) : Prop := ∃ x, C.feed_Feeder[f]? = some x ∧ x.open_ = some j
structure Fz (C s : Sto) (f : Nat) (op : Option Nat) : Prop where
 fl : C.feed_Feeder.length ≤ s.feed_Feeder.length
 ff : ∀ j, j < C.feed_Feeder.length → j ≠ f → s.feed_Feeder[j]? = C.feed_Feeder[j]?
 wl : C.widen_Cluster.length ≤ s.widen_Cluster.length
 wc : ∀ j, j < C.widen_Cluster.length → ¬ ownC C f j → s.widen_Cluster[j]? = C.widen_Cluster[j]?
 oc : ∀ j, op = some j → ownC C f j ∨ C.widen_Cluster.length ≤ j
 sc : (() : Unit) = ()
theorem oth_fd {a b : Sto} (h : a.oth = b.oth) : a.feed_Feeder = b.feed_Feeder := by
 have := congrArg Sto.feed_Feeder h
 exact this
theorem Fz.oth {s' : Sto} {op : Option Nat} (h : Fz C s f op) (e : s'.oth = s.oth) : Fz C s' f op := by
 refine ⟨by rw [oth_fd e]; exact h.fl, by rw [oth_fd e]; exact h.ff, by rw [oth_cl e]; exact h.wl, by rw [oth_cl e]; exact h.wc, h.oc, rfl⟩
theorem Fz.sf {op : Option Nat} (h : Fz C s f op) (x : G_feed_Feeder) (op' : Option Nat) (ho : ∀ j, op' = some j → ownC C f j ∨ C.widen_Cluster.length ≤ j) : Fz C (s.sf f x) f op' :=
 ⟨by rw [sf_len]; exact h.fl, fun j a b => by simp only [Sto.sf]; rw [List.getElem?_set_ne (Ne.symm b)]; exact h.ff j a b, h.wl, h.wc, ho, h.sc⟩
theorem Fz.more {op : Option Nat} (h : Fz C s f op) {s' : Sto} {z : G_widen_Cluster} (e : s'.oth = (s.add_widen_Cluster z).oth) : Fz C s' f op := by
 have e1 : s'.feed_Feeder = s.feed_Feeder := (oth_fd e).trans rfl
 have e2 : s'.widen_Cluster = s.widen_Cluster ++ [z] := (oth_cl e).trans rfl
 have e3 : (() : Unit) = () := rfl
 have hl := h.wl
 exact ⟨by rw [e1]; exact h.fl, by rw [e1]; exact h.ff, by rw [e2, List.length_append]; omega, fun j a b => by rw [e2, List.getElem?_append_left (by omega)]; exact h.wc j a b, h.oc, rfl⟩
theorem Fz.grow {j : Nat} (h : Fz C s f (some j)) {s' : Sto} {z : G_widen_Cluster} (e : s'.oth = (s.sc j z).oth) : Fz C s' f (some j) := by
 have e1 : s'.feed_Feeder = s.feed_Feeder := (oth_fd e).trans rfl
 have e2 : s'.widen_Cluster = s.widen_Cluster.set j z := (oth_cl e).trans rfl
 have e3 : (() : Unit) = () := rfl
 refine ⟨by rw [e1]; exact h.fl, by rw [e1]; exact h.ff, by rw [e2, List.length_set]; exact h.wl, fun i a b => ?_, h.oc, rfl⟩
 rw [e2, List.getElem?_set_ne ?_]
 ·exact h.wc i a b
 ·rintro rfl
  rcases h.oc j rfl with q | q
  ·exact b q
  ·omega
def lsil (G : List Int) : Bool := match G.getLast? with | none => true | some x => sil x
theorem lsil_snoc (G : List Int) (r : Int) : lsil (G ++ [r]) = sil r := by simp [lsil]
def sgOf (G : List Int) : Sg := if lsil G = true then sg0 else sgF (G.map pr)
structure Op (s : Sto) (k g W H : Nat) (P : G_linotyperef34_Pen) (G : List Int) (q : G_linotyperef34_Pen) (j : Nat) : Prop where
 x : ∃ q0 c C0 s0 ks0 cs0 cl, cls pj pr G = cs0 ++ [cl] ∧ cl ≠ [] ∧ sil (cl.headD 0) = false ∧ fo layc P cs0 = some q0 ∧ Pv C0 s0 k g W q0 ks0 ∧ ks0.length = H ∧
  Wc s j c (gf (cl.take 16) ((cl.take 16).map pr)) (cl.take 16) (w16 cl) ∧ f_linotyperef34_Pen_Put q0 (w16 cl) (cl.take 16) = some (q, c)
structure Fd (C s : Sto) (f k g W H : Nat) (P : G_linotyperef34_Pen) (G h : List Int) (q : G_linotyperef34_Pen) (ks : List Nat) (op : Option Nat) : Prop where
 v : Pv s s k g W q ks
 fr : Fr C s k g ks
 fz : Fz C s f op
 n : ks.length = H
 hd : Hd q.At W H
 l : fo layc P (cls pj pr G) = some q
 gv : ∀ x ∈ G, vld x = true
 d : ∃ d, s.feed_Feeder[f]? = some ⟨some k, d, sgB (sgOf G), op⟩ ∧ Dv d h
 o1 : lsil G = true → op = none
 o2 : lsil G = false → ∃ j, op = some j ∧ Op s k g W H P G q j
theorem vld_32 {x : Int} (h : vld x = true) : r32 x := by
 unfold vld at h
 unfold r32
 simp only [Bool.and_eq_true, decide_eq_true_eq] at h
 omega
theorem do36_of {q q' : G_linotyperef34_Pen} {r : Int} {b : Bool} (h : f_linotyperef36_Do q r = some (q', b)) : do36 q r = some q' := by
 unfold do36
 rw [h]
 rfl
theorem w16_len (c : List Int) : (c.take 16).length ≤ 16 := by rw [List.length_take]; omega
theorem gf_map_snoc (t : List Int) (r : Int) : gf (t ++ [r]) ((t ++ [r]).map pr) = gz (gf t (t.map pr)) r (pr r) := by
 rw [gf_snoc (by simp) r]
 have e : ((t ++ [r]).map pr).take t.length = t.map pr := by simp
 rw [← gf_take t ((t ++ [r]).map pr) (Nat.le_refl _), e]
 simp
theorem fixv_vld {r : Int} (h : vld r = true) : fixv r = r := by unfold fixv; rw [if_pos h]
theorem put_hd {C s : Sto} {k g W H : Nat} {q0 q : G_linotyperef34_Pen} {ks : List Nat} (h : Pv C s k g W q0 ks) (hn : ks.length = H) {n : Int} {t : List Int} (ht : t.length ≤ 1000000) {c : G_api_Cursor} (hp : f_linotyperef34_Pen_Put q0 n t = some (q, c)) : Hd q.At W H := by
 obtain ⟨s', q', ks', i, a, _, _, a2, _, _, a5, _⟩ := put_eq h n t ht
 rw [hp] at a2
 cases a2
 rw [← hn]
 exact a5
theorem comes_eq {G h : List Int} {op : Option Nat} (F : Fd C s f k g W H P G h q ks op) {r : Int} (hr : vld r = true) : ∃ s' q' ks' op', f_feed_Feeder_comes s (some f) r = some s' ∧ Fd C s' f k g W H P (G ++ [r]) h q' ks' op' := by
 obtain ⟨d, hd, hdv⟩ := F.d
 have hf := get_lt hd
 have hgv : ∀ x ∈ G ++ [r], vld x = true := fun x hx => by
  rcases List.mem_append.1 hx with hx | hx
  ·exact F.gv x hx
  ·rw [List.mem_singleton.1 hx]; exact hr
 have hcs := cls_snoc pj pr G r
 unfold f_feed_Feeder_comes
 rw [silent]
 simp only [bsm]
 cases hs : sil r with
 | true =>
  simp only [if_true]
  unfold f_feed_Feeder_Close
  simp only [Option.isNone_some, Bool.not_false, if_true, bsm, hd]
  rw [set_fd hf]
  simp only [bsm, seg_reset]
  rw [set_fd (by rw [sf_len]; exact hf), sf_sf]
  simp only [bsm]
  rw [sf_get hf]
  simp only [bsm]
  obtain ⟨s', q', ks', a1, a2, a3, hks, hcd⟩ := ctrl_eq (F.v.sf (f := f) ⟨some k, d, sgB sg0, none⟩) r
  rw [a1]
  have hdo := do36_of a2
  have hf1 : Fr C (s.sf f ⟨some k, d, sgB sg0, none⟩) k g ks := F.fr.rgp (Rgp.self _) ⟨rfl, rfl, rfl⟩
  have hv1 := F.v.sf (f := f) ⟨some k, d, sgB sg0, none⟩
  refine ⟨s', q', ks', none, rfl, ⟨a3.self, hf1.trans hv1.oG hv1.oR a3.f, (F.fz.sf ⟨some k, d, sgB sg0, none⟩ none (fun j e => by cases e)).oth a3.o, by rw [hks]; exact F.n, by rw [← F.n]; exact hcd (by rw [F.n]; exact F.hd), ?_, hgv, ⟨d, ?_, hdv⟩, fun _ => rfl, fun e => ?_⟩⟩
  ·
   rw [hcs]
   split
   ·rename_i hj
    obtain ⟨l0, x, rfl, hx⟩ := silS.yes hs hj
    obtain ⟨cs0, c, ec⟩ := snoc_cases ((cls_flat (pj := pj) (pr := pr) (l0 ++ [x])).2.2 (by simp))
    obtain ⟨c', rfl⟩ := cls_last ec
    rw [ec, addL_snoc]
    have hall := silS.all (l0 ++ [x]) (c' ++ [x]) (by rw [ec]; simp)
    have hal : ∀ y ∈ c' ++ [x], sil y = true := by
     rcases hall with q | q
     ·exact q
     ·have := q x (by simp); rw [hx] at this; cases this
    have hl := F.l
    rw [ec, fo_snoc] at hl
    rw [fo_snoc]
    cases hq0 : fo layc P cs0 with
    | none => rw [hq0] at hl; cases hl
    | some q0 =>
     rw [hq0] at hl
     simp only [bsm] at hl ⊢
     obtain ⟨a, t, ea⟩ : ∃ a t, c' ++ [x] = a :: t := by
      cases h : c' ++ [x] with
      | nil => simp at h
      | cons a t => exact ⟨a, t, rfl⟩
     have ha : sil a = true := hal a (by rw [ea]; simp)
     rw [ea, layc_sil ha] at hl
     rw [ea, List.cons_append, layc_sil ha, ← List.cons_append, fo_snoc, hl]
     exact hdo
   ·rw [fo_snoc, F.l]
    simp only [bsm]
    rw [layc_sil hs]
    show (do36 q r).bind (fun b => some b) = _
    rw [hdo]
    rfl
  ·have : sgOf (G ++ [r]) = sg0 := by unfold sgOf; rw [lsil_snoc, if_pos hs]
   rw [this, oth_fd a3.o]
   exact sf_get hf
  ·rw [lsil_snoc, hs] at e
   cases e
 | false =>
  simp only [Bool.false_eq_true, if_false]
  rw [ucd_of r (vld_32 hr)]
  simp only [bsm, hd]
  rw [seg_step]
  simp only [bsm]
  rw [set_fd hf]
  simp only [bsm]
  have hsj : sgJ pj (sgOf G) (pr r) = jn pj pr G r ∧ sgN (sgOf G) (pr r) = sgF ((G ++ [r]).map pr) := by
   unfold sgOf
   rw [List.map_append, List.map_singleton, sgF_snoc]
   cases hL : lsil G with
   | false => simp only [Bool.false_eq_true, if_false]; exact ⟨rfl, trivial⟩
   | true =>
    simp only [if_true]
    by_cases hG : G = []
    ·subst hG; exact ⟨rfl, rfl⟩
    ·obtain ⟨G0, x, rfl⟩ := snoc_cases hG
     rw [lsil_snoc] at hL
     rw [silS.no G0 hL hs, silS.new G0 hL]
     exact ⟨rfl, rfl⟩
  rw [hsj.1, hsj.2]
  have hsg : sgOf (G ++ [r]) = sgF ((G ++ [r]).map pr) := by unfold sgOf; rw [lsil_snoc, hs]; rfl
  rw [← hsg]
  have hv1 := F.v.sf (f := f) ⟨some k, d, sgB (sgOf (G ++ [r])), op⟩
  have hf1 : Fr C (s.sf f ⟨some k, d, sgB (sgOf (G ++ [r])), op⟩) k g ks := F.fr.rgp (Rgp.self _) ⟨rfl, rfl, rfl⟩
  have hz1 := F.fz.sf ⟨some k, d, sgB (sgOf (G ++ [r])), op⟩ op F.fz.oc
  have hg1 : (s.sf f ⟨some k, d, sgB (sgOf (G ++ [r])), op⟩).feed_Feeder[f]? = some ⟨some k, d, sgB (sgOf (G ++ [r])), op⟩ := sf_get hf
  simp only [andE_some, bsm]
  rw [hg1]
  simp only [bsm]
  have hfix := fixv_vld hr
  cases hj : jn pj pr G r with
  | true =>
   have hL : lsil G = false := by
    cases hL : lsil G with
    | false => rfl
    | true =>
     obtain ⟨G0, x, rfl⟩ := snoc_cases (jn_ne pj pr hj)
     rw [lsil_snoc] at hL
     rw [silS.no G0 hL hs] at hj
     cases hj
   obtain ⟨j, rfl, ⟨q0, c, C0, s0, ks0, cs0, cl, ec, hcne, hcs0, hq0, hp0, hn0, hw, hput⟩⟩ := F.o2 hL
   simp only [Option.isNone_some, Bool.not_false, Bool.and_self, if_true]
   have hcs2 : cls pj pr (G ++ [r]) = cs0 ++ [cl ++ [r]] := by rw [hcs, if_pos hj, ec, addL_snoc]
   have hclv : ∀ x ∈ cl.take 16, vld x = true := fun x hx => F.gv x (by
    rw [← (cls_flat (pj := pj) (pr := pr) G).1, ec]
    exact List.mem_flatten.2 ⟨cl, by simp, List.mem_of_mem_take hx⟩)
   have hhd : sil ((cl ++ [r]).headD 0) = false := by
    cases cl with
    | nil => exact absurd rfl hcne
    | cons a t => exact hcs0
   have hw16 : w16 cl = wz (gf (cl.take 16) ((cl.take 16).map pr)) := rfl
   rw [hw16] at hw hput
   have on : On C (s.sf f ⟨some k, d, sgB (sgOf (G ++ [r])), some j⟩) k g W H j q0 (gf (cl.take 16) ((cl.take 16).map pr)) (cl.take 16) q c ks := ⟨hv1, hf1, hw.sf _, F.n, hput⟩
   have hlayc : ∀ q2 c2, f_linotyperef34_Pen_Put q0 (w16 (cl ++ [r])) ((cl ++ [r]).take 16) = some (q2, c2) → fo layc P (cls pj pr (G ++ [r])) = some q2 := fun q2 c2 e => by
    rw [hcs2, fo_snoc, hq0]
    simp only [bsm]
    cases hcc : cl ++ [r] with
    | nil => simp at hcc
    | cons a t =>
     rw [hcc] at e hhd
     rw [layc_not (by simpa using hhd), e]
     rfl
   have hlen : cl.length < 16 ∨ 16 ≤ cl.length := by omega
   have hcl1 : 1 ≤ cl.length := by
    cases cl with
    | nil => exact absurd rfl hcne
    | cons _ _ => simp
   rcases hlen with hlt | hge
   ·have et : cl.take 16 = cl := List.take_of_length_le (by omega)
    have et2 : (cl ++ [r]).take 16 = cl ++ [r] := List.take_of_length_le (by simp; omega)
    rw [et] at on hclv
    obtain ⟨s', q', c', ks', b1, b2, z, b3⟩ := join_eq hp0 hn0 on hcl1 hlt hclv r (pr r)
    rw [b1]
    simp only [bsm]
    rw [hfix, ← gf_map_snoc] at b2
    have hw2 : w16 (cl ++ [r]) = wz (gf (cl ++ [r]) ((cl ++ [r]).map pr)) := by unfold w16; rw [et2]
    refine ⟨s', q', ks', some j, rfl, ⟨b2.v, b2.f, hz1.grow b3, b2.n, put_hd hp0 hn0 (w16_len cl |> fun _ => by simp; omega) b2.p, hlayc q' c' (by rw [hw2, et2]; exact b2.p), hgv, ⟨d, ?_, hdv⟩, fun e => ?_, fun _ => ⟨j, rfl, ⟨q0, c', C0, s0, ks0, cs0, cl ++ [r], hcs2, by simp, hhd, hq0, hp0, hn0, ?_, by rw [hw2, et2]; exact b2.p⟩⟩⟩⟩
    ·rw [show s'.feed_Feeder = (s.sf f ⟨some k, d, sgB (sgOf (G ++ [r])), some j⟩).feed_Feeder from (oth_fd b3).trans rfl]
     exact hg1
    ·rw [lsil_snoc, hs] at e; cases e
    ·rw [hw2, et2]
     exact b2.w
   ·have hfl : (cl.take 16).length = 16 := by rw [List.length_take]; omega
    have et2 : (cl ++ [r]).take 16 = cl.take 16 := List.take_append_of_le_length hge
    have hw2 : w16 (cl ++ [r]) = w16 cl := by unfold w16; rw [et2]
    rw [join_full on hfl r (pr r)]
    simp only [bsm]
    refine ⟨_, q, ks, some j, rfl, ⟨hv1, hf1, hz1, F.n, F.hd, hlayc q c (by rw [hw2, et2]; exact hput), hgv, ⟨d, hg1, hdv⟩, fun e => ?_, fun _ => ⟨j, rfl, ⟨q0, c, C0, s0, ks0, cs0, cl ++ [r], hcs2, by simp, hhd, hq0, hp0, hn0, ?_, by rw [hw2, et2]; exact hput⟩⟩⟩⟩
    ·rw [lsil_snoc, hs] at e; cases e
    ·rw [hw2, et2]
     exact hw.sf _
  | false =>
   simp only [Bool.false_and, Bool.false_eq_true, if_false]
   obtain ⟨s2, q2, c2, ks2, b1, b2, z, b3⟩ := begin_eq hv1 r (pr r)
   rw [b1]
   simp only [bsm]
   have e1 : s2.feed_Feeder = (s.sf f ⟨some k, d, sgB (sgOf (G ++ [r])), op⟩).feed_Feeder := (oth_fd b3).trans rfl
   rw [e1, hg1]
   simp only [bsm]
   have hf2 : f < s2.feed_Feeder.length := by rw [e1, sf_len]; exact hf
   rw [set_fd hf2]
   rw [hfix] at b2
   have hgf : gz ⟨false, false, false⟩ r (pr r) = gf [r] ([r].map pr) := by
    have := gf_map_snoc [] r
    simp only [List.nil_append] at this
    rw [this]
    rfl
   rw [hgf] at b2
   have hcs2 : cls pj pr (G ++ [r]) = cls pj pr G ++ [[r]] := by rw [hcs, hj]; rfl
   have hlay : fo layc P (cls pj pr (G ++ [r])) = some q2 := by
    rw [hcs2, fo_snoc, F.l]
    simp only [bsm]
    rw [layc_not hs]
    show (f_linotyperef34_Pen_Put q (wz (gf [r] ([r].map pr))) [r]).map (·.1) = some q2
    rw [b2.p]
    rfl
   refine ⟨_, q2, ks2, some (s.sf f ⟨some k, d, sgB (sgOf (G ++ [r])), op⟩).widen_Cluster.length, rfl, ⟨b2.v.sf _, ?_, (hz1.more b3).sf _ _ (fun j e => ?_), b2.n.trans F.n, put_hd F.v F.n (by simp) b2.p, hlay, hgv, ⟨d, sf_get hf2, hdv⟩, fun e => ?_, fun _ => ⟨_, rfl, ⟨q, c2, _, _, ks, cls pj pr G, [r], hcs2, by simp, hs, F.l, F.v, F.n, b2.w.sf _, b2.p⟩⟩⟩⟩
   ·exact (hf1.trans hv1.oG hv1.oR b2.f).rgp (Rgp.self _) ⟨rfl, rfl, rfl⟩
   ·cases e
    exact .inr hz1.wl
   ·rw [lsil_snoc, hs] at e; cases e
end Go.Proofs.YtfhhpdggmefcoaaGreatDoor
namespace Go.Proofs.YtfhhpdggmefcoaaGreatDoor
open Go Go.Lt
variable {s C : Sto} {f k g W H : Nat} {q P : G_linotyperef34_Pen} {ks : List Nat} {op : Option Nat}
theorem vl_vld {p : List Int} (hp : Bts p) (hb : bg p = (p.length : Int)) (hne : p ≠ []) : vld (vl p) = true := by
 have h4 := bg_le p
 unfold vld
 simp only [Bool.and_eq_true, decide_eq_true_eq]
 match p, hne with
 | [a], _ =>
  obtain ⟨a1, a2⟩ := hp a (by simp)
  have hl := ld_cases a
  simp only [bg, List.length_cons, List.length_nil] at hb
  simp only [vl, List.foldl, b0]
  repeat' split
  all_goals simp only [Bool.or_eq_true, decide_eq_true_eq]
  all_goals omega
 | [a, b], _ =>
  obtain ⟨a1, a2⟩ := hp a (by simp)
  have hl := ld_cases a
  simp only [bg, List.length_cons, List.length_nil] at hb
  split at hb
  ·rename_i g
   have hs : 128 ≤ b ∧ b ≤ 191 := by
    have := g.2
    unfold slo shi at this
    repeat' split at this
    all_goals omega
   simp only [vl, List.foldl, b0]
   repeat' split
   all_goals simp only [Bool.or_eq_true, decide_eq_true_eq]
   all_goals omega
  ·omega
 | [a, b, c], _ =>
  obtain ⟨a1, a2⟩ := hp a (by simp)
  have hl := ld_cases a
  simp only [bg, List.length_cons, List.length_nil] at hb
  split at hb
  ·rename_i g
   have hs : 128 ≤ b ∧ b ≤ 191 ∧ (a = 237 → b ≤ 159) := by
    have := g.2
    unfold slo shi at this
    repeat' split at this
    all_goals omega
   simp only [vl, List.foldl, b0]
   repeat' split
   all_goals simp only [Bool.or_eq_true, decide_eq_true_eq]
   all_goals omega
  ·omega
 | [a, b, c, d], _ =>
  obtain ⟨a1, a2⟩ := hp a (by simp)
  have hl := ld_cases a
  simp only [bg, List.length_cons, List.length_nil] at hb
  split at hb
  ·rename_i g
   have hs : 128 ≤ b ∧ b ≤ 191 ∧ (a = 240 → 144 ≤ b) ∧ (a = 244 → b ≤ 143) := by
    have := g.2
    unfold slo shi at this
    repeat' split at this
    all_goals omega
   simp only [vl, List.foldl, b0]
   repeat' split
   all_goals simp only [Bool.or_eq_true, decide_eq_true_eq]
   all_goals omega
  ·omega
 | _ :: _ :: _ :: _ :: _ :: _, _ => simp only [bg, List.length_cons] at hb; omega
theorem rs0_vld {b : Int} (h : Byt b) : ∀ x ∈ (rs0 b).1, vld x = true := fun x hx => by
 obtain ⟨h1, h2⟩ := h
 have hl := ld_cases b
 unfold rs0 at hx
 split at hx
 ·simp at hx
 ·split at hx
  ·rw [List.mem_singleton.1 hx]
   unfold vld
   simp only [Bool.and_eq_true, Bool.or_eq_true, decide_eq_true_eq]
   omega
  ·rw [List.mem_singleton.1 hx]; rfl
theorem rstep_vld {h : List Int} (hb : Bts h) {b : Int} (h1 : Byt b) : ∀ x ∈ (rstep h b).1, vld x = true := fun x hx => by
 unfold rstep at hx
 split at hx
 ·exact rs0_vld h1 x hx
 ·split at hx
  ·simp at hx
  ·split at hx
   ·rename_i g1 g2
    rw [List.mem_singleton.1 hx]
    refine vl_vld (hb.snoc h1) ?_ (by simp)
    have := bg_ge g2
    simp only [List.length_append, List.length_cons, List.length_nil] at this ⊢
    omega
   ·rcases List.mem_cons.1 hx with hx | hx
    ·rw [hx]; rfl
    ·exact rs0_vld h1 x hx
theorem ex4 {α β γ δ : Type} {X : Option α} {Q : α → β → γ → δ → Prop} (h : ∃ a, X = some a ∧ ∃ b c d, Q a b c d) : ∃ a b c d, X = some a ∧ Q a b c d := by
 obtain ⟨a, h1, b, c, d, h2⟩ := h
 exact ⟨a, b, c, d, h1, h2⟩
theorem fall_eq {G h : List Int} (F : Fd C s f k g W H P G h q ks op) {l : List Int} (hl : l.length ≤ 1000000) (hv : ∀ x ∈ l, vld x = true) : ∃ s' q' ks' op', f_feed_Feeder_all s (some f) l = some s' ∧ Fd C s' f k g W H P (G ++ l) h q' ks' op' := by
 unfold f_feed_Feeder_all
 refine ex4 (iter_forE (n := l.length) (fun i (st : Int × Sto) => st.1 = (i : Int) ∧ ∃ q' ks' op', Fd C st.2 f k g W H P (G ++ l.take i) h q' ks' op') (fun u : Sto => ∃ q' ks' op', Fd C u f k g W H P (G ++ l) h q' ks' op') (p := fun s' : Sto => ∃ q' ks' op', Fd C s' f k g W H P (G ++ l) h q' ks' op') (fun i st hi hI => ?_) (fun st hI => ?_) ⟨rfl, q, ks, op, by simpa using F⟩ (by omega) (fun u hu => ⟨u, rfl, hu⟩))
 ·obtain ⟨i', st⟩ := st
  obtain ⟨e, q1, ks1, op1, F1⟩ := hI
  simp only at e F1
  subst e
  simp only
  rw [if_pos (dlt hi), idx_at hi, w64_succ hi (by omega)]
  simp only [bsm]
  obtain ⟨s2, q2, ks2, op2, b1, b2⟩ := comes_eq F1 (hv _ (List.getElem_mem hi))
  rw [b1]
  refine .inl ⟨_, rfl, rfl, q2, ks2, op2, ?_⟩
  rw [List.take_succ_eq_append_getElem hi, ← List.append_assoc]
  exact b2
 ·obtain ⟨i', st⟩ := st
  obtain ⟨e, q1, ks1, op1, F1⟩ := hI
  simp only at e F1
  subst e
  refine ⟨st, by simp only; rw [if_neg (by simp)], q1, ks1, op1, ?_⟩
  rw [List.take_of_length_le (Nat.le_refl _)] at F1
  exact F1
theorem Fd.dec {G h h' : List Int} (F : Fd C s f k g W H P G h q ks op) {d d' : G_utfdec_Dec} (hd : s.feed_Feeder[f]? = some ⟨some k, d, sgB (sgOf G), op⟩) (hv : Dv d' h') : Fd C (s.sf f ⟨some k, d', sgB (sgOf G), op⟩) f k g W H P G h' q ks op := by
 have hf := get_lt hd
 refine ⟨F.v.sf _, F.fr.rgp (Rgp.self _) ⟨rfl, rfl, rfl⟩, F.fz.sf _ _ F.fz.oc, F.n, F.hd, F.l, F.gv, ⟨d', sf_get hf, hv⟩, F.o1, fun e => ?_⟩
 obtain ⟨j, e1, ⟨q0, c, C0, s0, ks0, cs0, cl, a1, a2, a3, a4, a5, a6, a7, a8⟩⟩ := F.o2 e
 exact ⟨j, e1, ⟨q0, c, C0, s0, ks0, cs0, cl, a1, a2, a3, a4, a5, a6, a7.sf _, a8⟩⟩
theorem fbytes_eq {G h : List Int} (F : Fd C s f k g W H P G h q ks op) (hb : Bts h) {b : List Int} (hl : b.length ≤ 9223372036854775807) (hbt : Bts b) : ∃ s' q' ks' op', f_feed_Feeder_Bytes s (some f) b = some s' ∧ Fd C s' f k g W H P (G ++ (rfeed h b).1) (rfeed h b).2 q' ks' op' := by
 unfold f_feed_Feeder_Bytes
 simp only [Option.isNone_some, Bool.false_eq_true, if_false, bsm]
 refine ex4 (iter_forE (n := b.length) (fun i (st : Int × Sto) => st.1 = (i : Int) ∧ ∃ q' ks' op', Fd C st.2 f k g W H P (G ++ (rfeed h (b.take i)).1) (rfeed h (b.take i)).2 q' ks' op') (fun u : Sto => ∃ q' ks' op', Fd C u f k g W H P (G ++ (rfeed h b).1) (rfeed h b).2 q' ks' op') (p := fun s' : Sto => ∃ q' ks' op', Fd C s' f k g W H P (G ++ (rfeed h b).1) (rfeed h b).2 q' ks' op') (fun i st hi hI => ?_) (fun st hI => ?_) ⟨rfl, q, ks, op, by simpa [rfeed] using F⟩ (by omega) (fun u hu => ⟨u, rfl, hu⟩))
 ·obtain ⟨i', st⟩ := st
  obtain ⟨e, q1, ks1, op1, F1⟩ := hI
  simp only at e F1
  subst e
  simp only
  rw [if_pos (dlt hi), idx_at hi, w64_succ hi (by omega)]
  obtain ⟨d, hd, hdv⟩ := F1.d
  simp only [bsm, hd]
  have hx := hbt _ (List.getElem_mem hi)
  obtain ⟨d', c1, c2⟩ := dec_step hdv hx
  rw [c1]
  simp only [bsm]
  rw [set_fd (get_lt hd)]
  simp only [bsm]
  have hbt' : Bts (b.take i) := fun x hx => hbt x (List.mem_of_mem_take hx)
  obtain ⟨s2, q2, ks2, op2, b1, b2⟩ := fall_eq (F1.dec hd c2) (l := (rstep (rfeed h (b.take i)).2 b[i]).1) (by have := rstep_len (rfeed h (b.take i)).2 b[i]; omega) (rstep_vld (rfeed_bts hb hbt') hx)
  rw [b1]
  refine .inl ⟨_, rfl, rfl, q2, ks2, op2, ?_⟩
  rw [List.take_succ_eq_append_getElem hi, rfeed_snoc]
  simp only
  rw [← List.append_assoc]
  exact b2
 ·obtain ⟨i', st⟩ := st
  obtain ⟨e, q1, ks1, op1, F1⟩ := hI
  simp only at e F1
  subst e
  refine ⟨st, by simp only; rw [if_neg (by simp)], q1, ks1, op1, ?_⟩
  rw [List.take_of_length_le (Nat.le_refl _)] at F1
  exact F1
theorem fclose_eq {G h : List Int} (F : Fd C s f k g W H P G h q ks op) : ∃ s', f_feed_Feeder_Close s (some f) = some s' ∧ Fd C s' f k g W H q [] h q ks none := by
 obtain ⟨d, hd, hdv⟩ := F.d
 have hf := get_lt hd
 unfold f_feed_Feeder_Close
 simp only [Option.isNone_some, Bool.not_false, if_true, bsm, hd]
 rw [set_fd hf]
 simp only [bsm, seg_reset]
 rw [set_fd (by rw [sf_len]; exact hf), sf_sf]
 refine ⟨_, rfl, ⟨F.v.sf _, F.fr.rgp (Rgp.self _) ⟨rfl, rfl, rfl⟩, F.fz.sf _ none (fun j e => by cases e), F.n, F.hd, rfl, fun x hx => by simp at hx, ⟨d, sf_get hf, hdv⟩, fun _ => rfl, fun e => by cases e⟩⟩
theorem fflush_eq {G h : List Int} (F : Fd C s f k g W H P G h q ks op) : ∃ s' q' ks', f_feed_Feeder_Flush s (some f) = some s' ∧ Fd C s' f k g W H q' [] [] q' ks' none ∧ fo layc P (cls pj pr (G ++ (if h = [] then [] else [65533]))) = some q' := by
 obtain ⟨d, hd, hdv⟩ := F.d
 have hf := get_lt hd
 unfold f_feed_Feeder_Flush
 simp only [Option.isNone_some, Bool.false_eq_true, if_false, bsm, hd]
 rw [dec_flush hdv]
 simp only [bsm]
 rw [set_fd hf]
 simp only [bsm]
 obtain ⟨s2, q2, ks2, op2, b1, b2⟩ := fall_eq (F.dec hd Dv.zero) (l := if h = [] then [] else [65533]) (by split <;> simp) (fun x hx => by
  split at hx
  ·simp at hx
  ·rw [List.mem_singleton.1 hx]; rfl)
 rw [b1]
 simp only [bsm]
 obtain ⟨s3, c1, c2⟩ := fclose_eq b2
 rw [c1]
 exact ⟨s3, q2, ks2, rfl, c2, b2.l⟩
theorem fheld_eq {G h : List Int} (F : Fd C s f k g W H P G h q ks op) : f_feed_Feeder_Held s (some f) = some (h.length : Int) := by
 obtain ⟨d, hd, hdv⟩ := F.d
 unfold f_feed_Feeder_Held
 simp only [Option.isNone_some, Bool.false_eq_true, if_false, bsm, hd]
 rw [dec_held hdv]
 rfl
def opn (G : List Int) : List Int := if lsil G = true then [] else (((cls pj pr G).getLast?).getD []).take 16
theorem fopen_eq {G h : List Int} (F : Fd C s f k g W H P G h q ks op) : f_feed_Feeder_Open s (some f) = some (opn G) := by
 obtain ⟨d, hd, hdv⟩ := F.d
 unfold f_feed_Feeder_Open opn
 simp only [Option.isNone_some, Bool.false_eq_true, if_false, bsm, hd]
 cases hL : lsil G with
 | true =>
  rw [F.o1 hL]
  rfl
 | false =>
  obtain ⟨j, rfl, ⟨q0, c, C0, s0, ks0, cs0, cl, a1, a2, a3, a4, a5, a6, a7, a8⟩⟩ := F.o2 hL
  obtain ⟨b, hb, hv⟩ := a7.x
  simp only [f_widen_Cluster_Text, Option.isNone_some, Bool.false_eq_true, if_false, bsm, hb, cl_text hv, a1]
  simp
theorem Fz.self (s : Sto) (f : Nat) (op : Option Nat) (h : ∀ x, s.feed_Feeder[f]? = some x → x.open_ = op) (hf : f < s.feed_Feeder.length) : Fz s s f op :=
 ⟨Nat.le_refl _, fun _ _ _ => rfl, Nat.le_refl _, fun _ _ _ => rfl, fun j e => .inl ⟨s.feed_Feeder[f], List.getElem?_eq_getElem hf, by rw [h _ (List.getElem?_eq_getElem hf)]; exact e⟩, rfl⟩
theorem Pv.addf (h : Pv s s k g W q ks) (x : G_feed_Feeder) : Pv (s.add_feed_Feeder x) (s.add_feed_Feeder x) k g W q ks :=
 ⟨h.p, ⟨h.g.g, h.g.r, h.g.h1, h.g.h2, h.g.w1, h.g.w2⟩, h.nd, h.l, rfl, h.f.rgp ⟨rfl, rfl, rfl⟩ ⟨rfl, rfl, rfl⟩⟩
theorem feed_new (h : Pv s s k g W q ks) (hh : Hd q.At W ks.length) : ∃ s', f_feed_New s (some k) = some (s', some s.feed_Feeder.length) ∧ Fd s' s' s.feed_Feeder.length k g W ks.length q [] [] q ks none ∧ s' = s.add_feed_Feeder ⟨some k, ⟨0, 0, 0, 0, 0⟩, ⟨false, 0, 0, 0, false⟩, none⟩ := by
 unfold f_feed_New
 simp only [Option.isNone_some, orE_false, bsm, h.p, Bool.false_eq_true, if_false]
 have hg : (s.add_feed_Feeder ⟨some k, ⟨0, 0, 0, 0, 0⟩, ⟨false, 0, 0, 0, false⟩, none⟩).feed_Feeder[s.feed_Feeder.length]? = some ⟨some k, ⟨0, 0, 0, 0, 0⟩, ⟨false, 0, 0, 0, false⟩, none⟩ := by simp [Sto.add_feed_Feeder]
 refine ⟨_, rfl, ⟨h.addf _, (h.addf _).f, Fz.self _ _ _ (fun x hx => ?_) (get_lt hg), rfl, hh, rfl, fun x hx => by simp at hx, ⟨_, hg, Dv.zero⟩, fun _ => rfl, fun e => by cases e⟩, rfl⟩
 rw [hg] at hx
 cases hx
 rfl
theorem ref34_new {W H : Nat} (w2 : W ≤ 1024) (h2 : H ≤ 1024) : f_linotyperef34_New W H = some ⟨bls W H, ⟨0, 0, false⟩, true⟩ := by
 unfold f_linotyperef34_New
 rw [ref32_new w2 h2]
 rfl
end Go.Proofs.YtfhhpdggmefcoaaGreatDoor
namespace Go.Proofs.YtfhhpdggmefcoaaGreatDoor
open Go Go.Lt
variable {s s' C : Sto} {f k g W H f2 k2 g2 W2 H2 g' W' H' : Nat} {q P q2 P2 q' P' : G_linotyperef34_Pen} {ks ks2 ks' : List Nat} {op op2 op' : Option Nat} {G h G2 h2 G' h' : List Int}
theorem Fd.re (F : Fd C s f k g W H P G h q ks op) : Fd s s f k g W H P G h q ks op := by
 obtain ⟨d, hd, hdv⟩ := F.d
 exact ⟨F.v, F.v.f, Fz.self s f op (fun x hx => by rw [hd] at hx; cases hx; rfl) (get_lt hd), F.n, F.hd, F.l, F.gv, ⟨d, hd, hdv⟩, F.o1, F.o2⟩
theorem Fd.keep (F : Fd s s f2 k2 g2 W2 H2 P2 G2 h2 q2 ks2 op2) (ep : s'.place_Pen[k2]? = s.place_Pen[k2]?) (eg : s'.grid_Grid[g2]? = s.grid_Grid[g2]?) (er : ∀ r ∈ ks2, s'.row_Row[r]? = s.row_Row[r]?)
  (ef : s'.feed_Feeder[f2]? = s.feed_Feeder[f2]?) (ec : ∀ j, op2 = some j → s'.widen_Cluster[j]? = s.widen_Cluster[j]?) : Fd s' s' f2 k2 g2 W2 H2 P2 G2 h2 q2 ks2 op2 := by
 have hp := ep.trans F.v.p
 have hg := eg.trans F.v.g.g
 have hv : Pv s' s' k2 g2 W2 q2 ks2 := by
  refine ⟨hp, ⟨hg, fun r hr => ?_, F.v.g.h1, F.v.g.h2, F.v.g.w1, F.v.g.w2⟩, F.v.nd, ?_, rfl, Fr.self hp rfl hg⟩
  ·obtain ⟨y, hy, h3⟩ := F.v.g.r r hr
   exact ⟨y, (er r hr).trans hy, h3⟩
  ·rw [← F.v.l]
   exact List.map_congr_left fun r hr => by unfold ln; rw [er r hr]
 obtain ⟨d, hd, hdv⟩ := F.d
 have hd2 := ef.trans hd
 refine ⟨hv, hv.f, Fz.self s' f2 op2 (fun x hx => by rw [hd2] at hx; cases hx; rfl) (get_lt hd2), F.n, F.hd, F.l, F.gv, ⟨d, hd2, hdv⟩, F.o1, fun e => ?_⟩
 obtain ⟨j, e1, ⟨q0, c, C0, s0, ks0, cs0, cl, a1, a2, a3, a4, a5, a6, a7, a8⟩⟩ := F.o2 e
 obtain ⟨b, b1, b2⟩ := a7.x
 exact ⟨j, e1, ⟨q0, c, C0, s0, ks0, cs0, cl, a1, a2, a3, a4, a5, a6, ⟨b, (ec j e1).trans b1, b2⟩, a8⟩⟩
structure Tf (s : Sto) (f k : Nat) (P : G_linotyperef34_Pen) (G h : List Int) (q : G_linotyperef34_Pen) (f2 k2 : Nat) (P2 : G_linotyperef34_Pen) (G2 h2 : List Int) (q2 : G_linotyperef34_Pen) : Prop where
 ba : Bts h
 bb : Bts h2
 w : ∃ g W H ks op g2 W2 H2 ks2 op2, Fd s s f k g W H P G h q ks op ∧ Fd s s f2 k2 g2 W2 H2 P2 G2 h2 q2 ks2 op2 ∧ k ≠ k2 ∧ f ≠ f2 ∧ g ≠ g2 ∧ (∀ r ∈ ks, r ∉ ks2) ∧ ∀ j, op = some j → op2 ≠ some j
theorem Tf.swap (T : Tf s f k P G h q f2 k2 P2 G2 h2 q2) : Tf s f2 k2 P2 G2 h2 q2 f k P G h q := by
 obtain ⟨g, W, H, ks, op, g2, W2, H2, ks2, op2, F1, F2, n1, n2, n3, n4, n5⟩ := T.w
 exact ⟨T.bb, T.ba, g2, W2, H2, ks2, op2, g, W, H, ks, op, F2, F1, n1.symm, n2.symm, n3.symm, fun r a b => n4 r b a, fun j a b => n5 j b a⟩
theorem tf_of (F1 : Fd s s f k g W H P G h q ks op) (F2 : Fd s s f2 k2 g2 W2 H2 P2 G2 h2 q2 ks2 op2) (n1 : k ≠ k2) (n2 : f ≠ f2) (n3 : g ≠ g2) (n4 : ∀ r ∈ ks, r ∉ ks2) (n5 : ∀ j, op = some j → op2 ≠ some j)
  (F : Fd s s' f k g' W' H' P' G' h' q' ks' op') (b1 : Bts h') (b2 : Bts h2) : Tf s' f k P' G' h' q' f2 k2 P2 G2 h2 q2 := by
 have hoG : ∀ j, ownG s k j → j = g := fun j hj => F1.v.oG j hj
 have hoR : ∀ j, ownR s k j → j ∈ ks := fun j hj => F1.v.oR j hj
 have hoC : ∀ j, ownC s f j → op = some j := fun j hj => by
  obtain ⟨y, hy, hj⟩ := hj
  obtain ⟨d, hd, _⟩ := F1.d
  rw [hd] at hy
  cases hy
  exact hj
 have hlt : ∀ j, op2 = some j → j < s.widen_Cluster.length := fun j hj => by
  cases hG : lsil G2 with
  | true => rw [F2.o1 hG] at hj; cases hj
  | false =>
   obtain ⟨j', e1, ⟨q0, c, C0, s0, ks0, cs0, cl, a1, a2, a3, a4, a5, a6, a7, a8⟩⟩ := F2.o2 hG
   rw [e1] at hj
   cases hj
   exact a7.lt
 have hrl : ∀ r ∈ ks2, r < s.row_Row.length := fun r hr => by
  obtain ⟨y, hy, _⟩ := F2.v.g.r r hr
  exact get_lt hy
 have hgl := get_lt F2.v.g.g
 obtain ⟨d2, hd2, _⟩ := F2.d
 have K : Fd s' s' f2 k2 g2 W2 H2 P2 G2 h2 q2 ks2 op2 := F2.keep (F.fr.pn k2 (get_lt F2.v.p) n1.symm) (F.fr.gr g2 hgl fun h => n3 (hoG _ h).symm) (fun r hr => F.fr.rw r (hrl r hr) fun h => n4 r (hoR r h) hr)
  (F.fz.ff f2 (get_lt hd2) n2.symm) (fun j hj => F.fz.wc j (hlt j hj) fun h => n5 j (hoC j h) hj)
 refine ⟨b1, b2, g', W', H', ks', op', g2, W2, H2, ks2, op2, F.re, K, n1, n2, ?_, ?_, ?_⟩
 ·rintro rfl
  rcases F.fr.ng with h | h
  ·exact n3 (hoG _ h).symm
  ·omega
 ·intro r hr hr2
  rcases F.fr.nr r hr with h | h
  ·exact n4 r (hoR r h) hr2
  ·have := hrl r hr2
   omega
 ·intro j hj hj2
  rcases F.fz.oc j hj with h | h
  ·exact n5 j (hoC j h) hj2
  ·have := hlt j hj2
   omega
theorem tf_new (F2' : Fd C s f2 k2 g2 W2 H2 P2 G2 h2 q2 ks2 op2) (hb : Bts h2) (w h : Int) : ∃ s1 s2, f_place_New s w h = some (s1, some s.place_Pen.length) ∧ f_feed_New s1 (some s.place_Pen.length) = some (s2, some s.feed_Feeder.length) ∧
  Tf s2 s.feed_Feeder.length s.place_Pen.length ⟨bls (sd w) (sd h), ⟨0, 0, false⟩, true⟩ [] [] ⟨bls (sd w) (sd h), ⟨0, 0, false⟩, true⟩ f2 k2 P2 G2 h2 q2 := by
 have F2 := F2'.re
 obtain ⟨s1, ks, h1, v1⟩ := place_new (s := s) w h
 have hks := v1.g.h1
 have hW1 := v1.g.w1
 obtain ⟨s2, h3, d2, e2⟩ := feed_new v1.self ⟨by simp only; omega, by simp only; omega, fun e => by cases e⟩
 have ef : s1.feed_Feeder = s.feed_Feeder := oth_fd v1.o
 have ec : s1.widen_Cluster = s.widen_Cluster := oth_cl v1.o
 rw [ef] at h3 d2
 have hno : ∀ j, ¬ ownG s s.place_Pen.length j := fun j hj => by
  obtain ⟨y, hy, _⟩ := hj
  exact absurd (get_lt hy) (by omega)
 have hnr : ∀ j, ¬ ownR s s.place_Pen.length j := fun j hj => by
  obtain ⟨g, y, hy, _⟩ := hj
  exact hno g hy
 have hkl := get_lt F2.v.p
 have hgl := get_lt F2.v.g.g
 have hrl : ∀ r ∈ ks2, r < s.row_Row.length := fun r hr => by
  obtain ⟨y, hy, _⟩ := F2.v.g.r r hr
  exact get_lt hy
 obtain ⟨dd, hdd, _⟩ := F2.d
 have hfl := get_lt hdd
 have e3 : s2.feed_Feeder = s.feed_Feeder ++ [⟨some s.place_Pen.length, ⟨0, 0, 0, 0, 0⟩, ⟨false, 0, 0, 0, false⟩, none⟩] := by
  rw [e2]
  show s1.feed_Feeder ++ _ = _
  rw [ef]
 have K : Fd s2 s2 f2 k2 g2 W2 H2 P2 G2 h2 q2 ks2 op2 := by
  refine F2.keep ?_ ?_ (fun r hr => ?_) ?_ (fun j _ => ?_)
  ·rw [e2]
   exact v1.f.pn k2 hkl (by omega)
  ·rw [e2]
   exact v1.f.gr g2 hgl (hno g2)
  ·rw [e2]
   exact v1.f.rw r (hrl r hr) (hnr r)
  ·rw [e3, List.getElem?_append_left hfl]
  ·rw [e2]
   show s1.widen_Cluster[j]? = _
   rw [ec]
 refine ⟨s1, s2, h1, h3, ⟨Bts.nil, hb, _, _, _, _, _, _, _, _, _, _, d2.re, K, by omega, by omega, ?_, ?_, fun j e => by cases e⟩⟩
 ·rcases v1.f.ng with q | q
  ·exact absurd q (hno _)
  ·omega
 ·intro r hr hr2
  rcases v1.f.nr r hr with q | q
  ·exact absurd q (hnr _)
  ·have := hrl r hr2; omega
theorem Tf.bytes (T : Tf s f k P G h q f2 k2 P2 G2 h2 q2) {b : List Int} (hl : b.length ≤ 9223372036854775807) (hb : Bts b) : ∃ s' q', f_feed_Feeder_Bytes s (some f) b = some s' ∧ Tf s' f k P (G ++ (rfeed h b).1) (rfeed h b).2 q' f2 k2 P2 G2 h2 q2 := by
 obtain ⟨g, W, H, ks, op, g2, W2, H2, ks2, op2, F1, F2, n1, n2, n3, n4, n5⟩ := T.w
 obtain ⟨s', q', ks', op', e1, F⟩ := fbytes_eq F1 T.ba hl hb
 exact ⟨s', q', e1, tf_of F1 F2 n1 n2 n3 n4 n5 F (rfeed_bts T.ba hb) T.bb⟩
end Go.Proofs.YtfhhpdggmefcoaaGreatDoor
namespace Go.Proofs.YtfhhpdggmefcoaaGreatDoor
open Go Go.Lt
def pcz (b : List Int) : Nat → List Int → List (List Int)
 | _, [] => []
 | a, d :: l => ((b.drop a).take (d.toNat - a)) :: pcz b d.toNat l
def clp (L : Nat) (n : Int) : Int := imax 0 (imin n (L : Int))
theorem clp_in (L : Nat) (n : Int) : 0 ≤ clp L n ∧ clp L n ≤ L := by
 unfold clp
 rw [imax_eq, imin_eq]
 omega
theorem srt_mem {l : List Int} {x : Int} (h : x ∈ srt l) : x ∈ l := (srt_perm l).mem_iff.1 h
theorem srt_len (l : List Int) : (srt l).length = l.length := (srt_perm l).length_eq
theorem pcz_len (b : List Int) (a : Nat) (l : List Int) : (pcz b a l).length = l.length := by
 induction l generalizing a with
 | nil => rfl
 | cons d l ih => simp [pcz, ih]
theorem cut_eq (b at_ : List Int) (hb : b.length ≤ 1000000) (ha : at_.length ≤ 1000000) : f_chunks_Cut b at_ = some (pcz b 0 (srt (at_.map (clp b.length)) ++ [(b.length : Int)])) := by
 unfold f_chunks_Cut
 rw [rep_eq _ (by omega), rep_eq _ (by omega)]
 simp only [bsm]
 rw [show (List.replicate (0 : Int).toNat (0 : Int)) = [] from rfl]
 refine iter_forB (n := at_.length) (fun i st => st = ((at_.take i).map (clp b.length), (i : Int))) (fun u => u = at_.map (clp b.length)) (fun i st hi e => ?_) (fun st e => ?_) rfl (by omega) (fun u hu => ?_)
 ·subst e
  simp only
  rw [if_pos (dlt hi), idx_at hi]
  simp only [bsm]
  rw [app_eq (by simp; omega), w64_succ hi (by omega)]
  refine .inl ⟨_, rfl, ?_⟩
  rw [List.take_succ_eq_append_getElem hi, List.map_append]
  rfl
 ·subst e
  exact ⟨_, by simp only; rw [if_neg (by simp)], by simp⟩
 ·subst hu
  have hsl := srt_len (at_.map (clp b.length))
  rw [List.length_map] at hsl
  unfold f_slices_Sort
  rw [if_pos (by rw [List.length_map]; omega)]
  simp only [bsm]
  rw [rep_eq _ (by omega), w64_in (by omega), rep_eq _ (by omega)]
  simp only [bsm]
  rw [app_eq (by simp only [List.length_cons, List.length_nil]; omega)]
  simp only [bsm]
  generalize hc : srt (at_.map (clp b.length)) ++ [(b.length : Int)] = c
  have hcs : c.Pairwise (fun x y => x ≤ y) := by
   rw [← hc, List.pairwise_append]
   refine ⟨srt_sorted _, by simp, fun x hx y hy => ?_⟩
   rw [List.mem_singleton] at hy
   subst hy
   obtain ⟨z, _, rfl⟩ := List.mem_map.1 (srt_mem hx)
   exact (clp_in _ _).2
  have hcm : ∀ x ∈ c, 0 ≤ x ∧ x ≤ b.length := fun x hx => by
   rw [← hc] at hx
   rcases List.mem_append.1 hx with hx | hx
   ·obtain ⟨z, _, rfl⟩ := List.mem_map.1 (srt_mem hx)
    exact clp_in _ _
   ·rw [List.mem_singleton] at hx; omega
  have hcl : c.length ≤ 1000001 := by rw [← hc]; simp only [List.length_append, List.length_cons, List.length_nil]; omega
  rw [show (List.replicate (0 : Int).toNat ([] : List Int)) = [] from rfl]
  refine iter_forB (n := c.length) (fun i (st : List (List Int) × Int × Int) => st.2.2 = (i : Int) ∧ ∃ a : Nat, st.2.1 = (a : Int) ∧ (∀ x ∈ c.drop i, (a : Int) ≤ x) ∧ st.1.length = i ∧ st.1 ++ pcz b a (c.drop i) = pcz b 0 c) (fun u => u = pcz b 0 c) (fun i st hi hI => ?_) (fun st hI => ?_) ⟨rfl, 0, rfl, fun x hx => (hcm x hx).1, rfl, rfl⟩ (by omega) (fun u hu => by subst hu; rfl)
  ·obtain ⟨out, f, i'⟩ := st
   obtain ⟨e, a, e2, h1, h2, h3⟩ := hI
   simp only at e e2 h2 h3
   subst e e2
   simp only
   have hm := hcm _ (List.getElem_mem hi)
   have hdr : c.drop i = c[i] :: c.drop (i + 1) := List.drop_eq_getElem_cons hi
   have hai := h1 c[i] (by rw [hdr]; exact List.mem_cons_self)
   rw [if_pos (dlt hi), idx_at hi]
   simp only [bsm]
   obtain ⟨d, hd⟩ : ∃ d : Nat, c[i] = (d : Int) := ⟨c[i].toNat, by omega⟩
   rw [hd] at hm hai hdr ⊢
   rw [slc_eq (by omega) (by omega)]
   simp only [bsm]
   unfold f_bytes_Clone
   rw [app_eq (by simp; omega), List.nil_append]
   simp only [bsm]
   rw [app_eq (by simp; omega), w64_succ hi (by omega)]
   refine .inl ⟨_, rfl, rfl, d, rfl, fun x hx => ?_, by simp [h2], ?_⟩
   ·have := hcs.drop (i := i)
    rw [hdr, List.pairwise_cons] at this
    exact this.1 x hx
   ·rw [← h3, hdr]
    simp [pcz]
  ·obtain ⟨out, f, i'⟩ := st
   obtain ⟨e, a, e2, h1, h2, h3⟩ := hI
   simp only at e e2 h2 h3
   subst e
   refine ⟨_, by simp only; rw [if_neg (by simp)], ?_⟩
   rw [List.drop_length] at h3
   rw [← h3]
   simp [pcz]
theorem pcz_flat (b : List Int) : ∀ (s : List Int) (a : Nat), s.Pairwise (fun x y => x ≤ y) → (∀ x ∈ s, (a : Int) ≤ x ∧ x ≤ b.length) → a ≤ b.length → (pcz b a (s ++ [(b.length : Int)])).flatten = b.drop a := by
 intro s
 induction s with
 | nil =>
  intro a _ _ ha
  simp only [List.nil_append, pcz, Int.toNat_natCast, List.flatten_cons, List.flatten_nil, List.append_nil]
  rw [List.take_of_length_le (by simp)]
 | cons d t ih =>
  intro a hs hm ha
  rw [List.pairwise_cons] at hs
  obtain ⟨h1, h2⟩ := hm d (by simp)
  simp only [List.cons_append, pcz, List.flatten_cons]
  rw [ih d.toNat hs.2 (fun x hx => ⟨by have := hs.1 x hx; omega, (hm x (by simp [hx])).2⟩) (by omega)]
  have := List.take_append_drop (d.toNat - a) (b.drop a)
  rwa [List.drop_drop, show a + (d.toNat - a) = d.toNat by omega] at this
theorem runes_eq {b : List Int} (hb : Bts b) (hl : b.length ≤ 1000000) : f_linotyperef04_Runes b = some (told b) := by
 obtain ⟨l, h1, h2, h3⟩ := all_eq hb hl
 unfold f_linotyperef04_Runes
 rw [h1]
 simp only [bsm]
 refine iter_forB (n := l.length) (fun i st => st = ((l.take i).map (·.R), (i : Int))) (fun u => u = told b) (fun i st hi e => ?_) (fun st e => ?_) rfl (by omega) (fun u hu => by subst hu; rfl)
 ·subst e
  simp only
  rw [if_pos (dlt hi), idx_at hi]
  simp only [bsm]
  rw [app_eq (by simp; omega), w64_succ hi (by omega)]
  refine .inl ⟨_, rfl, ?_⟩
  rw [List.take_succ_eq_append_getElem hi, List.map_append]
  rfl
 ·subst e
  refine ⟨_, by simp only; rw [if_neg (by simp)], ?_⟩
  rw [List.take_length, h2]
theorem told_len (b : List Int) : (told b).length ≤ 2 * b.length + 1 := by
 have := rfeed_len [] b
 unfold told
 rw [List.length_append]
 split <;> simp <;> omega
theorem txt_self (a : List Int) (ha : a.length ≤ 9223372036854775807) : f_linotyperef01_Same a a = some true := by
 unfold f_linotyperef01_Same
 rw [if_neg (by simp)]
 refine iter_forB (n := a.length) (fun i st => st = (i : Int)) (fun u => u = .inr ()) (fun i st hi e => ?_) (fun st e => ?_) rfl (by omega) (fun u hu => by subst hu; rfl)
 ·subst e
  rw [if_pos (dlt hi), idx_at hi]
  simp only [bsm]
  rw [if_neg (by simp), w64_succ hi ha]
  exact .inl ⟨_, rfl, rfl⟩
 ·subst e
  exact ⟨_, by rw [if_neg (by simp)], rfl⟩
theorem of_snd {γ : Type} {x : Option (γ × Bool)} (h : x.map (fun q => q.2) = some true) : ∃ s, x = some (s, true) := by
 cases x with
 | none => cases h
 | some q =>
  obtain ⟨a, b⟩ := q
  simp only [Option.map_some, Option.some.injEq] at h
  subst h
  exact ⟨a, rfl⟩
theorem of_two {f : Sto → Option (Sto × Bool)} {s : Sto} (h1 : (f s).map (fun q => q.2) = some true) (h2 : ((f s).bind fun q => f q.1).map (fun q => q.2) = some true) : ∃ s1 s2, f s = some (s1, true) ∧ f s1 = some (s2, true) := by
 obtain ⟨s1, e1⟩ := of_snd h1
 rw [e1] at h2
 obtain ⟨s2, e2⟩ := of_snd h2
 exact ⟨s1, s2, e1, e2⟩
theorem wf8 {n : Int} (h : (Lit.int .u8 n).wf = true) : 0 ≤ n ∧ n ≤ 255 := by
 simp only [Lit.wf, IntKind.min, IntKind.max, IntKind.signed, IntKind.bits, Bool.and_eq_true, decide_eq_true_eq, Bool.false_eq_true, if_false] at h
 omega
end Go.Proofs.YtfhhpdggmefcoaaGreatDoor
namespace Go.Proofs.YtfhhpdggmefcoaaGreatDoor
open Go Go.Lt
variable {s C : Sto} {f k g W H f2 k2 : Nat} {q P q2 P2 : G_linotyperef34_Pen} {ks : List Nat} {op : Option Nat} {G h G2 h2 : List Int}
set_option maxRecDepth 100000 in
theorem works37_1 : (f_linotypelaw37_works ⟨[], [], [], [], []⟩).map (fun q => q.2) = some true := by kernel_rfl
set_option maxRecDepth 100000 in
theorem works37_2 : ((f_linotypelaw37_works ⟨[], [], [], [], []⟩).bind fun q => f_linotypelaw37_works q.1).map (fun q => q.2) = some true := by kernel_rfl
theorem opn_len2 (G : List Int) : (opn G).length ≤ 16 := by
 unfold opn
 split
 ·simp
 ·rw [List.length_take]; omega
theorem feedCuts_true (d : G_linotypelaw37_Side) (b at_ : List Int) (hb : Bts b) : ∃ st, f_linotypelaw37_FeedCuts ⟨[], [], [], [], []⟩ d b at_ = some (st, true) := by
 unfold f_linotypelaw37_FeedCuts
 obtain ⟨s1, s2, h1, h2⟩ := of_two works37_1 works37_2
 rw [h1]
 simp only [bsm, Bool.not_true, orE_false]
 by_cases hg : 400 < b.length ∨ 100 < at_.length
 ·have e : (orE (decide ((b.length : Int) > 400)) (some (decide ((at_.length : Int) > 100)))) = some true := by
   rw [orE_some]
   simp
   omega
  rw [e]
  simp only [bsm, if_true]
  rw [h2]
  exact ⟨_, rfl⟩
 have e : (orE (decide ((b.length : Int) > 400)) (some (decide ((at_.length : Int) > 100)))) = some false := by
  rw [orE_some]
  simp
  omega
 rw [e]
 simp only [bsm, Bool.false_eq_true, if_false]
 obtain ⟨W, hW, hW1, hW2⟩ := w_mod d.W 12 (by decide) (by decide)
 obtain ⟨H, hH, hH1, hH2⟩ := w_mod d.H 6 (by decide) (by decide)
 rw [show ((12 : Nat) : Int) = 12 from rfl] at hW
 rw [show ((6 : Nat) : Int) = 6 from rfl] at hH
 rw [hW, hH]
 obtain ⟨s3, ks3, h3, v3⟩ := place_new (s := s1) W H
 have hks3 := v3.g.h1
 have hw3 := v3.g.w1
 rw [h3, ref34_new (by omega) (by omega)]
 simp only [bsm]
 obtain ⟨s4, h4, d4, _⟩ := feed_new v3.self ⟨by simp only; omega, by simp only; omega, fun e => by cases e⟩
 rw [h4]
 simp only [bsm]
 obtain ⟨s5, s6, h5, h6, T0⟩ := tf_new d4 Bts.nil W H
 rw [h5]
 simp only [bsm]
 rw [h6]
 simp only [bsm]
 rw [sd_id hW1 (by omega), sd_id hH1 (by omega)] at T0
 have T1 := T0.swap
 clear T0
 generalize s1.place_Pen.length = k at *
 generalize s3.feed_Feeder.length = f at *
 generalize s4.place_Pen.length = k2 at *
 generalize s4.feed_Feeder.length = f2 at *
 rw [cut_eq b at_ (by omega) (by omega)]
 simp only [bsm]
 have hm : ∀ x ∈ srt (at_.map (clp b.length)), ((0 : Nat) : Int) ≤ x ∧ x ≤ b.length := fun x hx => by
  obtain ⟨z, _, rfl⟩ := List.mem_map.1 (srt_mem hx)
  exact clp_in _ _
 have hfl := pcz_flat b _ 0 (srt_sorted (at_.map (clp b.length))) hm (Nat.zero_le _)
 rw [List.drop_zero] at hfl
 have hcl : (pcz b 0 (srt (at_.map (clp b.length)) ++ [(b.length : Int)])).length ≤ 101 := by
  rw [pcz_len, List.length_append, srt_len, List.length_map]
  simp
  omega
 generalize pcz b 0 (srt (at_.map (clp b.length)) ++ [(b.length : Int)]) = c at hfl hcl ⊢
 have hbc : ∀ p ∈ c, Bts p ∧ p.length ≤ 400 := fun p hp => ⟨fun x hx => hb x (by rw [← hfl]; exact List.mem_flatten.2 ⟨p, hp, hx⟩), by
  have h1 : p.length ≤ c.flatten.length := by
   obtain ⟨a1, a2, rfl⟩ := List.append_of_mem hp
   simp only [List.flatten_append, List.flatten_cons, List.length_append]
   omega
  rw [hfl] at h1
  omega⟩
 generalize (⟨bls W H, ⟨0, 0, false⟩, true⟩ : G_linotyperef34_Pen) = P0 at *
 refine iter_forL (n := c.length) (fun i (st : Int × Sto) => st.1 = (i : Int) ∧ ∃ q, Tf st.2 f k P0 (rfeed [] (c.take i).flatten).1 (rfeed [] (c.take i).flatten).2 q f2 k2 P0 [] [] P0) (fun u => ∃ q, Tf u f k P0 (rfeed [] b).1 (rfeed [] b).2 q f2 k2 P0 [] [] P0) (fun i st hi hI => ?_) (fun st hI => ?_) ⟨rfl, _, T1⟩ (by omega) (fun u hu => ?_)
 ·obtain ⟨i', st⟩ := st
  obtain ⟨e, q, T⟩ := hI
  simp only at e T
  subst e
  simp only
  rw [if_pos (dlt hi), idx_at hi, w64_succ hi (by omega)]
  simp only [bsm]
  obtain ⟨hb1, hb2⟩ := hbc _ (List.getElem_mem hi)
  obtain ⟨s', q', e1, T'⟩ := T.bytes (by omega) hb1
  rw [e1]
  simp only [bsm]
  refine .inl ⟨_, rfl, rfl, q', ?_⟩
  have hsplit : (c.take (i + 1)).flatten = (c.take i).flatten ++ c[i] := by
   rw [List.take_succ_eq_append_getElem hi, List.flatten_append]
   simp
  rw [hsplit, rfeed_app]
  exact T'
 ·obtain ⟨i', st⟩ := st
  obtain ⟨e, q, T⟩ := hI
  simp only at e T
  subst e
  rw [List.take_length, hfl] at T
  exact ⟨_, by simp only; rw [if_neg (by simp)], q, T⟩
 ·obtain ⟨q, T⟩ := hu
  obtain ⟨s7, q2, e7, T7⟩ := T.swap.bytes (b := b) (by omega) hb
  rw [e7]
  simp only [bsm]
  rw [List.nil_append] at T7
  obtain ⟨g2, W2, H2, ks2, op2, g1, W1, H1, ks1, op1, F2, F1, n1, n2, n3, n4, n5⟩ := T7.w
  rw [fheld_eq F1, fheld_eq F2, fopen_eq F1, fopen_eq F2]
  simp only [bsm, bne_self_eq_false, orE_false]
  rw [txt_self _ (by have := opn_len2 (rfeed [] b).1; omega)]
  simp only [bsm, Bool.not_true, Bool.false_eq_true, if_false]
  have hq : q = q2 := by
   have h1 := F1.l
   rw [F2.l] at h1
   exact (Option.some.inj h1).symm
  subst hq
  rw [F2.v.p]
  simp only [bsm]
  rw [grid_lines F2.v.g, F2.v.l]
  simp only [bsm]
  have hal := alike_true F1.v
  rw [show (⟨q.L, q.At, q.Auto⟩ : G_linotyperef34_Pen) = q from rfl, hal]
  simp only [bsm, Bool.not_true, Bool.false_eq_true, if_false]
  obtain ⟨s8, q8, ks8, e8, F8, hl8⟩ := fflush_eq F1
  rw [e8]
  simp only [bsm]
  have ht := told_len b
  have htold : (rfeed [] b).1 ++ (if (rfeed [] b).2 = [] then [] else [65533]) = told b := rfl
  rw [htold] at hl8
  have hv32 : R32 (told b) := fun x hx => by
   rw [← htold] at hx
   rcases List.mem_append.1 hx with hx | hx
   ·exact vld_32 (F1.gv x hx)
   ·split at hx
    ·simp at hx
    ·rw [List.mem_singleton.1 hx]; unfold r32; omega
  rw [runes_eq hb (by omega)]
  simp only [bsm]
  rw [lay_eq hv32 (by omega) hl8]
  simp only [bsm]
  rw [alike_true F8.v]
  exact ⟨_, rfl⟩
end Go.Proofs.YtfhhpdggmefcoaaGreatDoor
