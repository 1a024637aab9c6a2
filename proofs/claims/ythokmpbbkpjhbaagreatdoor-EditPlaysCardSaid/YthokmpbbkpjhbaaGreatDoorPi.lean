/-
  Rows of grids moved up and down, in plain Lean. Conditions: each lemma's own.
-/
import Derived.Test.YthokmpbbkpjhbaaGreatDoorPh
namespace Go.Proofs.YthokmpbbkpjhbaaGreatDoor
open Go Go.Lt
variable {s : Sto} {g k W : Nat} {ks : List Nat} {l p : List G_api_Cell} {w : Bool}

def dl : G_api_Line := ⟨[], false⟩
/-- What stands in row i when rows have been moved, but for what goes on. -/
def mvb (W : Nat) (L : List G_api_Line) (F T m : Nat) (up : Bool) (i : Nat) : G_api_Line :=
  if F ≤ i ∧ i < T then (if up = true then (if i + m < T then L.getD (i + m) dl else ⟨List.replicate W bl, false⟩) else (if F + m ≤ i then L.getD (i - m) dl else ⟨List.replicate W bl, false⟩)) else L.getD i dl
def mvl (W : Nat) (L : List G_api_Line) (F T m : Nat) (up : Bool) (i : Nat) : G_api_Line :=
  if i + 1 = F ∨ (up = false ∧ i + 1 = T) then ⟨(mvb W L F T m up i).Cells, false⟩ else mvb W L F T m up i
def mv (W : Nat) (L : List G_api_Line) (F T : Nat) (n : Int) (up : Bool) : List G_api_Line :=
  if F < T ∧ 0 < n then (List.range L.length).map (mvl W L F T (min n ((T : Int) - (F : Int))).toNat up) else L
theorem mv_len (L : List G_api_Line) (F T : Nat) (n : Int) (up : Bool) : (mv W L F T n up).length = L.length := by
  unfold mv; split <;> simp

theorem gd {i : Nat} (h : i < ks.length) : ks.getD i 0 = ks[i] := by rw [List.getD_eq_getElem?_getD, List.getElem?_eq_getElem h]; rfl
theorem gdl {L : List G_api_Line} {i : Nat} (h : i < L.length) : L.getD i dl = L[i] := by rw [List.getD_eq_getElem?_getD, List.getElem?_eq_getElem h]; rfl
theorem nd_ne (nd : ks.Nodup) {i j : Nat} (hj : j < ks.length) (hij : i < j) : ks.getD i 0 ≠ ks.getD j 0 := by
  rw [gd hj, gd (Nat.lt_trans hij hj)]
  exact List.pairwise_iff_getElem.1 nd i j _ _ hij
theorem nd_map {h : Nat} {f : Nat → Nat} (hf : ∀ i j, i < j → j < h → f i ≠ f j) : ((List.range h).map f).Nodup := by
  rw [List.Nodup, List.pairwise_map]
  exact List.pairwise_lt_range.imp_of_mem fun _ hb hlt => hf _ _ hlt (List.mem_range.1 hb)

/-- The row that stands in place i, when rows have been moved. -/
def kfu (ks : List Nat) (N F T m i : Nat) : Nat := if i < F ∨ T ≤ i then ks.getD i 0 else if i + m < T then ks.getD (i + m) 0 else N + (i + m - T)
def kfd (ks : List Nat) (N F T m i : Nat) : Nat := if i < F ∨ T ≤ i then ks.getD i 0 else if i < F + m then N + (i - F) else ks.getD (i - m) 0
theorem ov_up {F T m : Nat} (N : Nat) (h1 : F + m ≤ T) (h2 : T ≤ ks.length) : ov ks F ((ks.drop (F + m)).take (T - (F + m)) ++ List.range' N m) = (List.range ks.length).map (kfu ks N F T m) := by
  refine List.ext_getElem? fun i => ?_
  rcases Nat.lt_or_ge i ks.length with hi | hi
  · rw [List.getElem?_map, List.getElem?_range hi, Option.map_some]
    have e : ((ks.drop (F + m)).take (T - (F + m)) ++ List.range' N m).length = T - F := by simp; omega
    have et : (ks.take F).length = F := by simp; omega
    have ex : ((ks.drop (F + m)).take (T - (F + m))).length = T - (F + m) := by simp; omega
    unfold ov
    rw [e, List.append_assoc, List.getElem?_append, et]
    unfold kfu
    by_cases c1 : i < F
    · rw [if_pos c1, if_pos (Or.inl c1), List.getElem?_take, if_pos c1, gd hi, List.getElem?_eq_getElem hi]
    · rw [if_neg c1, List.getElem?_append, e]
      by_cases c2 : T ≤ i
      · rw [if_neg (by omega), if_pos (Or.inr c2), List.getElem?_drop, show F + (T - F) + (i - F - (T - F)) = i by omega, gd hi, List.getElem?_eq_getElem hi]
      · rw [if_pos (by omega), if_neg (by omega), List.getElem?_append, ex]
        by_cases c3 : i + m < T
        · rw [if_pos (by omega), if_pos c3, List.getElem?_take, if_pos (by omega), List.getElem?_drop, show F + m + (i - F) = i + m by omega, gd (by omega), List.getElem?_eq_getElem (by omega)]
        · rw [if_neg (by omega), if_neg c3, List.getElem?_range' (by omega), Nat.one_mul]
          congr 1
          omega
  · rw [List.getElem?_eq_none (by rw [ov_len (by simp; omega)]; exact hi), List.getElem?_eq_none (by simpa using hi)]
theorem ov_down {F T m : Nat} (N : Nat) (h1 : F + m ≤ T) (h2 : T ≤ ks.length) : ov ks F (List.range' N m ++ (ks.drop F).take (T - m - F)) = (List.range ks.length).map (kfd ks N F T m) := by
  refine List.ext_getElem? fun i => ?_
  rcases Nat.lt_or_ge i ks.length with hi | hi
  · rw [List.getElem?_map, List.getElem?_range hi, Option.map_some]
    have e : (List.range' N m ++ (ks.drop F).take (T - m - F)).length = T - F := by simp; omega
    have et : (ks.take F).length = F := by simp; omega
    have ex : (List.range' N m).length = m := by simp
    unfold ov
    rw [e, List.append_assoc, List.getElem?_append, et]
    unfold kfd
    by_cases c1 : i < F
    · rw [if_pos c1, if_pos (Or.inl c1), List.getElem?_take, if_pos c1, gd hi, List.getElem?_eq_getElem hi]
    · rw [if_neg c1, List.getElem?_append, e]
      by_cases c2 : T ≤ i
      · rw [if_neg (by omega), if_pos (Or.inr c2), List.getElem?_drop, show F + (T - F) + (i - F - (T - F)) = i by omega, gd hi, List.getElem?_eq_getElem hi]
      · rw [if_pos (by omega), if_neg (by omega), List.getElem?_append, ex]
        by_cases c3 : i < F + m
        · rw [if_pos (by omega), if_pos c3, List.getElem?_range' (by omega), Nat.one_mul]
        · rw [if_neg (by omega), if_neg c3, List.getElem?_take, if_pos (by omega), List.getElem?_drop, show F + (i - F - m) = i - m by omega, gd (by omega), List.getElem?_eq_getElem (by omega)]
  · rw [List.getElem?_eq_none (by rw [ov_len (by simp; omega)]; exact hi), List.getElem?_eq_none (by simpa using hi)]
theorem kfu_ne (nd : ks.Nodup) {N F T m : Nat} (hN : ∀ k ∈ ks, k < N) (h1 : F + m ≤ T) (h2 : T ≤ ks.length) (i j : Nat) (hij : i < j) (hj : j < ks.length) : kfu ks N F T m i ≠ kfu ks N F T m j := by
  have lt : ∀ i, i < ks.length → ks.getD i 0 < N := fun i hi => by rw [gd hi]; exact hN _ (List.getElem_mem hi)
  have ne : ∀ a b, a < b → b < ks.length → ks.getD a 0 ≠ ks.getD b 0 := fun a b hab hb => nd_ne nd hb hab
  have ne2 : ∀ a b, b < a → a < ks.length → ks.getD a 0 ≠ ks.getD b 0 := fun a b hab ha => (nd_ne nd ha hab).symm
  unfold kfu
  repeat' split
  all_goals first
    | exact ne _ _ (by omega) (by omega)
    | exact ne2 _ _ (by omega) (by omega)
    | (have := lt i (by omega); omega)
    | (have := lt j (by omega); omega)
    | (have := lt (i + m) (by omega); omega)
    | (have := lt (j + m) (by omega); omega)
    | omega
theorem kfd_ne (nd : ks.Nodup) {N F T m : Nat} (hN : ∀ k ∈ ks, k < N) (h1 : F + m ≤ T) (h2 : T ≤ ks.length) (i j : Nat) (hij : i < j) (hj : j < ks.length) : kfd ks N F T m i ≠ kfd ks N F T m j := by
  have lt : ∀ i, i < ks.length → ks.getD i 0 < N := fun i hi => by rw [gd hi]; exact hN _ (List.getElem_mem hi)
  have ne : ∀ a b, a < b → b < ks.length → ks.getD a 0 ≠ ks.getD b 0 := fun a b hab hb => nd_ne nd hb hab
  have ne2 : ∀ a b, b < a → a < ks.length → ks.getD a 0 ≠ ks.getD b 0 := fun a b hab ha => (nd_ne nd ha hab).symm
  unfold kfd
  repeat' split
  all_goals first
    | exact ne _ _ (by omega) (by omega)
    | exact ne2 _ _ (by omega) (by omega)
    | (have := lt i (by omega); omega)
    | (have := lt j (by omega); omega)
    | (have := lt (i - m) (by omega); omega)
    | (have := lt (j - m) (by omega); omega)
    | omega

/-- The rows of a grid, whose row j goes on no more. -/
theorem ln_offs {h : Nat} {f : Nat → Nat} {B : Nat → G_api_Line} (hf : ∀ i j, i < j → j < h → f i ≠ f j) (hB : ∀ i, i < h → ln s (f i) = B i) {j : Nat} (hj : j < h) (hk : Rw s W (f j)) (i : Nat) (hi : i < h) :
    ln (off s (f j)) (f i) = if i = j then ⟨(B j).Cells, false⟩ else B i := by
  rw [ln_off hk, hB j hj]
  by_cases e : i = j
  · subst e; rw [if_pos rfl, if_pos rfl]
  · rw [if_neg, if_neg e, hB i hi]
    rcases Nat.lt_or_gt_of_ne e with h | h
    · exact hf i j h hj
    · exact (hf j i h hi).symm

theorem offa_pen (s : Sto) (ks : List Nat) (F : Nat) : (offa s ks F).rst = s.rst := by
  unfold offa
  split <;> rfl
theorem getD_map_range {h i : Nat} {f : Nat → Nat} (hi : i < h) : ((List.range h).map f).getD i 0 = f i := by
  rw [gd (by simpa using hi)]
  simp

/-- What a change of the grid g, whose rows are ks, leaves; g' and ks' are the grid and its rows then. -/
structure Rf (s s' : Sto) (g : Nat) (ks : List Nat) (g' : Nat) (ks' : List Nat) : Prop where
  gl : s.grid_Grid.length ≤ s'.grid_Grid.length
  rl : s.row_Row.length ≤ s'.row_Row.length
  gr : ∀ j, j < s.grid_Grid.length → j ≠ g → s'.grid_Grid[j]? = s.grid_Grid[j]?
  rw : ∀ j, j < s.row_Row.length → j ∉ ks → s'.row_Row[j]? = s.row_Row[j]?
  ng : g' = g ∨ s.grid_Grid.length ≤ g'
  nr : ∀ r ∈ ks', r ∈ ks ∨ s.row_Row.length ≤ r
theorem Rf.self (s : Sto) (g : Nat) (ks : List Nat) : Rf s s g ks g ks := ⟨Nat.le_refl _, Nat.le_refl _, fun _ _ _ => rfl, fun _ _ _ => rfl, .inl rfl, fun _ h => .inl h⟩
theorem Rf.rowoff {s' : Sto} {ks' : List Nat} (h : Rf s s' g ks g ks') {i : Nat} (hi : i ∈ ks') : Rf s (off s' i) g ks g ks' := by
  have e : (off s' i).row_Row = s'.row_Row.set i ⟨(ln s' i).Cells, false⟩ := rfl
  refine ⟨h.gl, by rw [e, List.length_set]; exact h.rl, h.gr, fun j h1 h2 => ?_, h.ng, h.nr⟩
  rw [e, List.getElem?_set_ne ?_]
  · exact h.rw j h1 h2
  · rintro rfl
    rcases h.nr _ hi with q | q
    · exact h2 q
    · omega
theorem Rf.aboff {s' : Sto} {ks' : List Nat} (h : Rf s s' g ks g ks') (F : Nat) (hF : F ≤ ks'.length) : Rf s (offa s' ks' F) g ks g ks' := by
  unfold Go.Proofs.YthokmpbbkpjhbaaGreatDoor.offa
  split
  · exact h
  · refine h.rowoff ?_
    rw [gd (by omega)]
    exact List.getElem_mem _
theorem Rf.lay (xs : List G_row_Row) (x : G_grid_Grid) {ks' : List Nat} (h : ∀ r ∈ ks', r ∈ ks ∨ s.row_Row.length ≤ r) : Rf s ((s.addr xs).sg g x) g ks g ks' := by
  have e : ((s.addr xs).sg g x).row_Row = s.row_Row ++ xs := rfl
  have e2 : ((s.addr xs).sg g x).grid_Grid = s.grid_Grid.set g x := rfl
  exact ⟨by rw [e2, List.length_set]; exact Nat.le_refl _, by rw [e, List.length_append]; omega, fun j _ hj => by rw [e2, List.getElem?_set_ne (Ne.symm hj)], fun j hj _ => by rw [e, List.getElem?_append_left hj], .inl rfl, h⟩
theorem kfu_mem {N F T m : Nat} (hm : T ≤ ks.length) {r : Nat} (hr : r ∈ (List.range ks.length).map (kfu ks N F T m)) : r ∈ ks ∨ N ≤ r := by
  obtain ⟨i, hi, rfl⟩ := List.mem_map.1 hr
  have hi := List.mem_range.1 hi
  unfold kfu
  split
  · rw [gd hi]; exact .inl (List.getElem_mem _)
  · split
    · rw [gd (by omega)]; exact .inl (List.getElem_mem _)
    · exact .inr (by omega)
theorem kfd_mem {N F T m : Nat} (hm : T ≤ ks.length) {r : Nat} (hr : r ∈ (List.range ks.length).map (kfd ks N F T m)) : r ∈ ks ∨ N ≤ r := by
  obtain ⟨i, hi, rfl⟩ := List.mem_map.1 hr
  have hi := List.mem_range.1 hi
  unfold kfd
  split
  · rw [gd hi]; exact .inl (List.getElem_mem _)
  · split
    · exact .inr (by omega)
    · rw [gd (by omega)]; exact .inl (List.getElem_mem _)
theorem up_eq2 (h : Gw s g ks W) (nd : ks.Nodup) (a b n : Int) : ∃ s' ks', f_scroll_Up s (some g) a b n = some s' ∧ (Gw s' g ks' W ∧ ks'.Nodup ∧ ks'.length = ks.length ∧
    ks'.map (ln s') = mv W (ks.map (ln s)) (cl a ks.length) (cl b ks.length) n true) ∧ s'.rst = s.rst ∧ Rf s s' g ks g ks' := by
  have hF := cl_le a ks.length
  have hT := cl_le b ks.length
  have hh := h.h2
  have hN : ∀ k ∈ ks, k < s.row_Row.length := fun k hk => (h.r k hk).lt
  unfold f_scroll_Up
  rw [scroll_of h]
  simp only [bsm]
  generalize cl a ks.length = F at *
  generalize cl b ks.length = T at *
  unfold mv
  by_cases hc : F < T ∧ 0 < n
  · obtain ⟨m, hm⟩ : ∃ m : Nat, min n ((T : Int) - (F : Int)) = (m : Int) := ⟨(min n ((T : Int) - (F : Int))).toNat, by omega⟩
    have hm2 : F + m ≤ T ∧ 1 ≤ m := by omega
    rw [if_pos (by simp; omega), if_pos hc, hm, w64_in (by omega), show ((F : Int) + (m : Int)) = ((F + m : Nat) : Int) by simp, scroll_rows h hm2.1 hT]
    simp only [bsm]
    rw [scroll_blanks h (by omega)]
    simp only [bsm]
    rw [app_eq (by simp; omega), ← List.map_append]
    simp only [bsm]
    have h1 := h.addr (xs := List.replicate m (bk W))
    have hlen : ((ks.drop (F + m)).take (T - (F + m)) ++ List.range' s.row_Row.length m).length = T - F := by simp; omega
    obtain ⟨h3, h4⟩ := scroll_lay h1 (F := F) (p := (ks.drop (F + m)).take (T - (F + m)) ++ List.range' s.row_Row.length m) (by rw [hlen]; omega) (fun k hk => by
      rcases List.mem_append.1 hk with hk | hk
      · exact h1.r k (List.mem_of_mem_drop (List.mem_of_mem_take hk))
      · rw [List.mem_range'_1] at hk
        have := addr_new (s := s) (xs := List.replicate m (bk W)) (i := k - s.row_Row.length) (by simp; omega)
        rw [show s.row_Row.length + (k - s.row_Row.length) = k by omega, List.getElem_replicate] at this
        exact ⟨_, this, snd_bl W, by simp [bk]⟩) ⟨(F : Int), (T : Int), (m : Int)⟩ rfl
    rw [h3]
    rw [ov_up s.row_Row.length hm2.1 hT] at h4 ⊢
    have ne := kfu_ne nd (N := s.row_Row.length) (F := F) (T := T) (m := m) hN hm2.1 hT
    have hB : ∀ i, i < ks.length → ln ((s.addr (List.replicate m (bk W))).sg g ⟨((List.range ks.length).map (kfu ks s.row_Row.length F T m)).map some⟩) (kfu ks s.row_Row.length F T m i) = mvb W (ks.map (ln s)) F T m true i := by
      intro i hi
      rw [ln_sg]
      have old : ∀ j, j < ks.length → ln (s.addr (List.replicate m (bk W))) (ks.getD j 0) = (ks.map (ln s)).getD j dl := fun j hj => by
        rw [gdl (by simpa using hj), gd hj, ln_old (hN _ (List.getElem_mem hj)), List.getElem_map]
      unfold kfu mvb
      by_cases c1 : i < F ∨ T ≤ i
      · rw [if_pos c1, if_neg (show ¬(F ≤ i ∧ i < T) by omega), old i hi]
      · rw [if_neg c1, if_pos (show F ≤ i ∧ i < T by omega), if_pos rfl]
        by_cases c2 : i + m < T
        · rw [if_pos c2, if_pos c2, old _ (by omega)]
        · rw [if_neg c2, if_neg c2, ln_new (by simp; omega), List.getElem_replicate]
          rfl
    refine ⟨_, (List.range ks.length).map (kfu ks s.row_Row.length F T m), rfl, ⟨?_, nd_map ne, by simp, ?_⟩, offa_pen _ _ _, (Rf.lay _ _ fun r hr => kfu_mem hT hr).aboff F (by simp; omega)⟩
    · unfold offa
      split
      · exact h4
      · refine h4.off ?_
        rw [getD_map_range (by omega)]
        exact h4.r _ (List.mem_map.2 ⟨F - 1, List.mem_range.2 (by omega), rfl⟩)
    · rw [List.length_map, List.map_map]
      refine List.map_congr_left fun i hi => ?_
      have hi := List.mem_range.1 hi
      simp only [Function.comp, Int.toNat_natCast]
      unfold offa mvl
      by_cases h0 : F = 0
      · rw [if_pos h0, if_neg (by simp; omega), hB i hi]
      · rw [if_neg h0, getD_map_range (by omega), ln_offs ne hB (by omega) (h4.r _ (List.mem_map.2 ⟨F - 1, List.mem_range.2 (by omega), rfl⟩)) i hi]
        by_cases e : i = F - 1
        · rw [if_pos e, if_pos (by omega), e]
        · rw [if_neg e, if_neg (by simp; omega)]
  · rw [if_neg (by simp; omega), if_neg hc]
    exact ⟨s, ks, rfl, ⟨h, nd, rfl, rfl⟩, rfl, Rf.self _ _ _⟩

theorem down_eq2 (h : Gw s g ks W) (nd : ks.Nodup) (a b n : Int) : ∃ s' ks', f_scroll_Down s (some g) a b n = some s' ∧ (Gw s' g ks' W ∧ ks'.Nodup ∧ ks'.length = ks.length ∧
    ks'.map (ln s') = mv W (ks.map (ln s)) (cl a ks.length) (cl b ks.length) n false) ∧ s'.rst = s.rst ∧ Rf s s' g ks g ks' := by
  have hF := cl_le a ks.length
  have hT := cl_le b ks.length
  have hh := h.h2
  have hN : ∀ k ∈ ks, k < s.row_Row.length := fun k hk => (h.r k hk).lt
  unfold f_scroll_Down
  rw [scroll_of h]
  simp only [bsm]
  generalize cl a ks.length = F at *
  generalize cl b ks.length = T at *
  unfold mv
  by_cases hc : F < T ∧ 0 < n
  · obtain ⟨m, hm⟩ : ∃ m : Nat, min n ((T : Int) - (F : Int)) = (m : Int) := ⟨(min n ((T : Int) - (F : Int))).toNat, by omega⟩
    have hm2 : F + m ≤ T ∧ 1 ≤ m := by omega
    have h1 := h.addr (xs := List.replicate m (bk W))
    rw [if_pos (by simp; omega), if_pos hc, hm, scroll_blanks h (by omega)]
    simp only [bsm]
    rw [w64_in (by omega), show ((T : Int) - (m : Int)) = ((T - m : Nat) : Int) by omega, scroll_rows h1 (by omega) (by omega)]
    simp only [bsm]
    rw [app_eq (by simp; omega), ← List.map_append]
    simp only [bsm]
    have hlen : (List.range' s.row_Row.length m ++ (ks.drop F).take (T - m - F)).length = T - F := by simp; omega
    obtain ⟨h3, h4⟩ := scroll_lay h1 (F := F) (p := List.range' s.row_Row.length m ++ (ks.drop F).take (T - m - F)) (by rw [hlen]; omega) (fun k hk => by
      rcases List.mem_append.1 hk with hk | hk
      · rw [List.mem_range'_1] at hk
        have := addr_new (s := s) (xs := List.replicate m (bk W)) (i := k - s.row_Row.length) (by simp; omega)
        rw [show s.row_Row.length + (k - s.row_Row.length) = k by omega, List.getElem_replicate] at this
        exact ⟨_, this, snd_bl W, by simp [bk]⟩
      · exact h1.r k (List.mem_of_mem_drop (List.mem_of_mem_take hk))) ⟨(F : Int), (T : Int), (m : Int)⟩ rfl
    rw [h3]
    rw [ov_down s.row_Row.length hm2.1 hT] at h4 ⊢
    have ne := kfd_ne nd (N := s.row_Row.length) (F := F) (T := T) (m := m) hN hm2.1 hT
    have hB : ∀ i, i < ks.length → ln ((s.addr (List.replicate m (bk W))).sg g ⟨((List.range ks.length).map (kfd ks s.row_Row.length F T m)).map some⟩) (kfd ks s.row_Row.length F T m i) = mvb W (ks.map (ln s)) F T m false i := by
      intro i hi
      rw [ln_sg]
      have old : ∀ j, j < ks.length → ln (s.addr (List.replicate m (bk W))) (ks.getD j 0) = (ks.map (ln s)).getD j dl := fun j hj => by
        rw [gdl (by simpa using hj), gd hj, ln_old (hN _ (List.getElem_mem hj)), List.getElem_map]
      unfold kfd mvb
      by_cases c1 : i < F ∨ T ≤ i
      · rw [if_pos c1, if_neg (show ¬(F ≤ i ∧ i < T) by omega), old i hi]
      · rw [if_neg c1, if_pos (show F ≤ i ∧ i < T by omega), if_neg (show ¬(false = true) by simp)]
        by_cases c2 : i < F + m
        · rw [if_pos c2, if_neg (show ¬(F + m ≤ i) by omega), ln_new (by simp; omega), List.getElem_replicate]
          rfl
        · rw [if_neg c2, if_pos (show F + m ≤ i by omega), old _ (by omega)]
    have hmem : ∀ j, j < ks.length → kfd ks s.row_Row.length F T m j ∈ (List.range ks.length).map (kfd ks s.row_Row.length F T m) := fun j hj => List.mem_map.2 ⟨j, List.mem_range.2 hj, rfl⟩
    have h5 : Gw (offa ((s.addr (List.replicate m (bk W))).sg g ⟨((List.range ks.length).map (kfd ks s.row_Row.length F T m)).map some⟩) ((List.range ks.length).map (kfd ks s.row_Row.length F T m)) F) g ((List.range ks.length).map (kfd ks s.row_Row.length F T m)) W := by
      unfold offa
      split
      · exact h4
      · refine h4.off ?_
        rw [getD_map_range (by omega)]
        exact h4.r _ (hmem _ (by omega))
    have hC : ∀ i, i < ks.length → ln (offa ((s.addr (List.replicate m (bk W))).sg g ⟨((List.range ks.length).map (kfd ks s.row_Row.length F T m)).map some⟩) ((List.range ks.length).map (kfd ks s.row_Row.length F T m)) F) (kfd ks s.row_Row.length F T m i) =
        if i + 1 = F then ⟨(mvb W (ks.map (ln s)) F T m false i).Cells, false⟩ else mvb W (ks.map (ln s)) F T m false i := by
      intro i hi
      unfold offa
      by_cases h0 : F = 0
      · rw [if_pos h0, if_neg (by omega), hB i hi]
      · rw [if_neg h0, getD_map_range (by omega), ln_offs ne hB (by omega) (h4.r _ (hmem _ (by omega))) i hi]
        by_cases e : i = F - 1
        · rw [if_pos e, if_pos (by omega), e]
        · rw [if_neg e, if_neg (by omega)]
    have hlt : T - 1 < ((List.range ks.length).map (kfd ks s.row_Row.length F T m)).length := by simp; omega
    simp only [bsm]
    rw [w64_in (by omega), show ((T : Int) - 1) = ((T - 1 : Nat) : Int) by omega, grid_row h5 hlt]
    simp only [bsm]
    rw [goon_off (h5.at hlt)]
    simp only [bsm, List.getElem_map, List.getElem_range]
    refine ⟨_, (List.range ks.length).map (kfd ks s.row_Row.length F T m), rfl, ⟨h5.off (h5.r _ (hmem _ (by omega))), nd_map ne, by simp, ?_⟩, offa_pen _ _ _, ((Rf.lay _ _ fun r hr => kfd_mem hT hr).aboff F (by simp; omega)).rowoff (hmem _ (by omega))⟩
    rw [List.length_map, List.map_map]
    refine List.map_congr_left fun i hi => ?_
    have hi := List.mem_range.1 hi
    simp only [Function.comp, Int.toNat_natCast]
    rw [ln_offs ne hC (by omega) (h5.r _ (hmem _ (by omega))) i hi]
    unfold mvl
    by_cases e : i = T - 1
    · rw [if_pos e, if_neg (show ¬(T - 1 + 1 = F) by omega), if_pos (show i + 1 = F ∨ (false = false ∧ i + 1 = T) from Or.inr ⟨rfl, by omega⟩), e]
    · rw [if_neg e]
      by_cases e2 : i + 1 = F
      · rw [if_pos e2, if_pos (Or.inl e2)]
      · rw [if_neg e2, if_neg (show ¬(i + 1 = F ∨ (false = false ∧ i + 1 = T)) by simp; omega)]
  · rw [if_neg (by simp; omega), if_neg hc]
    exact ⟨s, ks, rfl, ⟨h, nd, rfl, rfl⟩, rfl, Rf.self _ _ _⟩

theorem up_eq (h : Gw s g ks W) (nd : ks.Nodup) (a b n : Int) : ∃ s' ks', f_scroll_Up s (some g) a b n = some s' ∧ Gw s' g ks' W ∧ ks'.Nodup ∧ ks'.length = ks.length ∧
    ks'.map (ln s') = mv W (ks.map (ln s)) (cl a ks.length) (cl b ks.length) n true := by
  obtain ⟨s', ks', h1, h2, _⟩ := up_eq2 h nd a b n
  exact ⟨s', ks', h1, h2⟩
theorem down_eq (h : Gw s g ks W) (nd : ks.Nodup) (a b n : Int) : ∃ s' ks', f_scroll_Down s (some g) a b n = some s' ∧ Gw s' g ks' W ∧ ks'.Nodup ∧ ks'.length = ks.length ∧
    ks'.map (ln s') = mv W (ks.map (ln s)) (cl a ks.length) (cl b ks.length) n false := by
  obtain ⟨s', ks', h1, h2, _⟩ := down_eq2 h nd a b n
  exact ⟨s', ks', h1, h2⟩
theorem up_nil (a b n : Int) : f_scroll_Up s none a b n = some s := by
  unfold f_scroll_Up
  obtain ⟨x, h⟩ := scroll_of0 (s := s) a b n
  rw [h]
  rfl
theorem down_nil (a b n : Int) : f_scroll_Down s none a b n = some s := by
  unfold f_scroll_Down
  obtain ⟨x, h⟩ := scroll_of0 (s := s) a b n
  rw [h]
  rfl
end Go.Proofs.YthokmpbbkpjhbaaGreatDoor
