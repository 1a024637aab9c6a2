/-
  Grids made of lines, and rows of grids moved, in plain Lean. Conditions: each lemma's own.
-/
import Derived.Test.YthokmpbbkpjhbaaGreatDoorPg
namespace Go.Proofs.YthokmpbbkpjhbaaGreatDoor
open Go Go.Lt
variable {s : Sto} {g k W : Nat} {ks : List Nat} {l p : List G_api_Cell} {w : Bool}

theorem sto_eq {a b : Sto} (h1 : a.row_Row = b.row_Row) (h2 : a.grid_Grid = b.grid_Grid) (h3 : { a with row_Row := b.row_Row, grid_Grid := b.grid_Grid } = b) : a = b :=
  Eq.trans (show a = { a with row_Row := b.row_Row, grid_Grid := b.grid_Grid } by rw [← h1, ← h2]) h3
/-- A store without its rows and grids; without its pens, too. -/
def Sto.rst (s : Sto) : Sto := { s with row_Row := [], grid_Grid := [] }
def Sto.oth (s : Sto) : Sto := { s with row_Row := [], grid_Grid := [], place_Pen := [] }
theorem rst_pen {a b : Sto} (h : a.rst = b.rst) : a.place_Pen = b.place_Pen := by
  have := congrArg Sto.place_Pen h
  exact this
theorem rst_oth {a b : Sto} (h : a.rst = b.rst) : a.oth = b.oth := by
  have := congrArg (fun x : Sto => ({ x with place_Pen := [] } : Sto)) h
  exact this
/-- Rows that are added. -/
def Sto.addr (s : Sto) (xs : List G_row_Row) : Sto := { s with row_Row := s.row_Row ++ xs }
theorem addr_len (s : Sto) (xs : List G_row_Row) : (s.addr xs).row_Row.length = s.row_Row.length + xs.length := by simp [Sto.addr]
theorem addr_old {xs : List G_row_Row} (h : k < s.row_Row.length) : (s.addr xs).row_Row[k]? = s.row_Row[k]? := List.getElem?_append_left h
theorem addr_new {xs : List G_row_Row} {i : Nat} (h : i < xs.length) : (s.addr xs).row_Row[s.row_Row.length + i]? = some xs[i] := by
  simp [Sto.addr, List.getElem?_append_right, h]
theorem addr_add (s : Sto) (xs : List G_row_Row) (x : G_row_Row) : (s.addr xs).add_row_Row x = s.addr (xs ++ [x]) := by simp [Sto.addr, Sto.add_row_Row]
theorem addr_nil (s : Sto) : s.addr [] = s := by simp [Sto.addr]
theorem Rw.lt (h : Rw s W k) : k < s.row_Row.length := by obtain ⟨r, h, _⟩ := h; exact get_lt h
theorem Rw.addr {xs : List G_row_Row} (h : Rw s W k) : Rw (s.addr xs) W k := by
  obtain ⟨r, h1, h2⟩ := h
  exact ⟨r, by rw [addr_old (get_lt h1)]; exact h1, h2⟩
theorem Gw.addr {xs : List G_row_Row} (h : Gw s g ks W) : Gw (s.addr xs) g ks W := ⟨h.g, fun k hk => (h.r k hk).addr, h.h1, h.h2, h.w1, h.w2⟩
theorem ln_old {xs : List G_row_Row} (h : k < s.row_Row.length) : ln (s.addr xs) k = ln s k := by unfold ln; rw [addr_old h]
theorem ln_new {xs : List G_row_Row} {i : Nat} (h : i < xs.length) : ln (s.addr xs) (s.row_Row.length + i) = ⟨xs[i].cells, xs[i].wrap⟩ := ln_eq (addr_new h)

/-- The lines as rows. -/
def lr (x : G_api_Line) : G_row_Row := ⟨x.Cells, x.Wrap⟩
theorem grid_of {L : List G_api_Line} (h1 : 1 ≤ L.length) (h2 : L.length ≤ 1024)
    (hok : ∀ i (h : i < L.length), 1 ≤ L[i].Cells.length ∧ L[i].Cells.length ≤ 1024 ∧ Snd L[i].Cells ∧ L[i].Cells.length = (L[0]'(by omega)).Cells.length) :
    f_grid_Of s L = some ((s.addr (L.map lr)).add_grid_Grid ⟨(List.range' s.row_Row.length L.length).map some⟩, some s.grid_Grid.length, Er.nil) := by
  unfold f_grid_Of
  simp only [orE_some, bsm]
  rw [if_neg (by rw [Bool.or_eq_true, beq_iff_eq, decide_eq_true_eq]; omega)]
  obtain ⟨t, h3, h4⟩ := iter_for (σ := Int × Sto) (τ := (Sto × (Option Nat) × Er) ⊕ Sto) (n := L.length) (fuel := ((L.length : Int) - 0).toNat + 1) (s := (0, s.add_grid_Grid (⟨([] : List (Option Nat))⟩ : G_grid_Grid)))
    (fun i q => q = ((i : Int), (s.addr ((L.take i).map lr)).add_grid_Grid ⟨(List.range' s.row_Row.length i).map some⟩))
    (fun t => t = .inr ((s.addr (L.map lr)).add_grid_Grid ⟨(List.range' s.row_Row.length L.length).map some⟩))
    (step := fun s_25 =>
  if (decide (s_25.1 < (L.length : Int))) = true then
  (idx L s_25.1).bind fun x_29 =>
  (f_row_Of s_25.2 x_29.Cells).bind fun x_37 =>
  ((andE x_37.2.2.isNil ((idx L 0).bind fun x_51 =>
  (f_row_Row_Wide x_37.1 x_37.2.1).bind fun x_55 =>
  some (x_55 != (x_51.Cells.length : Int)))).bind fun d_47 =>
  if d_47 = true then
  (some ((Er.sent 0)) : Option (Er))
  else
  (some (x_37.2.2) : Option (Er))).bind fun z_44 =>
  if (!z_44.isNil) = true then
  (f_api_Wrong s_25.1 z_44).bind fun x_66 =>
  some (.inr (.inl (x_37.1, (none : Option Nat), x_66)))
  else
  (f_row_Row_GoOn x_37.1 x_37.2.1 x_29.Wrap).bind fun x_73 =>
  (x_73.grid_Grid[s.grid_Grid.length]?).bind fun o_79 =>
  (app o_79.rows ([x_37.2.1] : List (Option Nat))).bind fun x_82 =>
  (x_73.set_grid_Grid s.grid_Grid.length (⟨x_82⟩ : G_grid_Grid)).bind fun s_85001 =>
  some (.inl ((w64 (s_25.1 + 1)), s_85001))
  else
  some (.inr (.inr (s_25.2))))
    (fun i q hi e => by
      subst e
      refine .inl ⟨_, ?_, rfl⟩
      obtain ⟨k1, k2, k3, k4⟩ := hok i hi
      have e5 : w64 ((i : Int) + 1) = ((i + 1 : Nat) : Int) := by rw [w64_in (by omega)]; simp
      have hd : decide ((i : Int) < (L.length : Int)) = true := by simp; exact hi
      have h0 : idx L (0 : Int) = some (L[0]'(by omega)) := idx_at (i := 0) (by omega)
      simp only [hd, if_true, idx_at hi, bsm]
      rw [row_of k1 k2 k3]
      simp only [bsm, Er.isNil, andE_true, h0]
      rw [row_wide (add_get _ _)]
      simp only [bsm, k4, bne_self_eq_false, Bool.false_eq_true, if_false, Bool.not_true]
      rw [row_goon (add_get _ _), add_sr]
      simp only [bsm]
      have hg : (((s.addr ((L.take i).map lr)).add_grid_Grid ⟨(List.range' s.row_Row.length i).map some⟩).add_row_Row ⟨L[i].Cells, L[i].Wrap⟩).grid_Grid[s.grid_Grid.length]? = some ⟨(List.range' s.row_Row.length i).map some⟩ := by
        simp [Sto.add_grid_Grid, Sto.add_row_Row, Sto.addr]
      rw [hg]
      simp only [bsm]
      rw [app_eq (by simp; omega)]
      simp only [bsm]
      rw [set_grid (get_lt hg), e5]
      simp only [bsm]
      congr 4
      refine sto_eq ?_ ?_ rfl
      · simp only [Sto.sg, Sto.add_grid_Grid, Sto.add_row_Row, Sto.addr]
        rw [List.take_succ_eq_append_getElem hi, List.map_append, List.append_assoc]
        rfl
      · simp only [Sto.sg, Sto.add_grid_Grid, Sto.add_row_Row, Sto.addr]
        rw [List.set_append_right _ _ (Nat.le_refl _), Nat.sub_self, List.set_cons_zero, List.range'_concat, List.map_append]
        simp [Sto.add_grid_Grid, Sto.add_row_Row, Sto.addr]
        exact Nat.min_eq_left (Nat.le_of_lt hi))
    (fun q e => ⟨_, by subst e; simp, rfl⟩)
    (by simp [addr_nil]) (by omega)
  subst h4
  rw [h3]
  rfl
theorem gw_of {L : List G_api_Line} (h1 : 1 ≤ L.length) (h2 : L.length ≤ 1024)
    (hok : ∀ i (h : i < L.length), 1 ≤ L[i].Cells.length ∧ L[i].Cells.length ≤ 1024 ∧ Snd L[i].Cells ∧ L[i].Cells.length = (L[0]'(by omega)).Cells.length) :
    Gw ((s.addr (L.map lr)).add_grid_Grid ⟨(List.range' s.row_Row.length L.length).map some⟩) s.grid_Grid.length (List.range' s.row_Row.length L.length) (L[0]'(by omega)).Cells.length ∧
      (List.range' s.row_Row.length L.length).map (ln ((s.addr (L.map lr)).add_grid_Grid ⟨(List.range' s.row_Row.length L.length).map some⟩)) = L := by
  have hr : ∀ i (h : i < L.length), ((s.addr (L.map lr)).add_grid_Grid ⟨(List.range' s.row_Row.length L.length).map some⟩).row_Row[s.row_Row.length + i]? = some (lr L[i]) := fun i h => by
    have := addr_new (s := s) (xs := L.map lr) (i := i) (by simpa using h)
    rw [List.getElem_map] at this
    exact this
  refine ⟨⟨by simp [Sto.add_grid_Grid, Sto.addr], fun k hk => ?_, by simpa using h1, by simpa using h2, (hok 0 (by omega)).1, (hok 0 (by omega)).2.1⟩, ?_⟩
  · rw [List.mem_range'_1] at hk
    have hi : k - s.row_Row.length < L.length := by omega
    have := hr _ hi
    rw [show s.row_Row.length + (k - s.row_Row.length) = k by omega] at this
    exact ⟨_, this, (hok _ hi).2.2.1, (hok _ hi).2.2.2⟩
  · refine List.ext_getElem (by simp) fun i h1 h2 => ?_
    rw [List.getElem_map, List.getElem_range', Nat.one_mul, ln_eq (hr i h2)]
    rfl

/-! ### scroll: the stretch -/
theorem icl (a : Int) (m : Nat) : imax 0 (imin a (m : Int)) = ((cl a m : Nat) : Int) := by simp only [imax_eq, imin_eq, cl]; omega
theorem scroll_of (h : Gw s g ks W) (a b n : Int) : f_scroll_of s (some g) a b n = some (⟨(cl a ks.length : Nat), (cl b ks.length : Nat), min n ((cl b ks.length : Int) - (cl a ks.length : Int))⟩, decide (cl a ks.length < cl b ks.length) && decide (0 < n)) := by
  have h1 := cl_le a ks.length
  have h2 := cl_le b ks.length
  have hh := h.h2
  unfold f_scroll_of
  rw [grid_high h]
  simp only [bsm, icl, andE_some]
  rw [imin_eq, w64_in (by omega)]
  simp
theorem scroll_of0 (a b n : Int) : ∃ x, f_scroll_of s none a b n = some (x, false) := by
  unfold f_scroll_of
  rw [grid_high0]
  have e : ∀ a : Int, imax 0 (imin a 0) = 0 := fun a => by simp only [imax_eq, imin_eq]; omega
  simp only [bsm, andE_some, e]
  exact ⟨_, rfl⟩
theorem scroll_rows (h : Gw s g ks W) {a b : Nat} (hab : a ≤ b) (hb : b ≤ ks.length) : f_scroll_rows s (some g) a b = some (((ks.drop a).take (b - a)).map some) := by
  have hh := h.h2
  unfold f_scroll_rows
  obtain ⟨t, h1, h2⟩ := iter_for (σ := (List (Option Nat)) × Int) (τ := List (Option Nat)) (n := b - a) (fuel := ((b : Int) - (a : Int)).toNat + 1) (s := (([] : List (Option Nat)), (a : Int)))
    (fun i q => q = (((ks.drop a).take i).map some, ((a + i : Nat) : Int))) (fun t => t = ((ks.drop a).take (b - a)).map some)
    (step := fun s_8 =>
  if (decide (s_8.2 < (b : Int))) = true then
  (f_grid_Grid_Row s (some g) s_8.2).bind fun x_16 =>
  (app s_8.1 ([x_16] : List (Option Nat))).bind fun x_18 =>
  some (.inl (x_18, (w64 (s_8.2 + 1))))
  else
  some (.inr (s_8.1)))
    (fun i q hi e => by
      subst e
      refine .inl ⟨_, ?_, rfl⟩
      have e5 : w64 (((a + i : Nat) : Int) + 1) = ((a + (i + 1) : Nat) : Int) := by rw [w64_in (by omega)]; simp; omega
      have hd : decide (((a + i : Nat) : Int) < (b : Int)) = true := by simp; omega
      simp only [hd, if_true]
      rw [grid_row h (show a + i < ks.length by omega)]
      simp only [bsm, e5]
      rw [app_eq (by simp; omega)]
      simp only [bsm]
      rw [List.take_succ_eq_append_getElem (by simp; omega), List.map_append]
      simp)
    (fun q e => by
      subst e
      have hd : decide (((a + (b - a) : Nat) : Int) < (b : Int)) = false := by simp; omega
      exact ⟨_, by simp only [hd]; rfl, rfl⟩)
    (by simp) (by omega)
  subst h2
  rw [h1]
  rfl
def bk (W : Nat) : G_row_Row := ⟨List.replicate W bl, false⟩
theorem scroll_blanks (h : Gw s g ks W) {n : Nat} (hn : n ≤ 1024) : f_scroll_blanks s (some g) n = some (s.addr (List.replicate n (bk W)), (List.range' s.row_Row.length n).map some) := by
  unfold f_scroll_blanks
  obtain ⟨t, h1, h2⟩ := iter_for (σ := (List (Option Nat)) × Int × Sto) (τ := (List (Option Nat)) × Sto) (n := n) (fuel := ((n : Int) - 0).toNat + 1) (s := (([] : List (Option Nat)), 0, s))
    (fun i q => q = ((List.range' s.row_Row.length i).map some, (i : Int), s.addr (List.replicate i (bk W)))) (fun t => t = ((List.range' s.row_Row.length n).map some, s.addr (List.replicate n (bk W))))
    (step := fun s_8 =>
  if (decide (s_8.2.1 < (n : Int))) = true then
  (f_grid_Grid_Wide s_8.2.2 (some g)).bind fun x_13 =>
  (f_row_New s_8.2.2 x_13).bind fun x_14 =>
  (app s_8.1 ([x_14.2] : List (Option Nat))).bind fun x_16 =>
  some (.inl (x_16, (w64 (s_8.2.1 + 1)), x_14.1))
  else
  some (.inr (s_8.1, s_8.2.2)))
    (fun i q hi e => by
      subst e
      refine .inl ⟨_, ?_, rfl⟩
      have e5 : w64 ((i : Int) + 1) = ((i + 1 : Nat) : Int) := by rw [w64_in (by omega)]; simp
      have hd : decide ((i : Int) < (n : Int)) = true := by simp; exact hi
      simp only [hd, if_true]
      rw [grid_wide (h.addr (xs := List.replicate i (bk W)))]
      simp only [bsm, row_new, sd_id h.w1 h.w2, e5]
      rw [app_eq (by simp; omega)]
      simp only [bsm]
      rw [addr_add, addr_len, List.range'_concat, List.map_append, List.replicate_succ']
      simp [bk])
    (fun q e => ⟨_, by subst e; simp, rfl⟩)
    (by simp [addr_nil]) (by omega)
  subst h2
  rw [h1]
  rfl

/-- p laid over ks from F on. -/
def ov (ks : List Nat) (F : Nat) (p : List Nat) : List Nat := ks.take F ++ p ++ ks.drop (F + p.length)
theorem ov_len {F : Nat} {p : List Nat} (h : F + p.length ≤ ks.length) : (ov ks F p).length = ks.length := by simp [ov]; omega
theorem ov_set {F i : Nat} {p : List Nat} (h : F + p.length ≤ ks.length) (hi : i < p.length) : (ov ks F (p.take i)).set (F + i) p[i] = ov ks F (p.take (i + 1)) := by
  unfold ov
  have h1 : (ks.take F ++ p.take i).length = F + i := by simp; omega
  rw [List.set_append_right _ _ (by omega), h1, Nat.sub_self, List.length_take, List.length_take, Nat.min_eq_left (Nat.le_of_lt hi), Nat.min_eq_left (show i + 1 ≤ p.length by omega), List.drop_eq_getElem_cons (show F + i < ks.length by omega), List.set_cons_zero, List.take_succ_eq_append_getElem hi]
  simp only [List.append_assoc, List.cons_append, List.nil_append, Nat.add_assoc]
def off (s : Sto) (k : Nat) : Sto := s.sr k ⟨(ln s k).Cells, false⟩
theorem goon_off (h : Rw s W k) : f_row_Row_GoOn s (some k) false = some (off s k) := by
  obtain ⟨r, h1, _⟩ := h
  rw [row_goon (l := r.cells) (w := r.wrap) h1]
  unfold off
  rw [ln_eq h1]
theorem Rw.off {j : Nat} (h : Rw s W j) (hk : Rw s W k) : Rw (off s k) W j := by
  obtain ⟨r, h1, h2, h3⟩ := h
  obtain ⟨q, k1, k2, k3⟩ := hk
  by_cases e : k = j
  · subst e
    exact ⟨_, sr_get (get_lt k1), by rw [ln_eq k1]; exact ⟨k2, k3⟩⟩
  · exact ⟨r, (sr_ne e).trans h1, h2, h3⟩
theorem Gw.off (h : Gw s g ks W) (hk : Rw s W k) : Gw (off s k) g ks W := ⟨h.g, fun j hj => (h.r j hj).off hk, h.h1, h.h2, h.w1, h.w2⟩
theorem ln_off {j : Nat} (hk : Rw s W k) : ln (off s k) j = if j = k then ⟨(ln s k).Cells, false⟩ else ln s j := by
  by_cases e : k = j
  · subst e
    rw [if_pos rfl]
    exact ln_eq (sr_get hk.lt)
  · rw [if_neg (Ne.symm e)]
    unfold ln
    rw [show (Go.Proofs.YthokmpbbkpjhbaaGreatDoor.off s k).row_Row[j]? = s.row_Row[j]? from sr_ne e]
theorem ln_sg (x : G_grid_Grid) (j : Nat) : ln (s.sg g x) j = ln s j := rfl
/-- The row of a grid above F goes on no more. -/
def offa (s : Sto) (ks : List Nat) (F : Nat) : Sto := if F = 0 then s else off s (ks.getD (F - 1) 0)
theorem scroll_lay (h : Gw s g ks W) {F : Nat} {p : List Nat} (hp : F + p.length ≤ ks.length) (hr : ∀ k ∈ p, Rw s W k) (st : G_scroll_stretch) (hF : st.from_ = (F : Int)) :
    f_scroll_stretch_lay s st (some g) (p.map some) = some (offa (s.sg g ⟨(ov ks F p).map some⟩) (ov ks F p) F) ∧ Gw (s.sg g ⟨(ov ks F p).map some⟩) g (ov ks F p) W := by
  have hh := h.h2
  have key : ∀ i, i ≤ p.length → Gw (s.sg g ⟨(ov ks F (p.take i)).map some⟩) g (ov ks F (p.take i)) W := fun i hi =>
    ⟨sg_get (get_lt h.g), fun k hk => by
      unfold ov at hk
      rw [List.mem_append, List.mem_append] at hk
      rcases hk with (hk | hk) | hk
      · exact h.r k (List.mem_of_mem_take hk)
      · exact hr k (List.mem_of_mem_take hk)
      · exact h.r k (List.mem_of_mem_drop hk), by rw [ov_len (by simp; omega)]; exact h.h1, by rw [ov_len (by simp; omega)]; exact h.h2, h.w1, h.w2⟩
  have kend := key p.length (Nat.le_refl _)
  rw [List.take_length] at kend
  refine ⟨?_, kend⟩
  unfold f_scroll_stretch_lay
  rw [hF]
  obtain ⟨t, h1, h2⟩ := iter_for (σ := Int × Sto) (τ := Sto) (n := p.length) (fuel := (((p.map some).length : Int) - 0).toNat + 1) (s := ((0 : Int), s))
    (fun i q => q = ((i : Int), s.sg g ⟨(ov ks F (p.take i)).map some⟩)) (fun t => t = s.sg g ⟨(ov ks F p).map some⟩)
    (step := fun s_7 =>
  if (decide (s_7.1 < ((p.map some).length : Int))) = true then
  (idx (p.map some) s_7.1).bind fun x_11 =>
  (f_grid_Grid_Set s_7.2 (some g) (w64 ((F : Int) + s_7.1)) x_11).bind fun x_22 =>
  some (.inl ((w64 (s_7.1 + 1)), x_22.1))
  else
  some (.inr (s_7.2)))
    (fun i q hi e => by
      subst e
      refine .inl ⟨_, ?_, rfl⟩
      have e5 : w64 ((i : Int) + 1) = ((i + 1 : Nat) : Int) := by rw [w64_in (by omega)]; simp
      have e6 : w64 ((F : Int) + (i : Int)) = ((F + i : Nat) : Int) := by rw [w64_in (by omega)]; simp
      have hd : decide ((i : Int) < ((p.map some).length : Int)) = true := by simp; exact hi
      have hi2 : i < (p.map some).length := by simpa using hi
      have hk := key i (Nat.le_of_lt hi)
      simp only [hd, if_true, idx_at hi2, bsm, List.getElem_map, e5, e6]
      have hl : (ov ks F (p.take i)).length = ks.length := ov_len (by simp; omega)
      rw [grid_set hk (show F + i < (ov ks F (p.take i)).length by omega) (hr _ (List.getElem_mem hi))]
      simp only [bsm]
      rw [ov_set hp hi, sg_sg])
    (fun q e => by
      subst e
      rw [List.take_length]
      exact ⟨_, by simp, rfl⟩)
    (by
      simp only [List.take_zero, Prod.mk.injEq]
      refine ⟨rfl, (sg_id ?_).symm⟩
      rw [h.g]
      simp [ov]) (by simp)
  subst h2
  rw [h1]
  simp only [bsm]
  unfold offa
  by_cases h0 : F = 0
  · subst h0
    rw [if_pos rfl, grid_row_out kend (by left; rw [w64_in (by omega)]; omega)]
    rfl
  · have e7 : w64 ((F : Int) - 1) = ((F - 1 : Nat) : Int) := by rw [w64_in (by omega)]; omega
    have hl : (ov ks F p).length = ks.length := ov_len hp
    have hlt : F - 1 < (ov ks F p).length := by omega
    rw [if_neg h0, e7, grid_row kend hlt]
    simp only [bsm]
    rw [goon_off (kend.at hlt), List.getD_eq_getElem?_getD, List.getElem?_eq_getElem hlt]
    rfl
end Go.Proofs.YthokmpbbkpjhbaaGreatDoor
