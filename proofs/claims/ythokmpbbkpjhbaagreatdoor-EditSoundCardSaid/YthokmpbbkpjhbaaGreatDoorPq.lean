/-
  New pens, pens that are as the document's, in plain Lean: PlacePlays answers true. Conditions: lists are shorter than 2^63.
-/
import Derived.Test.YthokmpbbkpjhbaaGreatDoorPm
namespace Go.Proofs.YthokmpbbkpjhbaaGreatDoor
open Go Go.Lt
variable {s C : Sto} {g k W : Nat} {ks : List Nat} {q : G_linotyperef34_Pen}

/-- So many lines of blanks. -/
def bls (W H : Nat) : List G_api_Line := List.replicate H ⟨List.replicate W bl, false⟩
theorem bls_ok {W H : Nat} (w1 : 1 ≤ W) (w2 : W ≤ 1024) (h1 : 1 ≤ H) : ∀ i (h : i < (bls W H).length), 1 ≤ (bls W H)[i].Cells.length ∧ (bls W H)[i].Cells.length ≤ 1024 ∧ Snd (bls W H)[i].Cells ∧ (bls W H)[i].Cells.length = ((bls W H)[0]'(by omega)).Cells.length := fun i h => by
  have e : ∀ j (hj : j < (bls W H).length), (bls W H)[j] = ⟨List.replicate W bl, false⟩ := fun j hj => by
    unfold bls
    exact List.getElem_replicate _
  rw [e i h, e 0 (by omega)]
  simp only [List.length_replicate]
  exact ⟨w1, w2, snd_bl W, trivial⟩
theorem grid_new (n m : Int) : f_grid_New s n m = some ((s.addr ((bls (sd n) (sd m)).map lr)).add_grid_Grid ⟨(List.range' s.row_Row.length (sd m)).map some⟩, some s.grid_Grid.length) := by
  have hsd := sd_in m
  have hL : ∀ i, ((bls (sd n) (sd m)).map lr).take i = List.replicate (min i (sd m)) ⟨List.replicate (sd n) bl, false⟩ := fun i => by
    unfold bls
    rw [List.map_replicate, List.take_replicate]
    rfl
  have hlen : ((bls (sd n) (sd m)).map lr).length = sd m := by simp [bls]
  have hH : imax 1 (imin m 1024) = (sd m : Int) := by
    rw [imin_eq, imax_eq]
    unfold sd
    omega
  unfold f_grid_New
  rw [hH]
  simp only [bsm]
  obtain ⟨t, h3, h4⟩ := iter_for (σ := Int × Sto) (τ := Sto) (n := sd m) (fuel := (((sd m : Nat) : Int) - 0).toNat + 1) (s := (0, s.add_grid_Grid (⟨([] : List (Option Nat))⟩ : G_grid_Grid)))
    (fun i q => q = ((i : Int), (s.addr (((bls (sd n) (sd m)).map lr).take i)).add_grid_Grid ⟨(List.range' s.row_Row.length i).map some⟩))
    (fun t => t = (s.addr ((bls (sd n) (sd m)).map lr)).add_grid_Grid ⟨(List.range' s.row_Row.length (sd m)).map some⟩)
    (step := fun s_12 =>
  if (decide (s_12.1 < ((sd m : Nat) : Int))) = true then
  (s_12.2.grid_Grid[s.grid_Grid.length]?).bind fun o_19 =>
  (f_row_New s_12.2 n).bind fun x_21 =>
  (app o_19.rows ([x_21.2] : List (Option Nat))).bind fun x_23 =>
  (x_21.1.set_grid_Grid s.grid_Grid.length (⟨x_23⟩ : G_grid_Grid)).bind fun s_26001 =>
  some (.inl ((w64 (s_12.1 + 1)), s_26001))
  else
  some (.inr (s_12.2)))
    (fun i q hi e => by
      subst e
      refine .inl ⟨_, ?_, rfl⟩
      have e5 : w64 ((i : Int) + 1) = ((i + 1 : Nat) : Int) := by rw [w64_in (by omega)]; simp
      have hd : decide ((i : Int) < ((sd m : Nat) : Int)) = true := by simp; exact hi
      have hg : ((s.addr (((bls (sd n) (sd m)).map lr).take i)).add_grid_Grid ⟨(List.range' s.row_Row.length i).map some⟩).grid_Grid[s.grid_Grid.length]? = some ⟨(List.range' s.row_Row.length i).map some⟩ := by
        simp [Sto.add_grid_Grid, Sto.addr]
      simp only [hd, if_true]
      rw [hg, row_new]
      simp only [bsm]
      rw [app_eq (by simp; omega)]
      simp only [bsm]
      have hlt : s.grid_Grid.length < (((s.addr (((bls (sd n) (sd m)).map lr).take i)).add_grid_Grid ⟨(List.range' s.row_Row.length i).map some⟩).add_row_Row ⟨List.replicate (sd n) bl, false⟩).grid_Grid.length := by
        simp [Sto.add_grid_Grid, Sto.addr, Sto.add_row_Row]
      rw [set_grid hlt, e5]
      simp only [bsm]
      congr 4
      refine sto_eq ?_ ?_ rfl
      · simp only [Sto.sg, Sto.add_grid_Grid, Sto.add_row_Row, Sto.addr]
        rw [hL, hL, Nat.min_eq_left (by omega), Nat.min_eq_left (by omega), List.replicate_succ', List.append_assoc]
      · simp only [Sto.sg, Sto.add_grid_Grid, Sto.add_row_Row, Sto.addr]
        rw [List.set_append_right _ _ (Nat.le_refl _), Nat.sub_self, List.set_cons_zero, List.range'_concat, List.map_append, hL, Nat.min_eq_left (by omega)]
        simp)
    (fun q e => ⟨q.2, by subst e; simp, by subst e; simp only; rw [List.take_of_length_le (by omega)]⟩)
    (by simp [addr_nil]) (by omega)
  subst h4
  rw [h3]
  rfl
theorem Fr.of_grid (xs : List G_row_Row) (x : G_grid_Grid) {n : Nat} (hn : n = s.grid_Grid.length) {m : Nat} : Fr s ((s.addr xs).add_grid_Grid x) k n (List.range' s.row_Row.length m) := by
  subst hn
  refine Fr.new (Nat.le_refl _) ?_ ?_ (fun _ _ => rfl) (fun j hj => ?_) (fun j hj => ?_) (Nat.le_refl _) (fun r hr => (List.mem_range'_1.1 hr).1)
  · simp [Sto.add_grid_Grid, Sto.addr]
  · simp [Sto.add_grid_Grid, Sto.addr]
  · simp only [Sto.add_grid_Grid, Sto.addr]; exact List.getElem?_append_left hj
  · simp only [Sto.add_grid_Grid, Sto.addr]; exact List.getElem?_append_left hj
theorem Gw.addp (h : Gw s g ks W) (x : G_place_Pen) : Gw (s.add_place_Pen x) g ks W := ⟨h.g, h.r, h.h1, h.h2, h.w1, h.w2⟩
theorem place_new (n m : Int) : ∃ s' ks, f_place_New s n m = some (s', some s.place_Pen.length) ∧ Pv s s' s.place_Pen.length s.grid_Grid.length (sd n) ⟨bls (sd n) (sd m), ⟨0, 0, false⟩, true⟩ ks := by
  have h1 := sd_in n
  have h2 := sd_in m
  have hb : (bls (sd n) (sd m)).length = sd m := by simp [bls]
  have h0 : ((bls (sd n) (sd m))[0]'(by omega)).Cells.length = sd n := by simp [bls]
  obtain ⟨g1, g2⟩ := gw_of (s := s) (L := bls (sd n) (sd m)) (by omega) (by omega) (bls_ok h1.1 h1.2 h2.1)
  rw [h0] at g1
  rw [hb] at g1 g2
  unfold f_place_New
  rw [grid_new]
  refine ⟨_, _, rfl, ⟨?_, g1.addp _, ?_, ?_, rfl, (Fr.of_grid _ _ rfl).addp _⟩⟩
  · simp [Sto.add_place_Pen, Sto.add_grid_Grid, Sto.addr]
  · exact List.nodup_range'
  · exact g2
theorem ref32_new {W H : Nat} (w2 : W ≤ 1024) (h2 : H ≤ 1024) : f_linotyperef32_New W H = some (bls W H) := by
  unfold f_linotyperef32_New
  obtain ⟨t, h3, h4⟩ := iter_for (σ := (List G_api_Line) × Int) (τ := (List G_api_Line)) (n := H) (fuel := ((H : Int) - 0).toNat + 1) (s := (([] : List G_api_Line), 0))
    (fun i q => q = (bls W i, (i : Int))) (fun t => t = bls W H)
    (step := fun s_7 =>
  if (decide (s_7.2 < (H : Int))) = true then
  (rep (W : Int) (⟨0, ([] : List Int)⟩ : G_api_Cell)).bind fun x_14 =>
  (app s_7.1 ([(⟨x_14, false⟩ : G_api_Line)] : List G_api_Line)).bind fun x_17 =>
  some (.inl (x_17, (w64 (s_7.2 + 1))))
  else
  some (.inr (s_7.1)))
    (fun i q hi e => by
      subst e
      refine .inl ⟨_, ?_, rfl⟩
      have e5 : w64 ((i : Int) + 1) = ((i + 1 : Nat) : Int) := by rw [w64_in (by omega)]; simp
      have hd : decide ((i : Int) < (H : Int)) = true := by simp; exact hi
      simp only [hd, if_true, e5]
      rw [rep_eq _ (by omega)]
      simp only [bsm]
      rw [app_eq (by simp [bls]; omega)]
      simp only [bsm]
      unfold bls
      rw [List.replicate_succ']
      rfl)
    (fun q e => ⟨_, by subst e; simp, rfl⟩)
    rfl (by omega)
  subst h4
  rw [h3]
  rfl
theorem alike_true (h : Pv C s k g W q ks) : f_linotypelaw34_Alike s (some k) q = some true := by
  unfold f_linotypelaw34_Alike
  simp only [bsm, h.p, beq_self_eq_true, Bool.and_self, Bool.and_true, andE_true]
  rw [grid_lines h.g]
  simp only [bsm]
  rw [h.l, same_lines (by rw [h.len]; exact h.g.h2) h.g.w2 h.ok]
  rfl
/-- A put whose answer is known. -/
theorem put_at (h : Pv C s k g W q ks) {p1 : Int} {t : List Int} (ht : t.length ≤ 1000000) {q2 : G_linotyperef34_Pen} {c : G_api_Cursor} (hr : f_linotyperef34_Pen_Put q p1 t = some (q2, c)) :
    ∃ s' ks', f_place_Pen_Put s (some k) p1 t = some (s', c) ∧ Pv C s' k g W q2 ks' := by
  obtain ⟨s', q', ks', i, a, _, a1, a2, a3, _⟩ := put_eq h p1 t ht
  rw [hr] at a2
  cases a2
  exact ⟨s', ks', a1, a3⟩
end Go.Proofs.YthokmpbbkpjhbaaGreatDoor
