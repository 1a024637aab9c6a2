/-
  Edits, in plain Lean: the program's and the document's leave the same pen. Conditions: the pen is as the document's.
-/
import Derived.Test.YthokmpbbkpjhbaaGreatDoorPr
import Derived.Test.YthokmpbbkpjhbaaGreatDoorPf
import Derived.Test.YthokmpbbkpjhbaaGreatDoorQs
import Derived.Test.YthokmpbbkpjhbaaGreatDoorX1
namespace Go.Proofs.YthokmpbbkpjhbaaGreatDoor
open Go Go.Lt
variable {s C : Sto} {g k W : Nat} {ks : List Nat} {q : G_linotyperef34_Pen}

/-! ### what is wrong -/
def w38 (o : G_api_Op) : Int := if o.Kind < 2 ∨ 12 < o.Kind then 5 else if (o.Kind = 3 ∨ o.Kind = 4) ∧ (o.A < 0 ∨ 2 < o.A) then 3 else 0
def e38 (o : G_api_Op) : Er := if w38 o = 5 then .sent 4 else if w38 o = 3 then .sent 0 else .nil
theorem w38_in (o : G_api_Op) : w38 o = 5 ∨ w38 o = 3 ∨ w38 o = 0 := by
  unfold w38
  repeat' split
  all_goals simp
theorem ref38_wrong (o : G_api_Op) : f_linotyperef38_Wrong o = some (w38 o) := by
  unfold f_linotyperef38_Wrong w38
  simp only [orE_some, bsm, andE_some]
  by_cases h : o.Kind < 2 ∨ 12 < o.Kind
  · rw [if_pos h, if_pos (by simp only [Bool.or_eq_true, decide_eq_true_eq]; omega)]
  · rw [if_neg h, if_neg (by simp only [Bool.or_eq_true, decide_eq_true_eq]; omega)]
    by_cases h2 : (o.Kind = 3 ∨ o.Kind = 4) ∧ (o.A < 0 ∨ 2 < o.A)
    · rw [if_pos h2, if_pos (by simp only [Bool.and_eq_true, Bool.or_eq_true, decide_eq_true_eq, beq_iff_eq]; omega)]
    · rw [if_neg h2, if_neg (by simp only [Bool.and_eq_true, Bool.or_eq_true, decide_eq_true_eq, beq_iff_eq]; omega)]
def does (n : Int) : Bool := decide (2 ≤ n) && decide (n ≤ 12)
theorem edit_does (n : Int) : f_edit_Does n = some (does n) := by
  unfold f_edit_Does does
  simp only [andE_some, bsm, ge_iff_le]
theorem does_w38 (o : G_api_Op) : does o.Kind = (w38 o != 5) := by
  rw [Bool.eq_iff_iff]
  unfold does w38
  simp only [Bool.and_eq_true, decide_eq_true_eq, bne_iff_ne, ne_eq]
  repeat' split
  all_goals omega
theorem edit_wrong (o : G_api_Op) : f_edit_Wrong o = some (e38 o) := by
  unfold f_edit_Wrong
  rw [edit_does]
  have hd : does o.Kind = !decide (o.Kind < 2 ∨ 12 < o.Kind) := by
    rw [Bool.eq_iff_iff]
    simp only [does, Bool.and_eq_true, decide_eq_true_eq, Bool.not_eq_true', decide_eq_false_iff_not]
    omega
  simp only [bsm, hd, andE_some, orE_some, Bool.not_not]
  unfold e38
  by_cases h : o.Kind < 2 ∨ 12 < o.Kind
  · have e : w38 o = 5 := by unfold w38; rw [if_pos h]
    rw [if_pos (by simpa using h), if_pos e]
  · rw [if_neg (by simpa using h)]
    by_cases h2 : (o.Kind = 3 ∨ o.Kind = 4) ∧ (o.A < 0 ∨ 2 < o.A)
    · have e : w38 o = 3 := by unfold w38; rw [if_neg h, if_pos h2]
      rw [if_pos (by simp only [Bool.and_eq_true, Bool.or_eq_true, decide_eq_true_eq, bne_iff_ne, ne_eq]; omega), e]
      rfl
    · have e : w38 o = 0 := by unfold w38; rw [if_neg h, if_neg h2]
      rw [if_neg (by simp only [Bool.and_eq_true, Bool.or_eq_true, decide_eq_true_eq, bne_iff_ne, ne_eq]; omega), e]
      rfl
theorem code_e38 (o : G_api_Op) : f_api_Code (e38 o) = some (w38 o) := by
  unfold e38
  rcases w38_in o with h | h | h <;> rw [h] <;> rfl
theorem e38_nil (o : G_api_Op) : (e38 o).isNil = (w38 o == 0) := by
  unfold e38
  rcases w38_in o with h | h | h <;> rw [h] <;> rfl
theorem edit_bad (o : G_api_Op) (h : w38 o ≠ 0) (s : Sto) (p : Option Nat) : f_edit_Do s p o = some (s, e38 o) := by
  unfold f_edit_Do
  rw [edit_wrong]
  simp only [bsm, e38_nil]
  rw [if_pos (by simpa using h)]
theorem edit_none (o : G_api_Op) (s : Sto) : f_edit_Do s none o = some (s, e38 o) := by
  by_cases h : w38 o = 0
  · unfold f_edit_Do
    rw [edit_wrong]
    simp only [bsm, e38_nil]
    rw [if_neg (by simp [h])]
    have e : e38 o = Er.nil := by unfold e38; rw [h]; rfl
    rw [e]
    rfl
  · exact edit_bad o h s none

/-! ### rows -/
def lt (r : G_row_Row) : G_api_Line := ⟨r.cells, r.wrap⟩
/-- An erasure of the document's in a row. -/
theorem act38 (h : Pv C s k g W q ks) {i : Nat} (hi : i < ks.length) (x a b : Int) : f_linotyperef38_act q i x a b = some ⟨q.L.set i (lt (ac (q.L.getD i dl).Cells (q.L.getD i dl).Wrap x a b)), q.At, q.Auto⟩ := by
  have hl := h.len
  have hlt : i < q.L.length := by omega
  have hok := h.ok _ (List.getElem_mem hlt)
  have w2 := h.g.w2
  unfold f_linotyperef38_act
  rw [idx_at hlt]
  simp only [bsm]
  rw [ref_act _ _ (by rw [hok.2]; exact w2)]
  simp only [bsm]
  rw [ref_with h hi, gdl hlt]
  rfl
/-- An erasure of the program's in a row. -/
theorem Pv.ac (h : Pv C s k g W q ks) {i : Nat} (hi : i < ks.length) (x a b : Int) : Pv C (s.sr ks[i] (ac (q.L.getD i dl).Cells (q.L.getD i dl).Wrap x a b)) k g W ⟨q.L.set i (lt (Go.Proofs.YthokmpbbkpjhbaaGreatDoor.ac (q.L.getD i dl).Cells (q.L.getD i dl).Wrap x a b)), q.At, q.Auto⟩ ks := by
  have hl := h.len
  have hlt : i < q.L.length := by omega
  have hok := h.ok _ (List.getElem_mem hlt)
  have e : q.L.getD i dl = q.L[i] := gdl hlt
  rw [e]
  exact h.row hi (ac_snd hok.1 x a b) (by rw [ac_len]; exact hok.2)
theorem Pv.rw_ (h : Pv C s k g W q ks) {i : Nat} (hi : i < ks.length) : s.row_Row[ks[i]]? = some ⟨(q.L.getD i dl).Cells, (q.L.getD i dl).Wrap⟩ ∧ Snd (q.L.getD i dl).Cells ∧ (q.L.getD i dl).Cells.length = W := by
  have hl := h.len
  have hlt : i < q.L.length := by omega
  have hok := h.ok _ (List.getElem_mem hlt)
  obtain ⟨r, h1, h2, h3⟩ := h.g.at hi
  have e : q.L[i] = ⟨r.cells, r.wrap⟩ := by rw [h.at hi, ln_eq h1]
  rw [gdl hlt, e]
  exact ⟨h1, h2, h3⟩
def md (mode : Int) : Int := if mode = 0 then 2 else if mode = 1 then 1 else 3
theorem edit_line (h : Pv C s k g W q ks) {i : Nat} (hi : i < ks.length) (hr : q.At.Row = (i : Int)) (mode : Int) : f_edit_line s (some k) mode = some (s.sr ks[i] (ac (q.L.getD i dl).Cells (q.L.getD i dl).Wrap (md mode) q.At.Col 0)) := by
  obtain ⟨r1, r2, r3⟩ := h.rw_ hi
  have w2 := h.g.w2
  unfold f_edit_line md
  simp only [bsm, h.p, hr]
  rw [grid_row h.g hi]
  simp only [bsm]
  by_cases h0 : mode = 0
  · rw [if_pos (by simpa using h0), if_pos h0, erase_right r1 r2 (by omega) _ 0]
    rfl
  · rw [if_neg (by simpa using h0), if_neg h0]
    by_cases h1 : mode = 1
    · rw [if_pos (by simpa using h1), if_pos h1, erase_left r1 r2 (by omega) _ 0]
      rfl
    · rw [if_neg (by simpa using h1), if_neg h1, erase_all r1 r2 (by omega) q.At.Col 0]
      rfl

/-! ### all rows -/
/-- Lines some of which were made blank, up to a place. -/
def eS (cond : Nat → Bool) (L : List G_api_Line) : Nat → List G_api_Line
  | 0 => L
  | i + 1 => if cond i = true then (eS cond L i).set i (lt (ac ((eS cond L i).getD i dl).Cells ((eS cond L i).getD i dl).Wrap 3 0 0)) else eS cond L i
def cnd (mode : Int) (row : Int) (i : Nat) : Bool := mode == 2 || (mode == 0 && decide ((i : Int) > row)) || (mode == 1 && decide ((i : Int) < row))
theorem screen_loop (h : Pv C s k g W q ks) (mode : Int) {H : Int} (hH : H = (ks.length : Int)) : ∃ s', (iter (σ := Int × Sto) (τ := Sto) ((H - 0).toNat + 1) (fun s_12 =>
 if (decide (s_12.1 < H)) = true then
 ((orE (mode == 2) ((andE (mode == 0) ((s_12.2.place_Pen[k]?).bind fun o_32 =>
 some (decide (s_12.1 > o_32.At.Row)))).bind fun d_25 =>
 some d_25)).bind fun d_21 =>
 (orE d_21 ((andE (mode == 1) ((s_12.2.place_Pen[k]?).bind fun o_45 =>
 some (decide (s_12.1 < o_45.At.Row)))).bind fun d_38 =>
 some d_38)).bind fun d_34 =>
 if d_34 = true then
 (s_12.2.place_Pen[k]?).bind fun o_51 =>
 (f_grid_Grid_Row s_12.2 o_51.G s_12.1).bind fun x_53 =>
 (f_erase_All s_12.2 x_53).bind fun x_54 =>
 (some (x_54) : Option (Sto))
 else
 (some (s_12.2) : Option (Sto))).bind fun z_15 =>
 some (.inl ((w64 (s_12.1 + 1)), z_15))
 else
 some (.inr (s_12.2))) (0, s)) = some s' ∧ Pv C s' k g W ⟨eS (cnd mode q.At.Row) q.L ks.length, q.At, q.Auto⟩ ks := by
  subst hH
  have hh := h.g.h2
  refine iter_for (n := ks.length) (fun i st => st.1 = (i : Int) ∧ Pv C st.2 k g W ⟨eS (cnd mode q.At.Row) q.L i, q.At, q.Auto⟩ ks) (fun st => Pv C st k g W ⟨eS (cnd mode q.At.Row) q.L ks.length, q.At, q.Auto⟩ ks) (fun i st hi hI => ?_) (fun st hI => ?_) ⟨rfl, h⟩ (by omega)
  · obtain ⟨i', st⟩ := st
    obtain ⟨e, v⟩ := hI
    simp only at e v
    subst e
    simp only
    rw [if_pos (dlt hi)]
    have hp := v.p
    simp only at hp
    simp only [hp, bsm, andE_some, orE_some]
    rw [w64_succ hi (by omega)]
    by_cases hc : cnd mode q.At.Row i = true
    · rw [if_pos (show (mode == 2 || mode == 0 && decide ((i : Int) > q.At.Row) || mode == 1 && decide ((i : Int) < q.At.Row)) = true from hc), grid_row v.g hi]
      obtain ⟨r1, r2, r3⟩ := v.rw_ hi
      simp only [bsm]
      have w2 := h.g.w2
      rw [erase_all r1 r2 (by omega) 0 0]
      refine .inl ⟨_, rfl, rfl, ?_⟩
      simp only [eS]
      rw [if_pos hc]
      exact v.ac hi 3 0 0
    · rw [if_neg (show ¬ (mode == 2 || mode == 0 && decide ((i : Int) > q.At.Row) || mode == 1 && decide ((i : Int) < q.At.Row)) = true from hc)]
      refine .inl ⟨_, rfl, rfl, ?_⟩
      simp only [eS]
      rw [if_neg hc]
      exact v
  · obtain ⟨i', st⟩ := st
    obtain ⟨e, v⟩ := hI
    simp only at e v
    subst e
    exact ⟨st, by simp, v⟩
theorem lines_loop (h : Pv C s k g W q ks) (kind mode : Int) : (iter (σ := Int × (List G_api_Line) × Int × Int × Bool × Bool) (τ := ((List G_api_Line) × Int × Int × Bool × Bool)) (((q.L.length : Int) - 0).toNat + 1) (fun s_23 =>
 (andE (decide (s_23.1 < (s_23.2.1.length : Int))) (some (kind == 4))).bind fun d_29 =>
 if d_29 = true then
 ((orE (mode == 2) ((andE (mode == 0) (some (decide (s_23.1 > s_23.2.2.1)))).bind fun d_41 =>
 some d_41)).bind fun d_37 =>
 (orE d_37 ((andE (mode == 1) (some (decide (s_23.1 < s_23.2.2.1)))).bind fun d_52 =>
 some d_52)).bind fun d_48 =>
 if d_48 = true then
 (f_linotyperef38_act (⟨s_23.2.1, (⟨s_23.2.2.1, s_23.2.2.2.1, s_23.2.2.2.2.1⟩ : G_api_Cursor), s_23.2.2.2.2.2⟩ : G_linotyperef34_Pen) s_23.1 3 0 0).bind fun x_62 =>
 (some (x_62.L, x_62.At.Row, x_62.At.Col, x_62.At.Pending, x_62.Auto) : Option ((List G_api_Line) × Int × Int × Bool × Bool))
 else
 (some (s_23.2.1, s_23.2.2.1, s_23.2.2.2.1, s_23.2.2.2.2.1, s_23.2.2.2.2.2) : Option ((List G_api_Line) × Int × Int × Bool × Bool))).bind fun z_34 =>
 some (.inl ((w64 (s_23.1 + 1)), z_34.1, z_34.2.1, z_34.2.2.1, z_34.2.2.2.1, z_34.2.2.2.2))
 else
 some (.inr (s_23.2.1, s_23.2.2.1, s_23.2.2.2.1, s_23.2.2.2.2.1, s_23.2.2.2.2.2))) (0, q.L, q.At.Row, q.At.Col, q.At.Pending, q.Auto)) =
    some (if kind = 4 then eS (cnd mode q.At.Row) q.L ks.length else q.L, q.At.Row, q.At.Col, q.At.Pending, q.Auto) := by
  have hh := h.g.h2
  have hl := h.len
  by_cases hk : kind = 4
  · subst hk
    rw [if_pos rfl]
    obtain ⟨t, h1, h2⟩ := iter_for (σ := Int × (List G_api_Line) × Int × Int × Bool × Bool) (τ := ((List G_api_Line) × Int × Int × Bool × Bool)) (n := ks.length) (fuel := ((q.L.length : Int) - 0).toNat + 1) (s := (0, q.L, q.At.Row, q.At.Col, q.At.Pending, q.Auto))
      (fun i st => st = ((i : Int), eS (cnd mode q.At.Row) q.L i, q.At.Row, q.At.Col, q.At.Pending, q.Auto) ∧ ∃ s', Pv C s' k g W ⟨eS (cnd mode q.At.Row) q.L i, q.At, q.Auto⟩ ks) (fun t => t = (eS (cnd mode q.At.Row) q.L ks.length, q.At.Row, q.At.Col, q.At.Pending, q.Auto))
      (step := fun s_23 =>
 (andE (decide (s_23.1 < (s_23.2.1.length : Int))) (some ((4 : Int) == 4))).bind fun d_29 =>
 if d_29 = true then
 ((orE (mode == 2) ((andE (mode == 0) (some (decide (s_23.1 > s_23.2.2.1)))).bind fun d_41 =>
 some d_41)).bind fun d_37 =>
 (orE d_37 ((andE (mode == 1) (some (decide (s_23.1 < s_23.2.2.1)))).bind fun d_52 =>
 some d_52)).bind fun d_48 =>
 if d_48 = true then
 (f_linotyperef38_act (⟨s_23.2.1, (⟨s_23.2.2.1, s_23.2.2.2.1, s_23.2.2.2.2.1⟩ : G_api_Cursor), s_23.2.2.2.2.2⟩ : G_linotyperef34_Pen) s_23.1 3 0 0).bind fun x_62 =>
 (some (x_62.L, x_62.At.Row, x_62.At.Col, x_62.At.Pending, x_62.Auto) : Option ((List G_api_Line) × Int × Int × Bool × Bool))
 else
 (some (s_23.2.1, s_23.2.2.1, s_23.2.2.2.1, s_23.2.2.2.2.1, s_23.2.2.2.2.2) : Option ((List G_api_Line) × Int × Int × Bool × Bool))).bind fun z_34 =>
 some (.inl ((w64 (s_23.1 + 1)), z_34.1, z_34.2.1, z_34.2.2.1, z_34.2.2.2.1, z_34.2.2.2.2))
 else
 some (.inr (s_23.2.1, s_23.2.2.1, s_23.2.2.2.1, s_23.2.2.2.2.1, s_23.2.2.2.2.2)))
      (fun i st hi hI => by
        obtain ⟨rfl, s', v⟩ := hI
        have hvl : (eS (cnd mode q.At.Row) q.L i).length = ks.length := v.len
        simp only [andE_some, bsm, orE_some]
        rw [if_pos (by simp [hvl, hi]), w64_succ hi (by omega)]
        by_cases hc : cnd mode q.At.Row i = true
        · rw [if_pos (show (mode == 2 || mode == 0 && decide ((i : Int) > q.At.Row) || mode == 1 && decide ((i : Int) < q.At.Row)) = true from hc)]
          have ha := act38 v hi 3 0 0
          rw [show (⟨eS (cnd mode q.At.Row) q.L i, ⟨q.At.Row, q.At.Col, q.At.Pending⟩, q.Auto⟩ : G_linotyperef34_Pen) = ⟨eS (cnd mode q.At.Row) q.L i, q.At, q.Auto⟩ from rfl, ha]
          refine .inl ⟨_, rfl, ?_, s'.sr ks[i] (ac ((eS (cnd mode q.At.Row) q.L i).getD i dl).Cells ((eS (cnd mode q.At.Row) q.L i).getD i dl).Wrap 3 0 0), ?_⟩
          · simp only [eS]
            rw [if_pos hc]
          · simp only [eS]
            rw [if_pos hc]
            exact v.ac hi 3 0 0
        · rw [if_neg (show ¬ (mode == 2 || mode == 0 && decide ((i : Int) > q.At.Row) || mode == 1 && decide ((i : Int) < q.At.Row)) = true from hc)]
          refine .inl ⟨_, rfl, ?_, s', ?_⟩
          · simp only [eS]
            rw [if_neg hc]
          · simp only [eS]
            rw [if_neg hc]
            exact v)
      (fun st hI => by
        obtain ⟨rfl, s', v⟩ := hI
        have hvl : (eS (cnd mode q.At.Row) q.L ks.length).length = ks.length := v.len
        refine ⟨_, ?_, rfl⟩
        simp only [andE_some, bsm]
        rw [if_neg (by simp [hvl])])
      ⟨rfl, s, h⟩ (by omega)
    rw [h1, h2]
  · rw [if_neg hk]
    have hf : (kind == 4) = false := by simpa using hk
    rw [show ((q.L.length : Int) - 0).toNat + 1 = q.L.length + 1 by omega]
    simp only [iter, hf, andE_some, Bool.and_false, bsm, Bool.false_eq_true, if_false]

/-! ### the edits -/
/-- Blanks put in, or cells taken out, by the document. -/
theorem with38 (h : Pv C s k g W q ks) {i : Nat} (hi : i < ks.length) {c : List G_api_Cell} {done : Bool} {r : G_row_Row} (hc : c = r.cells) (hd : done = true → r.wrap = false) (hn : done = false → r = ⟨(q.L.getD i dl).Cells, (q.L.getD i dl).Wrap⟩) {z : G_linotyperef34_Pen} (hz : z = q) :
    (if done = true then (f_linotyperef34_Pen_With z i ⟨c, false⟩).bind fun x_172 => (some (x_172.L, x_172.At.Row, x_172.At.Col, x_172.At.Pending, x_172.Auto) : Option ((List G_api_Line) × Int × Int × Bool × Bool))
     else (some (z.L, z.At.Row, z.At.Col, z.At.Pending, z.Auto) : Option ((List G_api_Line) × Int × Int × Bool × Bool))) = some (q.L.set i (lt r), q.At.Row, q.At.Col, q.At.Pending, q.Auto) := by
  subst hz hc
  have hl := h.len
  cases done with
  | true =>
    rw [if_pos rfl, ref_with h hi]
    simp only [bsm]
    unfold lt
    rw [hd rfl]
  | false =>
    rw [if_neg (by simp), hn rfl]
    unfold lt
    rw [gdl (show i < z.L.length by omega), List.set_getElem_self]
theorem ish_done {l : List G_api_Cell} {w : Bool} {a b : Int} : (mvs a b l.length = true → (ish l w a b).wrap = false) ∧ (mvs a b l.length = false → ish l w a b = ⟨l, w⟩) := by
  unfold ish
  refine ⟨fun h => by rw [if_pos h], fun h => by rw [if_neg (by rw [h]; simp)]⟩
theorem dsh_done {l : List G_api_Cell} {w : Bool} {a b : Int} : (mvs a b l.length = true → (dsh l w a b).wrap = false) ∧ (mvs a b l.length = false → dsh l w a b = ⟨l, w⟩) := by
  unfold dsh
  refine ⟨fun h => by rw [if_pos h], fun h => by rw [if_neg (by rw [h]; simp)]⟩
theorem lines38 (h : Pv C s k g W q ks) {i : Nat} (hi : i < ks.length) (hr : q.At.Row = (i : Int)) (kind : Int) {mode : Int} (hm : 0 ≤ mode ∧ mode ≤ 2) : ∃ L1, L1 = q.L.set i (lt (ac (q.L.getD i dl).Cells (q.L.getD i dl).Wrap (md mode) q.At.Col 0)) ∧
    f_linotyperef38_lines q kind mode = some ⟨if kind = 4 then eS (cnd mode q.At.Row) L1 ks.length else L1, q.At, q.Auto⟩ := by
  refine ⟨_, rfl, ?_⟩
  unfold f_linotyperef38_lines
  have hidx : idx ([2, 1, 3] : List Int) mode = some (md mode) := by
    have : mode = 0 ∨ mode = 1 ∨ mode = 2 := by omega
    rcases this with e | e | e <;> rw [e] <;> rfl
  have v := h.ac hi (md mode) q.At.Col 0
  have e0 : f_linotyperef38_act q q.At.Row (md mode) q.At.Col 0 = some ⟨q.L.set i (lt (ac (q.L.getD i dl).Cells (q.L.getD i dl).Wrap (md mode) q.At.Col 0)), q.At, q.Auto⟩ := by
    rw [hr]
    exact act38 h hi _ _ _
  rw [hidx]
  simp only [bsm]
  rw [e0]
  simp only [bsm]
  have := lines_loop v kind mode
  simp only at this
  rw [this]
  rfl
theorem edit_eq (h : Pv C s k g W q ks) (o : G_api_Op) (hw : w38 o = 0) : ∃ s' q' ks', f_edit_Do s (some k) o = some (s', Er.nil) ∧ f_linotyperef38_Do q o = some q' ∧ Pv C s' k g W q' ks' ∧ ks'.length = ks.length ∧ Hd q'.At W ks.length ∧ q'.At.Pending = false := by
  have hh := h.g.h2
  have h1 := h.g.h1
  have w1 := h.g.w1
  have w2 := h.g.w2
  have hkind : 2 ≤ o.Kind ∧ o.Kind ≤ 12 := by
    unfold w38 at hw
    split at hw
    · cases hw
    · omega
  have hmode : (o.Kind = 3 ∨ o.Kind = 4) → 0 ≤ o.A ∧ o.A ≤ 2 := fun e => by
    unfold w38 at hw
    rw [if_neg (by omega)] at hw
    split at hw
    · cases hw
    · omega
  have hnil : e38 o = Er.nil := by unfold e38; rw [hw]; rfl
  have hd0 := hc_hd q.At w1 h1
  -- the pen with its cursor held
  have hv : Pv C (s.sp k ⟨some g, ⟨(hc q.At W ks.length).Row, (hc q.At W ks.length).Col, false⟩, q.Auto⟩) k g W ⟨q.L, ⟨(hc q.At W ks.length).Row, (hc q.At W ks.length).Col, false⟩, q.Auto⟩ ks := h.set _ _
  have hd : Hd ⟨(hc q.At W ks.length).Row, (hc q.At W ks.length).Col, false⟩ W ks.length := ⟨hd0.rr, hd0.cc, fun e => by cases e⟩
  unfold f_edit_Do f_linotyperef38_Do
  rw [edit_wrong, hnil, ref_Hold h]
  simp only [bsm, Er.isNil, Bool.not_true, Bool.false_eq_true, if_false, Option.isNone_some, orE_false, h.p]
  rw [grid_wide h.g, grid_high h.g]
  simp only [bsm]
  rw [cur_hold _ w1 w2 h1 hh]
  simp only [bsm]
  rw [set_pen (get_lt h.p)]
  simp only [bsm]
  rw [set_pen (by simp [Sto.sp]; exact get_lt h.p), sp_sp]
  simp only [bsm]
  generalize hc q.At W ks.length = c at *
  obtain ⟨i, hi⟩ : ∃ i : Nat, c.Row = (i : Int) := ⟨c.Row.toNat, by have := hd.rr; simp only at this; omega⟩
  have hik : i < ks.length := by have := hd.rr; simp only at this; omega
  have hlen := hv.len
  simp only at hlen
  obtain ⟨c1, c2, c3⟩ := c
  simp only at hi hv hd
  subst hi
  simp only
  rw [idx_at (show i < q.L.length by omega)]
  simp only [bsm]
  generalize s.sp k ⟨some g, ⟨(i : Int), c2, false⟩, q.Auto⟩ = s1 at *
  obtain ⟨L, ⟨_, _, _⟩, au⟩ := q
  simp only at hv hlen ⊢
  obtain ⟨r1, r2, r3⟩ := hv.rw_ hik
  simp only at r1 r2 r3
  obtain ⟨kd_, A, B, bs⟩ := o
  simp only at hkind hmode ⊢
  have hcell : L[i]'(by omega) = L.getD i dl := (gdl (by omega)).symm
  rw [hcell]
  have : kd_ = 2 ∨ kd_ = 3 ∨ kd_ = 4 ∨ kd_ = 5 ∨ kd_ = 6 ∨ kd_ = 7 ∨ kd_ = 8 ∨ kd_ = 9 ∨ kd_ = 10 ∨ kd_ = 11 ∨ kd_ = 12 := by omega
  have hcc := hd.cc
  simp only at hcc
  rcases this with e | e | e | e | e | e | e | e | e | e | e <;> subst e <;> simp only [Int.reduceBEq, Bool.false_eq_true, if_false, if_true, bsm]
  · -- the cursor moved
    unfold f_edit_cells
    simp only [bsm, hv.p]
    rw [grid_row hv.g hik]
    simp only [bsm, Int.reduceBEq, if_true]
    rw [grid_wide hv.g, grid_high hv.g]
    simp only [bsm]
    unfold f_cursor_Move
    rw [cur_hold _ w1 w2 h1 hh, ref_wide hv, hlen]
    simp only [bsm]
    rw [ref_hold _ w1 w2 h1 hh, set_pen (get_lt hv.p)]
    exact ⟨_, _, ks, rfl, rfl, hv.set (hc ⟨A, B, false⟩ W ks.length) au, rfl, hc_hd _ w1 h1, by simp [hc]⟩
  · -- a row's part
    have hm := hmode (.inl rfl)
    obtain ⟨L1, e1, e2⟩ := lines38 hv hik rfl 3 hm
    simp only at e1
    rw [e2]
    unfold f_edit_cells
    simp only [bsm, hv.p]
    rw [grid_row hv.g hik]
    simp only [bsm, Int.reduceBEq, Bool.false_eq_true, if_false, if_true]
    rw [edit_line hv hik rfl A]
    refine ⟨_, _, ks, rfl, rfl, ?_, rfl, hd, rfl⟩
    have := hv.ac hik (md A) c2 0
    simp only at this
    rw [if_neg (by decide), e1]
    exact this
  · -- all rows
    have hm := hmode (.inr rfl)
    obtain ⟨L1, e1, e2⟩ := lines38 hv hik rfl 4 hm
    simp only at e1
    rw [e2]
    unfold f_edit_cells
    simp only [bsm, hv.p]
    rw [grid_row hv.g hik]
    simp only [bsm, Int.reduceBEq, Bool.false_eq_true, if_false, if_true]
    unfold f_edit_screen
    rw [edit_line hv hik rfl A]
    have hv2 := hv.ac hik (md A) c2 0
    simp only at hv2
    rw [← e1] at hv2
    simp only [bsm, hv2.p]
    rw [grid_high hv2.g]
    simp only [bsm]
    obtain ⟨s', l1, l2⟩ := screen_loop hv2 A rfl
    rw [l1]
    exact ⟨_, _, ks, rfl, rfl, l2, rfl, hd, rfl⟩
  · -- cells
    unfold f_edit_cells
    simp only [bsm, hv.p]
    rw [grid_row hv.g hik]
    simp only [bsm, Int.reduceBEq, Bool.false_eq_true, if_false, if_true]
    rw [erase_cells r1 r2 (by omega), act38 hv hik]
    exact ⟨_, _, ks, rfl, rfl, hv.ac hik 4 c2 A, rfl, hd, rfl⟩
  · -- put in
    have hsn := ish_snd (w := (L.getD i dl).Wrap) r2 c2 A
    have hlw := ish_len (l := (L.getD i dl).Cells) (w := (L.getD i dl).Wrap) c2 A
    have hdn := ish_done (l := (L.getD i dl).Cells) (w := (L.getD i dl).Wrap) (a := c2) (b := A)
    unfold f_edit_cells
    simp only [bsm, hv.p]
    rw [grid_row hv.g hik]
    simp only [bsm, Int.reduceBEq, Bool.false_eq_true, if_false, if_true]
    rw [shift_ins r1 r2 (by omega), ref_ins (by omega) _ _ (L.getD i dl).Wrap]
    simp only [bsm]
    have := with38 hv hik (c := (ish (L.getD i dl).Cells (L.getD i dl).Wrap c2 A).cells) (done := mvs c2 A (L.getD i dl).Cells.length) (r := ish (L.getD i dl).Cells (L.getD i dl).Wrap c2 A) rfl hdn.1 hdn.2 rfl
    simp only at this
    rw [this]
    exact ⟨_, _, ks, rfl, rfl, hv.row hik hsn (by rw [hlw]; exact r3), rfl, hd, rfl⟩
  · -- taken out
    have hsn := dsh_snd (w := (L.getD i dl).Wrap) r2 c2 A
    have hlw := dsh_len (l := (L.getD i dl).Cells) (w := (L.getD i dl).Wrap) c2 A
    have hdn := dsh_done (l := (L.getD i dl).Cells) (w := (L.getD i dl).Wrap) (a := c2) (b := A)
    unfold f_edit_cells
    simp only [bsm, hv.p]
    rw [grid_row hv.g hik]
    simp only [bsm, Int.reduceBEq, Bool.false_eq_true, if_false, if_true]
    rw [shift_del r1 r2 (by omega), ref_del (by omega) _ _ (L.getD i dl).Wrap]
    simp only [bsm]
    have := with38 hv hik (c := (dsh (L.getD i dl).Cells (L.getD i dl).Wrap c2 A).cells) (done := mvs c2 A (L.getD i dl).Cells.length) (r := dsh (L.getD i dl).Cells (L.getD i dl).Wrap c2 A) rfl hdn.1 hdn.2 rfl
    simp only at this
    rw [this]
    exact ⟨_, _, ks, rfl, rfl, hv.row hik hsn (by rw [hlw]; exact r3), rfl, hd, rfl⟩
  · -- lines put in
    obtain ⟨s', ks', u1, ⟨u2, u3, u4, u5⟩, u6, u7⟩ := down_eq2 hv.g hv.nd (i : Int) (ks.length : Int) A
    have hm := ref_move (W := W) (L := L) (by omega) w2 (fun x hx => (hv.ok x hx).2) (i : Int) (ks.length : Int) A false
    rw [hlen] at hm ⊢
    unfold f_edit_rows
    simp only [bsm, hv.p]
    rw [grid_high hv.g]
    simp only [bsm, Int.reduceBEq, Bool.false_eq_true, if_false, if_true]
    rw [u1, hm]
    have hp : s'.place_Pen[k]? = some ⟨some g, ⟨(i : Int), c2, false⟩, au⟩ := by rw [rst_pen u6]; exact hv.p
    simp only [bsm, hp, f_cursor_Return]
    rw [set_pen (get_lt hp)]
    refine ⟨_, _, ks', rfl, rfl, ⟨sp_get (get_lt hp), u2.sp _ _, u3, ?_, (rst_oth u6).trans hv.o, (hv.f.step u7 (rst_pen u6)).sp _⟩, u4, ⟨hd.rr, by simp only; omega, fun e => by cases e⟩, rfl⟩
    exact u5.trans (by rw [hv.l])
  · -- lines taken out
    obtain ⟨s', ks', u1, ⟨u2, u3, u4, u5⟩, u6, u7⟩ := up_eq2 hv.g hv.nd (i : Int) (ks.length : Int) A
    have hm := ref_move (W := W) (L := L) (by omega) w2 (fun x hx => (hv.ok x hx).2) (i : Int) (ks.length : Int) A true
    rw [hlen] at hm ⊢
    unfold f_edit_rows
    simp only [bsm, hv.p]
    rw [grid_high hv.g]
    simp only [bsm, Int.reduceBEq, Bool.false_eq_true, if_false, if_true]
    rw [u1, hm]
    have hp : s'.place_Pen[k]? = some ⟨some g, ⟨(i : Int), c2, false⟩, au⟩ := by rw [rst_pen u6]; exact hv.p
    simp only [bsm, hp, f_cursor_Return]
    rw [set_pen (get_lt hp)]
    refine ⟨_, _, ks', rfl, rfl, ⟨sp_get (get_lt hp), u2.sp _ _, u3, ?_, (rst_oth u6).trans hv.o, (hv.f.step u7 (rst_pen u6)).sp _⟩, u4, ⟨hd.rr, by simp only; omega, fun e => by cases e⟩, rfl⟩
    exact u5.trans (by rw [hv.l])
  · -- up
    obtain ⟨s', ks', u1, ⟨u2, u3, u4, u5⟩, u6, u7⟩ := up_eq2 hv.g hv.nd 0 (ks.length : Int) A
    have hm := ref_move (W := W) (L := L) (by omega) w2 (fun x hx => (hv.ok x hx).2) 0 (ks.length : Int) A true
    rw [hlen] at hm ⊢
    unfold f_edit_rows
    simp only [bsm, hv.p]
    rw [grid_high hv.g]
    simp only [bsm, Int.reduceBEq, Bool.false_eq_true, if_false, if_true]
    rw [u1, hm]
    refine ⟨_, _, ks', rfl, rfl, ⟨by rw [rst_pen u6]; exact hv.p, u2, u3, ?_, (rst_oth u6).trans hv.o, hv.f.step u7 (rst_pen u6)⟩, u4, hd, rfl⟩
    exact u5.trans (by rw [hv.l])
  · -- down
    obtain ⟨s', ks', u1, ⟨u2, u3, u4, u5⟩, u6, u7⟩ := down_eq2 hv.g hv.nd 0 (ks.length : Int) A
    have hm := ref_move (W := W) (L := L) (by omega) w2 (fun x hx => (hv.ok x hx).2) 0 (ks.length : Int) A false
    rw [hlen] at hm ⊢
    unfold f_edit_rows
    simp only [bsm, hv.p]
    rw [grid_high hv.g]
    simp only [bsm, Int.reduceBEq, Bool.false_eq_true, if_false, if_true]
    rw [u1, hm]
    refine ⟨_, _, ks', rfl, rfl, ⟨by rw [rst_pen u6]; exact hv.p, u2, u3, ?_, (rst_oth u6).trans hv.o, hv.f.step u7 (rst_pen u6)⟩, u4, hd, rfl⟩
    exact u5.trans (by rw [hv.l])
  · -- whether rows go on
    unfold f_edit_cells
    simp only [bsm, hv.p]
    rw [grid_row hv.g hik]
    simp only [bsm, Int.reduceBEq, Bool.false_eq_true, if_false, if_true]
    rw [set_pen (get_lt hv.p)]
    exact ⟨_, _, ks, rfl, rfl, hv.set ⟨(i : Int), c2, false⟩ (A != 0), rfl, hd, rfl⟩
/-- An edit whose pen then is known. -/
theorem edit_at (h : Pv C s k g W q ks) {o : G_api_Op} (hw : w38 o = 0) {q2 : G_linotyperef34_Pen} (hr : f_linotyperef38_Do q o = some q2) : ∃ s' ks', f_edit_Do s (some k) o = some (s', Er.nil) ∧ Pv C s' k g W q2 ks' ∧ ks'.length = ks.length := by
  obtain ⟨s', q', ks', a1, a2, a3, a4, _⟩ := edit_eq h o hw
  rw [hr] at a2
  cases a2
  exact ⟨s', ks', a1, a3, a4⟩
end Go.Proofs.YthokmpbbkpjhbaaGreatDoor
