/-
  Rows and paint, in plain Lean: what the walks compute of the store's rows. Conditions: strips are sound, and no longer than a row may be.
-/
import Derived.Test.YthokmpbbkpjhbaaGreatDoorPb
namespace Go.Proofs.YthokmpbbkpjhbaaGreatDoor
open Go Go.Lt

/-! ### the store's rows -/
def Sto.sr (s : Sto) (k : Nat) (x : G_row_Row) : Sto := { s with row_Row := s.row_Row.set k x }
theorem get_lt {α : Type} {l : List α} {k : Nat} {x : α} (h : l[k]? = some x) : k < l.length := (List.getElem?_eq_some_iff.1 h).1
theorem set_row {s : Sto} {k : Nat} {x : G_row_Row} (h : k < s.row_Row.length) : s.set_row_Row k x = some (s.sr k x) := by
  unfold Sto.set_row_Row
  rw [if_pos h]
  rfl
theorem sr_len (s : Sto) (k : Nat) (x : G_row_Row) : (s.sr k x).row_Row.length = s.row_Row.length := by simp [Sto.sr]
theorem sr_get {s : Sto} {k : Nat} {x : G_row_Row} (h : k < s.row_Row.length) : (s.sr k x).row_Row[k]? = some x := by simp [Sto.sr, h]
theorem sr_ne {s : Sto} {k j : Nat} {x : G_row_Row} (h : k ≠ j) : (s.sr k x).row_Row[j]? = s.row_Row[j]? := by simp [Sto.sr, h]
theorem sr_sr (s : Sto) (k : Nat) (x y : G_row_Row) : (s.sr k x).sr k y = s.sr k y := by simp [Sto.sr]
theorem sr_id {s : Sto} {k : Nat} {x : G_row_Row} (h : s.row_Row[k]? = some x) : s.sr k x = s := by
  have : s.row_Row.set k x = s.row_Row := by
    apply List.ext_getElem?
    intro j
    by_cases hj : k = j
    · subst hj; rw [List.getElem?_set_self (get_lt h), h]
    · rw [List.getElem?_set_ne hj]
  simp [Sto.sr, this]
theorem add_get (s : Sto) (x : G_row_Row) : (s.add_row_Row x).row_Row[s.row_Row.length]? = some x := by simp [Sto.add_row_Row]
theorem add_sr (s : Sto) (x y : G_row_Row) : (s.add_row_Row x).sr s.row_Row.length y = s.add_row_Row y := by simp [Sto.sr, Sto.add_row_Row]

variable {s : Sto} {k : Nat} {l : List G_api_Cell} {w : Bool}

theorem row_wide (h : s.row_Row[k]? = some ⟨l, w⟩) : f_row_Row_Wide s (some k) = some (l.length : Int) := by simp [f_row_Row_Wide, h]
theorem row_wide0 : f_row_Row_Wide s none = some 0 := rfl
theorem row_own {c : G_api_Cell} (h : c.Text.length ≤ 1000000) : f_row_own c = some c := by
  simp only [f_row_own, f_slices_Clone, app_eq (show ([] : List Int).length + c.Text.length ≤ 1099511627776 by simp; omega), bsm, List.nil_append]
theorem row_wrap (h : s.row_Row[k]? = some ⟨l, w⟩) : f_row_Row_Wrap s (some k) = some w := by simp [f_row_Row_Wrap, h, andE]
theorem row_goon (h : s.row_Row[k]? = some ⟨l, w⟩) (on : Bool) : f_row_Row_GoOn s (some k) on = some (s.sr k ⟨l, on⟩) := by
  simp [f_row_Row_GoOn, h, set_row (get_lt h)]
theorem row_cells (h : s.row_Row[k]? = some ⟨l, w⟩) (hl : l.length ≤ 1000000) (hs : Sht l) : f_row_Row_Cells s (some k) = some l := by
  unfold f_row_Row_Cells
  rw [row_wide h]
  simp only [bsm]
  rw [iter_eq (s := (([] : List G_api_Cell), (0 : Int))) (t := l) (fun st : List G_api_Cell × Int => ∃ i : Nat, st = (l.take i, (i : Int)) ∧ i ≤ l.length) (fun st => l.length - st.2.toNat) ?_ ⟨0, rfl, Nat.zero_le _⟩ (by simp)]
  · rfl
  · rintro st ⟨i, rfl, hi⟩
    rcases Nat.lt_or_ge i l.length with hlt | hge
    · refine .inl ⟨(l.take (i + 1), ((i + 1 : Nat) : Int)), ?_, ⟨i + 1, rfl, hlt⟩, by simp; omega⟩
      have e3 : w64 ((i : Int) + 1) = ((i + 1 : Nat) : Int) := by rw [w64_in (by omega)]; simp
      simp only [Int.ofNat_lt, hlt, decide_true, if_true, bsm, h, idx_at hlt, row_own (hs i hlt), e3]
      rw [app_eq (by rw [List.length_take]; simp; omega), List.take_succ_eq_append_getElem hlt]
      rfl
    · obtain rfl : i = l.length := by omega
      exact .inr (by simp)
theorem row_cells0 : f_row_Row_Cells s none = some [] := by
  unfold f_row_Row_Cells
  rw [row_wide0]
  rfl
theorem row_cell (h : s.row_Row[k]? = some ⟨l, w⟩) {i : Nat} (hi : i < l.length) (hs : Sht l) : f_row_Row_Cell s (some k) i = some (l[i], true) := by
  unfold f_row_Row_Cell
  rw [row_wide h]
  simp only [bsm, orE_some]
  rw [if_neg (by simp; omega)]
  simp only [h, bsm, idx_at hi, row_own (hs i hi)]
theorem row_kind (h : s.row_Row[k]? = some ⟨l, w⟩) (i : Nat) : f_row_Row_kind s (some k) i = some (kd l i) := by
  unfold f_row_Row_kind
  rw [row_wide h]
  simp only [bsm, orE_some]
  by_cases hi : i < l.length
  · rw [if_neg (by simp; omega)]
    simp only [h, bsm, idx_at hi, kd_at hi]
  · rw [if_pos (by simp; omega), kd_out (by omega)]
theorem row_put (h : s.row_Row[k]? = some ⟨l, w⟩) {i : Nat} (hi : i < l.length) (hl : l.length ≤ 1000000) {c : G_api_Cell} (hc : c.Text.length ≤ 1000000) :
    f_row_Row_put s (some k) i c = some (s.sr k ⟨l.set i c, w && !decide (i + 1 = l.length)⟩) := by
  unfold f_row_Row_put
  have e : w64 (((l.set i c).length : Int) - 1) = (l.length : Int) - 1 := by rw [List.length_set, w64_in (by omega)]
  simp only [h, bsm, row_own hc, idx_at hi, sets_nat hi, set_row (get_lt h), e]
  by_cases hn : i + 1 = l.length
  · rw [if_pos (by simp; omega), set_row (by rw [sr_len]; exact get_lt h), sr_sr]
    simp [hn]
  · rw [if_neg (by simp; omega)]
    simp [hn]

/-! ### new rows -/
/-- A side as it counts. -/
def sd (n : Int) : Nat := (max 1 (min n 1024)).toNat
theorem sd_in (n : Int) : 1 ≤ sd n ∧ sd n ≤ 1024 := by unfold sd; omega
theorem sd_id {n : Nat} (h : 1 ≤ n) (h2 : n ≤ 1024) : sd n = n := by unfold sd; omega
theorem blanks (n : Int) : f_cell_Blanks n = some (List.replicate (max 0 (min n 1024)).toNat bl) := by
  unfold f_cell_Blanks
  simp only [imax_eq, imin_eq]
  rw [rep_eq _ (by omega)]
  rfl
theorem row_new (n : Int) : f_row_New s n = some (s.add_row_Row ⟨List.replicate (sd n) bl, false⟩, some s.row_Row.length) := by
  unfold f_row_New
  rw [blanks]
  simp only [bsm, imax_eq]
  rw [show (max 0 (min (max 1 n) 1024)).toNat = sd n by unfold sd; omega]
theorem snd_bl (n : Nat) : Snd (List.replicate n bl) := fun i h => by
  rw [List.getElem_replicate]
  exact ⟨rfl, fun h => by simp [bl] at h, fun h => by simp [bl] at h⟩
theorem row_of (hl : 1 ≤ l.length) (hl2 : l.length ≤ 1024) (hs : Snd l) : f_row_Of s l = some (s.add_row_Row ⟨l, false⟩, some s.row_Row.length, Er.nil) := by
  unfold f_row_Of
  obtain ⟨b, h1, h2⟩ := cell_sound l (by omega)
  have hb : b = true := h2.2 hs
  subst hb
  simp only [orE_some, bsm, h1]
  rw [if_neg (by rw [Bool.or_eq_true, beq_iff_eq, decide_eq_true_eq]; omega), if_neg (by simp), row_new, sd_id hl hl2]
  simp only [bsm]
  rw [iter_eq (s := ((0 : Int), s.add_row_Row ⟨List.replicate l.length bl, false⟩)) (t := s.add_row_Row ⟨l, false⟩) (fun st : Int × Sto => ∃ i : Nat, st = ((i : Int), s.add_row_Row ⟨l.take i ++ List.replicate (l.length - i) bl, false⟩) ∧ i ≤ l.length) (fun st => l.length - st.1.toNat) ?_ ⟨0, by simp, Nat.zero_le _⟩ (by simp)]
  · rfl
  · rintro st ⟨i, rfl, hi⟩
    rcases Nat.lt_or_ge i l.length with hlt | hge
    · refine .inl ⟨_, ?_, ⟨i + 1, rfl, hlt⟩, by simp; omega⟩
      have e3 : w64 ((i : Int) + 1) = ((i + 1 : Nat) : Int) := by rw [w64_in (by omega)]; simp
      have hlen : (l.take i ++ List.replicate (l.length - i) bl).length = l.length := by simp; omega
      simp only [Int.ofNat_lt, hlt, decide_true, if_true, idx_at hlt, bsm, add_get, row_own (hs.sht i hlt), e3]
      rw [idx_at (show i < (l.take i ++ List.replicate (l.length - i) bl).length by omega)]
      simp only [bsm]
      rw [sets_nat (show i < (l.take i ++ List.replicate (l.length - i) bl).length by omega)]
      simp only [bsm]
      rw [set_row (get_lt (add_get _ _)), add_sr]
      simp only [bsm]
      have : (l.take i ++ List.replicate (l.length - i) bl).set i l[i] = l.take (i + 1) ++ List.replicate (l.length - (i + 1)) bl := by
        rw [List.set_append_right _ _ (by rw [List.length_take]; omega), List.length_take, Nat.min_eq_left hi, Nat.sub_self, show l.length - i = (l.length - (i + 1)) + 1 by omega, List.replicate_succ, List.set_cons_zero, List.take_succ_eq_append_getElem hlt, List.append_assoc]
        rfl
      rw [this]
    · obtain rfl : i = l.length := by omega
      exact .inr (by simp)
theorem row_of_long (hl : l.length = 0 ∨ 1024 < l.length) : f_row_Of s l = some (s, none, Er.sent 0) := by
  unfold f_row_Of
  simp only [orE_some, bsm]
  rw [if_pos (by rw [Bool.or_eq_true, beq_iff_eq, decide_eq_true_eq]; omega)]
theorem row_of_torn (hl : 1 ≤ l.length) (hl2 : l.length ≤ 1024) (hs : ¬ Snd l) : f_row_Of s l = some (s, none, Er.sent 4) := by
  unfold f_row_Of
  obtain ⟨b, h1, h2⟩ := cell_sound l (by omega)
  have hb : b = false := by cases b with | false => rfl | true => exact absurd (h2.1 rfl) hs
  subst hb
  simp only [orE_some, bsm, h1]
  rw [if_neg (by rw [Bool.or_eq_true, beq_iff_eq, decide_eq_true_eq]; omega), if_pos (by simp)]

/-! ### paint -/
/-- Is place j painted, or torn? -/
def tch (l : List G_api_Cell) (a n j : Nat) : Bool := (decide (a ≤ j) && decide (j < a + n)) || (decide (kd l j = 2) && decide (a ≤ j + 1) && decide (j + 1 < a + n)) || (decide (kd l j = 3) && decide (a + 1 ≤ j) && decide (j < a + n + 1))
def pc (l : List G_api_Cell) (a : Nat) (p : List G_api_Cell) (j : Nat) : G_api_Cell :=
  if a ≤ j ∧ j < a + p.length then p.getD (j - a) bl else if tch l a p.length j = true then bl else l.getD j bl
def pl (l : List G_api_Cell) (a : Nat) (p : List G_api_Cell) : List G_api_Cell := (List.range l.length).map (pc l a p)
def pw (l : List G_api_Cell) (w : Bool) (a n : Nat) : Bool := w && !(decide (0 < l.length) && tch l a n (l.length - 1))
theorem pl_len (l : List G_api_Cell) (a : Nat) (p : List G_api_Cell) : (pl l a p).length = l.length := by simp [pl]
theorem pl_get {a : Nat} {p : List G_api_Cell} {j : Nat} (h : j < l.length) : (pl l a p)[j]? = some (pc l a p j) := by simp [pl, h]
theorem pl_at {a : Nat} {p : List G_api_Cell} {j : Nat} (h : j < (pl l a p).length) : (pl l a p)[j] = pc l a p j := by simp [pl]
theorem kd_pl {a : Nat} {p : List G_api_Cell} {j : Nat} (h : j < l.length) : kd (pl l a p) j = (pc l a p j).Kind := by simp [kd, pl_get h]
theorem pl_nil (a : Nat) : pl l a [] = l := by
  apply List.ext_getElem?
  intro j
  rcases Nat.lt_or_ge j l.length with h | h
  · rw [pl_get h]
    have h1 : ¬ (a ≤ j ∧ j < a + ([] : List G_api_Cell).length) := by simp
    have h2 : ¬ tch l a ([] : List G_api_Cell).length j = true := by
      simp only [tch, List.length_nil, Bool.or_eq_true, Bool.and_eq_true, decide_eq_true_eq]; omega
    rw [pc, if_neg h1, if_neg h2, List.getElem?_eq_getElem h]
    simp [List.getD_eq_getElem?_getD, h]
  · rw [List.getElem?_eq_none h, List.getElem?_eq_none (by rw [pl_len]; exact h)]

theorem Snd.two (h : Snd l) {j : Nat} (hj : kd l j = 2) : kd l (j + 1) = 3 := by
  have hlt : j < l.length := by
    rcases Nat.lt_or_ge j l.length with h | h
    · exact h
    · rw [kd_out h] at hj; cases hj
  exact (h j hlt).2.1 (by rw [← kd_at hlt]; exact hj)
theorem Snd.three (h : Snd l) {j : Nat} (hj : kd l j = 3) : 0 < j ∧ kd l (j - 1) = 2 := by
  have hlt : j < l.length := by
    rcases Nat.lt_or_ge j l.length with h | h
    · exact h
    · rw [kd_out h] at hj; cases hj
  exact (h j hlt).2.2 (by rw [← kd_at hlt]; exact hj)
theorem kd_lt {j : Nat} (h : kd l j ≠ 0) : j < l.length := by
  rcases Nat.lt_or_ge j l.length with h' | h'
  · exact h'
  · exact absurd (kd_out h') h
theorem Snd.rg (h : Snd l) {j : Nat} (hj : j < l.length) : rgt (l.getD j bl) = true := by
  rw [List.getD_eq_getElem?_getD, List.getElem?_eq_getElem hj]
  exact (h j hj).1
theorem kd_getD (l : List G_api_Cell) (j : Nat) : (l.getD j bl).Kind = kd l j := by
  rw [List.getD_eq_getElem?_getD, kd]
  cases l[j]? <;> rfl

/-- Sound cells painted into a sound row leave it sound. -/
theorem Snd.paint {a : Nat} {p : List G_api_Cell} (h : Snd l) (hp : Snd p) (ha : a + p.length ≤ l.length) : Snd (pl l a p) := fun j hj => by
  rw [pl_len] at hj
  rw [pl_at]
  have kpc : ∀ i, i < l.length → (pc l a p i).Kind = if a ≤ i ∧ i < a + p.length then kd p (i - a) else if tch l a p.length i = true then 0 else kd l i := fun i hi => by
    unfold pc
    split
    · exact kd_getD _ _
    · split
      · rfl
      · exact kd_getD _ _
  have kall : ∀ i, kd (pl l a p) i = if i < l.length then (if a ≤ i ∧ i < a + p.length then kd p (i - a) else if tch l a p.length i = true then 0 else kd l i) else 0 := fun i => by
    by_cases hi : i < l.length
    · rw [if_pos hi, kd_pl hi, kpc i hi]
    · rw [if_neg hi, kd_out (by rw [pl_len]; omega)]
  refine ⟨?_, fun h2 => ?_, fun h3 => ?_⟩
  · unfold pc
    split
    · exact hp.rg (by omega)
    · split
      · rfl
      · exact h.rg hj
  · rw [kpc j hj] at h2
    rw [kall]
    by_cases hin : a ≤ j ∧ j < a + p.length
    · rw [if_pos hin] at h2
      have h4 := hp.two h2
      have h5 : j - a + 1 < p.length := kd_lt (by rw [h4]; decide)
      rw [if_pos (by omega), if_pos (by omega), show j + 1 - a = j - a + 1 by omega]; exact h4
    · rw [if_neg hin] at h2
      split at h2
      · cases h2
      · rename_i ht
        have h4 := h.two h2
        have h5 : j + 1 < l.length := kd_lt (by rw [h4]; decide)
        simp only [tch, h2, decide_true, Bool.true_and, Bool.or_eq_true, Bool.and_eq_true, decide_eq_true_eq, not_or, not_and] at ht
        have h6 : ¬ (a ≤ j + 1 ∧ j + 1 < a + p.length) := by omega
        have h7 : ¬ tch l a p.length (j + 1) = true := by
          simp only [tch, h4, Bool.or_eq_true, Bool.and_eq_true, decide_eq_true_eq]
          omega
        rw [if_pos h5, if_neg h6, if_neg h7]; exact h4
  · rw [kpc j hj] at h3
    by_cases hin : a ≤ j ∧ j < a + p.length
    · rw [if_pos hin] at h3
      have h4 := hp.three h3
      refine ⟨by omega, ?_⟩
      rw [kall, if_pos (by omega), if_pos (by omega), show j - 1 - a = j - a - 1 by omega]; exact h4.2
    · rw [if_neg hin] at h3
      split at h3
      · cases h3
      · rename_i ht
        have h4 := h.three h3
        refine ⟨h4.1, ?_⟩
        simp only [tch, h3, decide_true, Bool.true_and, Bool.or_eq_true, Bool.and_eq_true, decide_eq_true_eq, not_or, not_and] at ht
        have h6 : ¬ (a ≤ j - 1 ∧ j - 1 < a + p.length) := by omega
        have h7 : ¬ tch l a p.length (j - 1) = true := by
          simp only [tch, h4.2, Bool.or_eq_true, Bool.and_eq_true, decide_eq_true_eq]
          omega
        rw [kall, if_pos (by omega), if_neg h6, if_neg h7]; exact h4.2

/-- What the document's paint is. -/
theorem ref_paint (l : List G_api_Cell) (w : Bool) (a : Nat) (p : List G_api_Cell) (hl : l.length ≤ 1000000) (ha : a ≤ 1000000) (hp : p.length ≤ 1000000) : f_linotyperef24_Paint l w a p = some (pl l a p, pw l w a p.length) := by
  unfold f_linotyperef24_Paint
  rw [iter_eq (s := (w, ([] : List G_api_Cell), (0 : Int))) (t := (pw l w a p.length, pl l a p)) (fun st : Bool × List G_api_Cell × Int => ∃ i : Nat, st = (if i < l.length then w else pw l w a p.length, (pl l a p).take i, (i : Int)) ∧ i ≤ l.length) (fun st => l.length - st.2.2.toNat) ?_ ⟨0, ?_, Nat.zero_le _⟩ (by simp)]
  · rfl
  · rintro st ⟨i, rfl, hi⟩
    rcases Nat.lt_or_ge i l.length with hlt | hge
    · refine .inl ⟨_, ?_, ⟨i + 1, rfl, hlt⟩, by simp; omega⟩
      have e3 : w64 ((i : Int) + 1) = ((i + 1 : Nat) : Int) := by rw [w64_in (by omega)]; simp
      have e4 : w64 ((a : Int) + (p.length : Int)) = ((a + p.length : Nat) : Int) := by rw [w64_in (by omega)]; simp
      have e5 : w64 ((i : Int) - (a : Int)) = (i : Int) - a := w64_in (by omega)
      have e6 : w64 ((i : Int) - 1) = (i : Int) - 1 := w64_in (by omega)
      have hd : decide ((i : Int) < (l.length : Int)) = true := by simp; exact hlt
      simp only [hd, if_true, if_pos hlt, idx_at hlt, bsm, andE_some, orE_some, e3, e4, e5, e6]
      have happ : ∀ x : G_api_Cell, x = pc l a p i → app ((pl l a p).take i) [x] = some ((pl l a p).take (i + 1)) := fun x hx => by
        subst hx
        rw [app_eq (by rw [List.length_take, pl_len]; simp; omega), List.take_succ_eq_append_getElem (show i < (pl l a p).length by rw [pl_len]; exact hlt), pl_at]
      by_cases hin : a ≤ i ∧ i < a + p.length
      · have c1 : (decide ((i : Int) ≥ a) && decide ((i : Int) < ((a + p.length : Nat) : Int))) = true := by simp; omega
        obtain ⟨q, hq⟩ : ∃ q : Nat, q = i - a := ⟨_, rfl⟩
        have c2 : (i : Int) - a = (q : Int) := by omega
        have hqp : q < p.length := by omega
        simp only [c1, if_true, c2, idx_at hqp, bsm, Bool.not_true, andE_false, Bool.false_and, Bool.false_eq_true, if_false, Bool.true_or, Bool.and_true]
        rw [happ ⟨p[q].Kind, p[q].Text⟩ (by rw [pc, if_pos hin, ← hq, List.getD_eq_getElem?_getD, List.getElem?_eq_getElem hqp]; rfl)]
        by_cases hn : i + 1 = l.length
        · have c3 : (((i + 1 : Nat) : Int) == (l.length : Int)) = true := by simp; omega
          have c4 : pw l w a p.length = false := by
            have : tch l a p.length (l.length - 1) = true := by simp [tch]; omega
            simp [pw, this]; omega
          simp only [c3, if_true, bsm, c4]
          rw [if_neg (by omega)]
        · have c3 : (((i + 1 : Nat) : Int) == (l.length : Int)) = false := by simp; omega
          simp only [c3, Bool.false_eq_true, if_false, bsm]
          rw [if_pos (show i + 1 < l.length by omega)]
      · have c1 : (decide ((i : Int) ≥ a) && decide ((i : Int) < ((a + p.length : Nat) : Int))) = false := by simp; omega
        have c5 : ((l[i].Kind == 2 && decide (((i + 1 : Nat) : Int) ≥ a) && decide (((i + 1 : Nat) : Int) < ((a + p.length : Nat) : Int))) || (l[i].Kind == 3 && decide ((i : Int) - 1 ≥ a) && decide ((i : Int) - 1 < ((a + p.length : Nat) : Int)))) = tch l a p.length i := by
          rw [Bool.eq_iff_iff]
          simp only [tch, kd_at hlt, Bool.or_eq_true, Bool.and_eq_true, beq_iff_eq, decide_eq_true_eq]
          omega
        simp only [c1, Bool.false_eq_true, if_false, bsm, Bool.not_false, andE_true, Bool.false_or, Bool.true_and]
        simp only [c5]
        cases ht : tch l a p.length i with
        | true =>
          simp only [if_true, bsm, Bool.and_true]
          rw [happ ⟨0, []⟩ (by rw [pc, if_neg hin, if_pos ht]; rfl)]
          by_cases hn : i + 1 = l.length
          · have c3 : (((i + 1 : Nat) : Int) == (l.length : Int)) = true := by simp; omega
            have c4 : pw l w a p.length = false := by
              have e : l.length - 1 = i := by omega
              simp [pw, e, ht]; omega
            simp only [c3, if_true, bsm, c4]
            rw [if_neg (by omega)]
          · have c3 : (((i + 1 : Nat) : Int) == (l.length : Int)) = false := by simp; omega
            simp only [c3, Bool.false_eq_true, if_false, bsm]
            rw [if_pos (show i + 1 < l.length by omega)]
        | false =>
          simp only [Bool.false_eq_true, if_false, bsm, Bool.and_false]
          rw [happ ⟨l[i].Kind, l[i].Text⟩ (by rw [pc, if_neg hin, if_neg (by simp [ht]), List.getD_eq_getElem?_getD, List.getElem?_eq_getElem hlt]; rfl)]
          by_cases hn : i + 1 = l.length
          · have c4 : pw l w a p.length = w := by
              have e : l.length - 1 = i := by omega
              simp [pw, e, ht]
            simp only [bsm, c4, ite_self]
          · simp only [bsm]
            rw [if_pos (show i + 1 < l.length by omega)]
    · obtain rfl : i = l.length := by omega
      refine .inr ?_
      have e : (pl l a p).take l.length = pl l a p := List.take_of_length_le (by rw [pl_len]; exact Nat.le_refl _)
      simp [e]
  · by_cases h0 : 0 < l.length
    · simp [h0]
    · simp [h0, pw]
end Go.Proofs.YthokmpbbkpjhbaaGreatDoor
