/-
  Cells and strips, in plain Lean: what the walks compute is what stands here. Conditions: lists are shorter than 2^62.
-/
import Derived.Test.YthokmpbbkpjhbaaGreatDoorPa
import Derived.Test.YthokmpbbkpjhbaaGreatDoorA1
namespace Go.Proofs.YthokmpbbkpjhbaaGreatDoor
open Go Go.Lt

theorem cell_ext {a b : G_api_Cell} (h1 : a.Kind = b.Kind) (h2 : a.Text = b.Text) : a = b := by
  cases a; cases b; simp_all
def bl : G_api_Cell := ⟨0, []⟩

/-! ### scalar values -/
def vld (r : Int) : Bool := decide (0 ≤ r) && decide (r ≤ 1114111) && (decide (r < 55296) || decide (r > 57343))
theorem ref_valid (r : Int) : f_linotyperef01_Valid r = some (vld r) := by
  simp only [f_linotyperef01_Valid, andE_some, orE_some, bsm, vld, ge_iff_le]
theorem sca_valid (r : Int) : f_scalar_Valid r = some (vld r) := by
  simp only [f_scalar_Valid, andE_some, orE_some, bsm, vld, Option.some.injEq]
  rw [Bool.eq_iff_iff]
  simp
  omega

/-! ### a cell that may be -/
def rgt (c : G_api_Cell) : Bool :=
  if c.Kind = 0 ∨ c.Kind = 3 then c.Text.isEmpty else (decide (c.Kind = 1) || decide (c.Kind = 2)) && decide (1 ≤ c.Text.length) && decide (c.Text.length ≤ 16) && c.Text.all vld

theorem all_take_succ {α : Type} (p : α → Bool) (l : List α) (i : Nat) (h : i < l.length) : (l.take (i + 1)).all p = ((l.take i).all p && p l[i]) := by
  rw [List.take_succ_eq_append_getElem h, List.all_append]
  simp
theorem all_false_of {α : Type} {p : α → Bool} {l : List α} {i : Nat} (h : i < l.length) (hp : p l[i] = false) : l.all p = false := by
  rw [List.all_eq_false]
  exact ⟨_, List.getElem_mem h, by simp [hp]⟩

theorem isEmpty_len {α : Type} (l : List α) : ((l.length : Int) == 0) = l.isEmpty := by
  cases l <;> simp <;> omega

theorem ref_right (c : G_api_Cell) : f_linotyperef23_Right c = some (rgt c) := by
  unfold f_linotyperef23_Right rgt
  simp only [orE_some, andE_some, bsm]
  by_cases h1 : c.Kind = 0 ∨ c.Kind = 3
  · have e : (c.Kind == 0 || c.Kind == 3) = true := by rcases h1 with h | h <;> simp [h]
    rw [if_pos e, if_pos h1, isEmpty_len]
  · have e : (c.Kind == 0 || c.Kind == 3) = false := by simp; omega
    rw [if_neg (by rw [e]; simp), if_neg h1]
    by_cases h2 : ((c.Kind = 1 ∨ c.Kind = 2) ∧ 1 ≤ c.Text.length ∧ c.Text.length ≤ 16)
    · have e2 : (((c.Kind != 1 && c.Kind != 2) || decide ((c.Text.length : Int) < 1)) || decide ((c.Text.length : Int) > 16)) = false := by
        simp; omega
      rw [if_neg (by rw [e2]; simp)]
      obtain ⟨t, h3, h4⟩ := iter_count (τ := Bool ⊕ Unit) (n := c.Text.length) (by omega) (fun t => match t with | .inl b => b = c.Text.all vld | .inr _ => c.Text.all vld = true) (fun i => (c.Text.take i).all vld = true) (by simp)
        (step := fun s_44 =>
          if (decide (s_44 < (c.Text.length : Int))) = true then
          (idx c.Text s_44).bind fun x_54 =>
          (f_linotyperef01_Valid x_54).bind fun x_56 =>
          if (!x_56) = true then
          some (.inr (.inl false))
          else
          some (.inl ((w64 (s_44 + 1))))
          else
          some (.inr (.inr ())))
        (fun i hi hI => by
          have e3 : w64 ((i : Int) + 1) = ((i + 1 : Nat) : Int) := by rw [w64_in (by omega)]; simp
          simp only [Int.ofNat_lt, hi, decide_true, if_true, idx_at hi, bsm, ref_valid, e3]
          cases hv : vld c.Text[i] with
          | true => exact .inl ⟨by simp, by rw [all_take_succ _ _ _ hi, hI, hv]; rfl⟩
          | false => exact .inr ⟨.inl false, by simp, (all_false_of hi hv).symm⟩)
        (fun hI => ⟨.inr (), by simp, by simpa using hI⟩)
      rw [h3]
      simp only [bsm]
      have e4 : (decide (c.Kind = 1) || decide (c.Kind = 2)) = true := by simp; exact h2.1
      rw [e4, decide_eq_true h2.2.1, decide_eq_true h2.2.2]
      cases t with
      | inl b => simp only at h4; simp [h4]
      | inr u => simp only at h4; simp [h4]
    · have e2 : (((c.Kind != 1 && c.Kind != 2) || decide ((c.Text.length : Int) < 1)) || decide ((c.Text.length : Int) > 16)) = true := by
        simp; omega
      rw [if_pos e2]
      congr 1
      symm
      simp only [Bool.and_eq_false_iff, Bool.or_eq_false_iff, decide_eq_false_iff_not]
      omega

theorem isEmpty_dec {α : Type} (l : List α) (b : Bool) (h : b = l.isEmpty) : ((l.length : Int) == 0) = b := by rw [h, isEmpty_len]
theorem cell_right1 (r : Int) : f_cell_Right_1 r = some (!vld r) := by simp [f_cell_Right_1, sca_valid]
theorem cell_contains (l : List Int) (hl : l.length ≤ 9223372036854775807) : f_slices_ContainsFunc_rune_rune__cell_Right_1 l = some (!l.all vld) := by
  unfold f_slices_ContainsFunc_rune_rune__cell_Right_1 f_slices_IndexFunc_rune_rune__cell_Right_1
  obtain ⟨t, h3, h4⟩ := iter_count (τ := Int ⊕ Unit) (n := l.length) (by omega) (fun t => match t with | .inl i => 0 ≤ i ∧ l.all vld = false | .inr _ => l.all vld = true) (fun i => (l.take i).all vld = true) (by simp)
    (step := fun s_7 =>
      if (decide (s_7 < (l.length : Int))) = true then
      (idx l s_7).bind fun x_16 =>
      (f_cell_Right_1 x_16).bind fun x_18 =>
      if x_18 = true then
      some (.inr (.inl s_7))
      else
      some (.inl ((w64 (s_7 + 1))))
      else
      some (.inr (.inr ())))
    (fun i hi hI => by
      have e3 : w64 ((i : Int) + 1) = ((i + 1 : Nat) : Int) := by rw [w64_in (by omega)]; simp
      simp only [Int.ofNat_lt, hi, decide_true, if_true, idx_at hi, bsm, cell_right1, e3]
      cases hv : vld l[i] with
      | true => exact .inl ⟨by simp, by rw [all_take_succ _ _ _ hi, hI, hv]; rfl⟩
      | false => exact .inr ⟨.inl i, by simp, by omega, all_false_of hi hv⟩)
    (fun hI => ⟨.inr (), by simp, by simpa using hI⟩)
  rw [h3]
  simp only [bsm]
  cases t with
  | inl b => simp only at h4; simp [h4.1, h4.2]
  | inr u => simp only at h4; simp [h4]
theorem cell_right (c : G_api_Cell) : f_cell_Right c = some (rgt c) := by
  unfold f_cell_Right rgt
  by_cases h1 : c.Kind = 0 ∨ c.Kind = 3
  · rw [if_pos h1]
    rcases h1 with h | h <;> simp [h, isEmpty_len]
  · have n0 : (c.Kind == 0) = false := by simp; omega
    have n3 : (c.Kind == 3) = false := by simp; omega
    rw [if_neg h1]
    simp only [n0, n3, Bool.false_eq_true, if_false, bsm]
    by_cases h2 : c.Kind = 1 ∨ c.Kind = 2
    · have e : (if (c.Kind == 1) = true then some (c.Kind == 1) else some (c.Kind == 2) : Option Bool) = some true := by rcases h2 with h | h <;> simp [h]
      have e2 : (decide (c.Kind = 1) || decide (c.Kind = 2)) = true := by simp; exact h2
      rw [e, e2]
      simp only [bsm, if_true, andE_some, Bool.true_and]
      by_cases h3 : 1 ≤ c.Text.length ∧ c.Text.length ≤ 16
      · rw [cell_contains _ (by omega)]
        have e4 : (decide ((c.Text.length : Int) > 0) && decide ((c.Text.length : Int) ≤ 16)) = true := by simp; omega
        have e5 : (decide (1 ≤ c.Text.length) && decide (c.Text.length ≤ 16)) = true := by simp; exact h3
        rw [e4, e5]
        simp [andE_true]
      · have e4 : (decide ((c.Text.length : Int) > 0) && decide ((c.Text.length : Int) ≤ 16)) = false := by simp; omega
        have e5 : (decide (1 ≤ c.Text.length) && decide (c.Text.length ≤ 16)) = false := by simp; omega
        rw [e4, e5]
        simp [andE_false]
    · have n1 : (c.Kind == 1) = false := by simp; omega
      have n2 : (c.Kind == 2) = false := by simp; omega
      have e2 : (decide (c.Kind = 1) || decide (c.Kind = 2)) = false := by simp; omega
      rw [e2]
      simp [n1, n2]

/-! ### sound strips -/
def kd (l : List G_api_Cell) (i : Nat) : Int := match l[i]? with | some c => c.Kind | none => 0
theorem kd_at {l : List G_api_Cell} {i : Nat} (h : i < l.length) : kd l i = l[i].Kind := by simp [kd, List.getElem?_eq_getElem h]
theorem kd_out {l : List G_api_Cell} {i : Nat} (h : l.length ≤ i) : kd l i = 0 := by simp [kd, List.getElem?_eq_none h]
/-- The strip is sound. -/
def Snd (l : List G_api_Cell) : Prop := ∀ i (h : i < l.length), rgt l[i] = true ∧ (l[i].Kind = 2 → kd l (i + 1) = 3) ∧ (l[i].Kind = 3 → 0 < i ∧ kd l (i - 1) = 2)

theorem ref_kind (l : List G_api_Cell) (i : Int) : f_linotyperef23_Kind l i = some (if 0 ≤ i then kd l i.toNat else 0) := by
  unfold f_linotyperef23_Kind
  simp only [orE_some, bsm]
  by_cases h0 : i < 0
  · rw [if_pos (by simp [h0]), if_neg (by omega)]
  · by_cases h1 : i < l.length
    · obtain ⟨k, rfl⟩ := Int.eq_ofNat_of_zero_le (show 0 ≤ i by omega)
      have hk : k < l.length := by omega
      rw [if_neg (by simp; omega), if_pos (by omega), idx_at hk]
      simp [kd_at hk]
    · rw [if_pos (by simp; omega), if_pos (by omega), kd_out (by omega)]

theorem ref_sound (l : List G_api_Cell) (hl : l.length ≤ 9223372036854775807) : ∃ b, f_linotyperef23_Sound l = some b ∧ (b = true ↔ Snd l) := by
  unfold f_linotyperef23_Sound
  obtain ⟨t, h3, h4⟩ := iter_count (τ := Bool ⊕ Unit) (n := l.length) (by omega) (fun t => match t with | .inl b => b = false ∧ ¬ Snd l | .inr _ => Snd l)
    (fun i => ∀ j (h : j < l.length), j < i → rgt l[j] = true ∧ (l[j].Kind = 2 → kd l (j + 1) = 3) ∧ (l[j].Kind = 3 → 0 < j ∧ kd l (j - 1) = 2)) (fun j _ h => by omega)
    (step := fun s_5 =>
      if (decide (s_5 < (l.length : Int))) = true then
      (idx l s_5).bind fun x_13 =>
      (f_linotyperef23_Right x_13).bind fun x_15 =>
      (orE (!x_15) ((idx l s_5).bind fun x_21 =>
      (andE (x_21.Kind == 2) ((f_linotyperef23_Kind l (w64 (s_5 + 1))).bind fun x_30 =>
      some (x_30 != 3))).bind fun d_25 =>
      some d_25)).bind fun d_17 =>
      (orE d_17 ((idx l s_5).bind fun x_36 =>
      (andE (x_36.Kind == 3) ((f_linotyperef23_Kind l (w64 (s_5 - 1))).bind fun x_45 =>
      some (x_45 != 2))).bind fun d_40 =>
      some d_40)).bind fun d_32 =>
      if d_32 = true then
      some (.inr (.inl false))
      else
      some (.inl ((w64 (s_5 + 1))))
      else
      some (.inr (.inr ())))
    (fun i hi hI => by
      have e3 : w64 ((i : Int) + 1) = ((i + 1 : Nat) : Int) := by rw [w64_in (by omega)]; simp
      have e4 : w64 ((i : Int) - 1) = (i : Int) - 1 := w64_in (by omega)
      simp only [Int.ofNat_lt, hi, decide_true, if_true, idx_at hi, bsm, ref_right, ref_kind, e3, e4, andE_some, orE_some]
      by_cases hk : rgt l[i] = true ∧ (l[i].Kind = 2 → kd l (i + 1) = 3) ∧ (l[i].Kind = 3 → 0 < i ∧ kd l (i - 1) = 2)
      · refine .inl ⟨?_, fun j h hj => ?_⟩
        · rw [if_neg]
          obtain ⟨h1, h2, h5⟩ := hk
          simp only [h1, Bool.not_true, Bool.false_or, Bool.or_eq_true, Bool.and_eq_true, beq_iff_eq, bne_iff_ne, ne_eq, not_or, not_and, Decidable.not_not]
          refine ⟨fun h => ?_, fun h => ?_⟩
          · rw [if_pos (by omega)]; simpa using h2 h
          · obtain ⟨h6, h7⟩ := h5 h
            rw [if_pos (by omega), show ((i : Int) - 1).toNat = i - 1 by omega]; exact h7
        · by_cases hji : j = i
          · subst hji; exact hk
          · exact hI j h (by omega)
      · refine .inr ⟨.inl false, ?_, rfl, fun hs => hk (hs i hi)⟩
        rw [if_pos]
        cases h1 : rgt l[i] with
        | false => simp
        | true =>
          simp only [h1, true_and] at hk
          have hk : (l[i].Kind = 2 ∧ ¬ kd l (i + 1) = 3) ∨ (l[i].Kind = 3 ∧ ¬ (0 < i ∧ kd l (i - 1) = 2)) := by
            by_cases hA : l[i].Kind = 2 → kd l (i + 1) = 3
            · exact .inr (Classical.not_imp.1 fun hB => hk ⟨hA, hB⟩)
            · exact .inl (Classical.not_imp.1 hA)
          simp only [Bool.not_true, Bool.false_or, Bool.or_eq_true, Bool.and_eq_true, beq_iff_eq, bne_iff_ne, ne_eq]
          rcases hk with ⟨h, h2⟩ | ⟨h, h2⟩
          · refine .inl ⟨h, ?_⟩
            rw [if_pos (by omega)]; simpa using h2
          · refine .inr ⟨h, ?_⟩
            by_cases h0 : i = 0
            · subst h0; simp
            · rw [if_pos (by omega), show ((i : Int) - 1).toNat = i - 1 by omega]
              exact fun h3 => h2 ⟨by omega, h3⟩)
    (fun hI => ⟨.inr (), by simp, fun j h => hI j h h⟩)
  rw [h3]
  simp only [bsm]
  cases t with
  | inl b => exact ⟨b, rfl, by simp only at h4; rw [h4.1]; simp [h4.2]⟩
  | inr u => exact ⟨true, rfl, by simpa using h4⟩

theorem cell_sound (l : List G_api_Cell) (hl : l.length ≤ 9223372036854775807) : ∃ b, f_cell_Sound l = some b ∧ (b = true ↔ Snd l) := by
  unfold f_cell_Sound
  -- what the round's lead says of the cell ahead
  let ld : Nat → Bool := fun i => match i with | 0 => false | k + 1 => decide (kd l k = 2)
  have key : ∀ i (h : i < l.length), ((rgt l[i] = true ∧ (ld i = decide (l[i].Kind = 3))) ↔ rgt l[i] = true ∧ (l[i].Kind = 3 → 0 < i ∧ kd l (i - 1) = 2) ∧ (0 < i → kd l (i - 1) = 2 → l[i].Kind = 3)) := fun i h => by
    cases i with
    | zero => simp [ld]
    | succ k => simp only [ld, Nat.add_sub_cancel, decide_eq_decide]; constructor <;> (rintro ⟨a, b⟩; exact ⟨a, by omega⟩)
  have snd : Snd l ↔ (∀ i (h : i < l.length), rgt l[i] = true ∧ ld i = decide (l[i].Kind = 3)) ∧ ld l.length = false := by
    constructor
    · intro hs
      refine ⟨fun i h => (key i h).2 ⟨(hs i h).1, (hs i h).2.2, fun h0 h2 => ?_⟩, ?_⟩
      · have := (hs (i - 1) (by omega)).2.1 (by rw [← kd_at]; exact h2)
        rw [show i - 1 + 1 = i by omega, kd_at h] at this
        exact this
      · cases hn : l.length with
        | zero => rfl
        | succ k =>
          simp only [ld, decide_eq_false_iff_not]
          intro h2
          have := (hs k (by omega)).2.1 (by rw [← kd_at]; exact h2)
          rw [kd_out (by omega)] at this
          cases this
    · rintro ⟨h1, h2⟩ i h
      have hk := (key i h).1 (h1 i h)
      refine ⟨hk.1, fun h3 => ?_, hk.2.1⟩
      by_cases hn : i + 1 < l.length
      · have := ((key (i + 1) hn).1 (h1 (i + 1) hn)).2.2 (by omega) (by rw [Nat.add_sub_cancel, kd_at h]; exact h3)
        rw [kd_at hn]; exact this
      · exfalso
        have e : l.length = i + 1 := by omega
        rw [e] at h2
        simp only [ld, decide_eq_false_iff_not] at h2
        rw [kd_at h] at h2
        exact h2 h3
  obtain ⟨t, h3, h4⟩ := iter_inv (τ := Bool ⊕ Bool) (fun s : Bool × Int => ∃ i : Nat, s = (ld i, (i : Int)) ∧ i ≤ l.length ∧ ∀ j (h : j < l.length), j < i → rgt l[j] = true ∧ ld j = decide (l[j].Kind = 3)) (fun s => l.length - s.2.toNat)
    (fun t => match t with | .inl b => b = false ∧ ¬ Snd l | .inr b => (b = false ↔ Snd l))
    (step := fun s_9 =>
      if (decide (s_9.2 < (l.length : Int))) = true then
      (idx l s_9.2).bind fun x_12 =>
      (f_cell_Right x_12).bind fun x_18 =>
      (orE (!x_18) (some (!(s_9.1 == (x_12.Kind == 3))))).bind fun d_20 =>
      if d_20 = true then
      some (.inr (.inl false))
      else
      some (.inl (x_12.Kind == 2, (w64 (s_9.2 + 1))))
      else
      some (.inr (.inr (s_9.1))))
    (by
      rintro s ⟨i, rfl, hi, hI⟩
      rcases Nat.lt_or_ge i l.length with hlt | hge
      · have e3 : w64 ((i : Int) + 1) = ((i + 1 : Nat) : Int) := by rw [w64_in (by omega)]; simp
        simp only [Int.ofNat_lt, hlt, decide_true, if_true, idx_at hlt, bsm, cell_right, orE_some, e3]
        by_cases hk : rgt l[i] = true ∧ ld i = decide (l[i].Kind = 3)
        · refine .inl ⟨_, ?_, ⟨i + 1, rfl, hlt, fun j h hj => ?_⟩, ?_⟩
          · rw [if_neg]
            · simp only [ld, kd_at hlt]; rfl
            · rw [hk.1, hk.2]; simp; rfl
          · by_cases hji : j = i
            · subst hji; exact hk
            · exact hI j h (by omega)
          · simp; omega
        · refine .inr ⟨.inl false, ?_, rfl, fun hs => hk ((snd.1 hs).1 i hlt)⟩
          rw [if_pos]
          cases h1 : rgt l[i] with
          | false => simp
          | true =>
            simp only [h1, true_and] at hk
            simp only [Bool.not_true, Bool.false_or, Bool.not_eq_true', beq_eq_false_iff_ne, ne_eq]
            exact hk
      · obtain rfl : i = l.length := by omega
        refine .inr ⟨.inr (ld l.length), by simp, ?_⟩
        simp only
        rw [snd]
        exact ⟨fun h => ⟨fun j hj => hI j hj hj, h⟩, fun h => h.2⟩) (((l.length : Int) - 0).toNat + 1) (false, 0) ⟨0, rfl, Nat.zero_le _, fun j _ h => by omega⟩ (by simp)
  rw [h3]
  simp only [bsm]
  cases t with
  | inl b => exact ⟨b, rfl, by simp only at h4; rw [h4.1]; simp [h4.2]⟩
  | inr b => exact ⟨!b, rfl, by simp only at h4; rw [← h4]; cases b <;> simp⟩

/-! ### the same strips -/
theorem same_text (a : List Int) (ha : a.length ≤ 9223372036854775807) (b : List Int) : ∃ t, f_linotyperef01_Same a b = some t ∧ (t = true ↔ a = b) := by
  unfold f_linotyperef01_Same
  by_cases hl : a.length = b.length
  · rw [if_neg (by simp [hl])]
    obtain ⟨t, h3, h4⟩ := iter_count (τ := Bool ⊕ Unit) (n := a.length) (by omega) (fun t => match t with | .inl b' => b' = false ∧ a ≠ b | .inr _ => a = b) (fun i => ∀ j, j < i → a[j]? = b[j]?) (fun j h => by omega)
      (step := fun s_13 =>
        if (decide (s_13 < (a.length : Int))) = true then
        (idx a s_13).bind fun x_21 =>
        (idx b s_13).bind fun x_25 =>
        if (x_21 != x_25) = true then
        some (.inr (.inl false))
        else
        some (.inl ((w64 (s_13 + 1))))
        else
        some (.inr (.inr ())))
      (fun i hi hI => by
        have e3 : w64 ((i : Int) + 1) = ((i + 1 : Nat) : Int) := by rw [w64_in (by omega)]; simp
        simp only [Int.ofNat_lt, hi, decide_true, if_true, idx_at hi, idx_at (show i < b.length by omega), bsm, e3]
        by_cases hk : a[i] = b[i]
        · refine .inl ⟨by rw [if_neg (by simp [hk])], fun j hj => ?_⟩
          by_cases hji : j = i
          · subst hji; rw [List.getElem?_eq_getElem hi, List.getElem?_eq_getElem (show j < b.length by omega), hk]
          · exact hI j (by omega)
        · exact .inr ⟨.inl false, by rw [if_pos (by simpa using hk)], rfl, fun e => hk (by subst e; rfl)⟩)
      (fun hI => ⟨.inr (), by simp, by
        apply List.ext_getElem?
        intro j
        rcases Nat.lt_or_ge j a.length with h | h
        · exact hI j h
        · rw [List.getElem?_eq_none h, List.getElem?_eq_none (by omega)]⟩)
    rw [h3]
    simp only [bsm]
    cases t with
    | inl b' => exact ⟨b', rfl, by simp only at h4; rw [h4.1]; simp [h4.2]⟩
    | inr u => exact ⟨true, rfl, by simpa using h4⟩
  · rw [if_pos (by simp; omega)]
    exact ⟨false, rfl, by simp; intro e; subst e; exact hl rfl⟩
/-- The cells' texts are no longer than may be. -/
def Sht (l : List G_api_Cell) : Prop := ∀ i (h : i < l.length), l[i].Text.length ≤ 1000000
theorem Snd.sht {l : List G_api_Cell} (h : Snd l) : Sht l := fun i hi => by
  have := (h i hi).1
  unfold rgt at this
  split at this
  · have e : l[i].Text = [] := by simpa using this
    rw [e]; simp
  · simp at this; omega
theorem same_cells (a : List G_api_Cell) (ha : a.length ≤ 9223372036854775807) (hs : Sht a) (b : List G_api_Cell) : ∃ t, f_linotyperef23_Same a b = some t ∧ (t = true ↔ a = b) := by
  unfold f_linotyperef23_Same
  by_cases hl : a.length = b.length
  · rw [if_neg (by simp [hl])]
    obtain ⟨t, h3, h4⟩ := iter_count (τ := Bool ⊕ Unit) (n := a.length) (by omega) (fun t => match t with | .inl b' => b' = false ∧ a ≠ b | .inr _ => a = b) (fun i => ∀ j, j < i → a[j]? = b[j]?) (fun j h => by omega)
      (step := fun s_13 =>
        if (decide (s_13 < (a.length : Int))) = true then
        (idx a s_13).bind fun x_21 =>
        (idx b s_13).bind fun x_26 =>
        (orE (x_21.Kind != x_26.Kind) ((idx a s_13).bind fun x_34 =>
        (idx b s_13).bind fun x_39 =>
        (f_linotyperef01_Same x_34.Text x_39.Text).bind fun x_42 =>
        some (!x_42))).bind fun d_30 =>
        if d_30 = true then
        some (.inr (.inl false))
        else
        some (.inl ((w64 (s_13 + 1))))
        else
        some (.inr (.inr ())))
      (fun i hi hI => by
        have e3 : w64 ((i : Int) + 1) = ((i + 1 : Nat) : Int) := by rw [w64_in (by omega)]; simp
        obtain ⟨t, ht, ht2⟩ := same_text a[i].Text (by have := hs i hi; omega) b[i].Text
        simp only [Int.ofNat_lt, hi, decide_true, if_true, idx_at hi, idx_at (show i < b.length by omega), bsm, e3, ht, orE_some]
        by_cases hk : a[i] = b[i]
        · refine .inl ⟨by rw [if_neg (by rw [ht2.2 (by rw [hk])]; simp [hk])], fun j hj => ?_⟩
          by_cases hji : j = i
          · subst hji; rw [List.getElem?_eq_getElem hi, List.getElem?_eq_getElem (show j < b.length by omega), hk]
          · exact hI j (by omega)
        · refine .inr ⟨.inl false, ?_, rfl, fun e => hk (by subst e; rfl)⟩
          rw [if_pos]
          by_cases hkk : a[i].Kind = b[i].Kind
          · have : t = false := by
              cases t with
              | false => rfl
              | true => exact absurd (cell_ext hkk (ht2.1 rfl)) hk
            simp [this]
          · simp [hkk])
      (fun hI => ⟨.inr (), by simp, by
        apply List.ext_getElem?
        intro j
        rcases Nat.lt_or_ge j a.length with h | h
        · exact hI j h
        · rw [List.getElem?_eq_none h, List.getElem?_eq_none (by omega)]⟩)
    rw [h3]
    simp only [bsm]
    cases t with
    | inl b' => exact ⟨b', rfl, by simp only at h4; rw [h4.1]; simp [h4.2]⟩
    | inr u => exact ⟨true, rfl, by simpa using h4⟩
  · rw [if_pos (by simp; omega)]
    exact ⟨false, rfl, by simp; intro e; subst e; exact hl rfl⟩
theorem same_self {a : List G_api_Cell} (ha : a.length ≤ 9223372036854775807) (hs : Sht a) : f_linotyperef23_Same a a = some true := by
  obtain ⟨t, h1, h2⟩ := same_cells a ha hs a
  rw [h1, h2.2 rfl]

/-! ### the strip of a cluster -/
def fixv (r : Int) : Int := if vld r = true then r else 65533
def fx (t : List Int) : List Int := (t.take 16).map fixv
def strip (wide : Int) (t : List Int) : List G_api_Cell :=
  if t = [] then (if wide > 1 then [bl, bl] else [bl]) else if wide > 1 then [⟨2, t⟩, ⟨3, []⟩] else [⟨1, t⟩]
theorem vld_fixv (r : Int) : vld (fixv r) = true := by
  unfold fixv
  split
  · assumption
  · rfl
theorem fx_vld (t : List Int) : ∀ x ∈ fx t, vld x = true := fun x hx => by
  obtain ⟨y, _, rfl⟩ := List.mem_map.1 hx
  exact vld_fixv y
theorem fx_len (t : List Int) : (fx t).length ≤ 16 := by simp [fx]; omega
theorem fx_len' (t : List Int) : (fx t).length = min 16 t.length := by simp [fx]
theorem rgt_of {k : Int} (hk : k = 1 ∨ k = 2) {t : List Int} (h1 : 1 ≤ t.length) (h2 : t.length ≤ 16) (hv : ∀ x ∈ t, vld x = true) : rgt ⟨k, t⟩ = true := by
  unfold rgt
  rw [if_neg (by simp; omega)]
  simp only [Bool.and_eq_true, Bool.or_eq_true, decide_eq_true_eq, List.all_eq_true]
  exact ⟨⟨⟨hk, h1⟩, h2⟩, hv⟩
theorem snd_strip (wide : Int) {t : List Int} (hv : ∀ x ∈ t, vld x = true) (h2 : t.length ≤ 16) : Snd (strip wide t) := by
  unfold strip
  have hb : rgt bl = true := rfl
  have h3 : rgt ⟨3, []⟩ = true := rfl
  by_cases ht : t = []
  · rw [if_pos ht]
    split
    · intro i hi
      match i, hi with
      | 0, _ => exact ⟨hb, fun h => by simp [bl] at h, fun h => by simp [bl] at h⟩
      | 1, _ => exact ⟨hb, fun h => by simp [bl] at h, fun h => by simp [bl] at h⟩
    · intro i hi
      match i, hi with
      | 0, _ => exact ⟨hb, fun h => by simp [bl] at h, fun h => by simp [bl] at h⟩
  · rw [if_neg ht]
    have h1 : 1 ≤ t.length := by
      rcases Nat.eq_zero_or_pos t.length with h | h
      · exact absurd (List.eq_nil_of_length_eq_zero h) ht
      · exact h
    split
    · intro i hi
      match i, hi with
      | 0, _ => exact ⟨rgt_of (.inr rfl) h1 h2 hv, fun _ => rfl, fun h => by simp at h⟩
      | 1, _ => exact ⟨h3, fun h => by simp at h, fun _ => ⟨by omega, rfl⟩⟩
    · intro i hi
      match i, hi with
      | 0, _ => exact ⟨rgt_of (.inl rfl) h1 h2 hv, fun h => by simp at h, fun h => by simp at h⟩
theorem ref_of (wide : Int) (t : List Int) (ht : t.length ≤ 9223372036854775807) : f_linotyperef23_Of wide t = some (strip wide (fx t)) := by
  unfold f_linotyperef23_Of
  rw [iter_eq (s := (([] : List Int), (0 : Int))) (t := fx t) (fun st : List Int × Int => ∃ i : Nat, st = ((fx t).take i, (i : Int)) ∧ i ≤ (fx t).length) (fun st => (fx t).length - st.2.toNat) ?_ ⟨0, rfl, Nat.zero_le _⟩ (by simp [fx]; omega)]
  · simp only [bsm, andE_some]
    unfold strip
    by_cases h0 : fx t = []
    · rw [if_pos h0, h0]
      by_cases hw : wide > 1
      · simp [hw, bl]
      · simp [hw, bl]
    · have h1 : (((fx t).length : Int) == 0) = false := by
        rw [beq_eq_false_iff_ne]
        intro e
        exact h0 (List.eq_nil_of_length_eq_zero (by omega))
      rw [if_neg h0]
      simp only [h1, Bool.false_and, Bool.false_eq_true, if_false]
      by_cases hw : wide > 1
      · simp [hw]
      · simp [hw]
  · rintro st ⟨i, rfl, hi⟩
    have hl := fx_len' t
    rcases Nat.lt_or_ge i (fx t).length with hlt | hge
    · refine .inl ⟨_, ?_, ⟨i + 1, rfl, hlt⟩, by simp; omega⟩
      have e3 : w64 ((i : Int) + 1) = ((i + 1 : Nat) : Int) := by rw [w64_in (by omega)]; simp
      have hit : i < t.length := by omega
      have d1 : (decide ((i : Int) < (t.length : Int)) && decide ((i : Int) < 16)) = true := by simp; omega
      have hx : (fx t)[i] = fixv t[i] := by simp [fx]
      simp only [andE_some, bsm, d1, if_true, idx_at hit, ref_valid, e3]
      have happ : ∀ x, x = fixv t[i] → app ((fx t).take i) [x] = some ((fx t).take (i + 1)) := fun x hxx => by
        rw [app_eq (by rw [List.length_take]; simp; omega), List.take_succ_eq_append_getElem hlt, hx, hxx]
      cases hv : vld t[i] with
      | true =>
        simp only [if_true]
        rw [happ _ (by simp [fixv, hv])]
        rfl
      | false =>
        simp only [Bool.false_eq_true, if_false]
        rw [happ _ (by simp [fixv, hv])]
        rfl
    · obtain rfl : i = (fx t).length := by omega
      have d1 : (decide (((fx t).length : Int) < (t.length : Int)) && decide (((fx t).length : Int) < 16)) = false := by simp; omega
      exact .inr (by simp only [andE_some, bsm, d1, Bool.false_eq_true, if_false]; simp)
end Go.Proofs.YthokmpbbkpjhbaaGreatDoor
