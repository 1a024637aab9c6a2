/-
  What is known of numbers, in plain Lean: the tables by searches, and by lists, tell the same. Condition: numbers are those of 32 bits.
-/
import Derived.Test.YthokmpbbkpjhbaaGreatDoorUa
import Derived.Test.YthokmpbbkpjhbaaGreatDoorW0
import Derived.Test.YthokmpbbkpjhbaaGreatDoorU1
import Derived.KernelRfl
namespace Go.Proofs.YthokmpbbkpjhbaaGreatDoor
open Go Go.Lt
set_option maxRecDepth 100000

/-! ### the tables -/
def gT : List (Int × Int × Int) := match f_gcb_table with | some t => t | none => []
def pT : List (Int × Int) := match f_pict_table with | some t => t | none => []
def cT : List (Int × Int × Int) := match f_conj_table with | some t => t | none => []
def eT : List (Int × Int × Int) := match f_east_table with | some t => t | none => []
theorem gT_eq : f_gcb_table = some gT := rfl
theorem pT_eq : f_pict_table = some pT := rfl
theorem cT_eq : f_conj_table = some cT := rfl
theorem eT_eq : f_east_table = some eT := rfl
theorem gT_s : srtd (fun x => x.1) (fun x => x.2.1) gT = true := by kernel_rfl
theorem pT_s : srtd (fun x => x.1) (fun x => x.2) pT = true := by kernel_rfl
theorem cT_s : srtd (fun x => x.1) (fun x => x.2.1) cT = true := by kernel_rfl
theorem eT_s : srtd (fun x => x.1) (fun x => x.2.1) eT = true := by kernel_rfl
theorem gT_l : gT.length ≤ 1000000 := by
  have : Nat.ble gT.length 1000000 = true := by kernel_rfl
  exact Nat.le_of_ble_eq_true this
theorem pT_l : pT.length ≤ 1000000 := by
  have : Nat.ble pT.length 1000000 = true := by kernel_rfl
  exact Nat.le_of_ble_eq_true this
theorem cT_l : cT.length ≤ 1000000 := by
  have : Nat.ble cT.length 1000000 = true := by kernel_rfl
  exact Nat.le_of_ble_eq_true this
theorem eT_l : eT.length ≤ 1000000 := by
  have : Nat.ble eT.length 1000000 = true := by kernel_rfl
  exact Nat.le_of_ble_eq_true this
theorem gT_v : gT.all (fun x => decide (1 ≤ x.2.2) && decide (x.2.2 ≤ 8)) = true := by kernel_rfl
theorem cT_v : cT.all (fun x => decide (1 ≤ x.2.2) && decide (x.2.2 ≤ 3)) = true := by kernel_rfl
theorem eT_v : eT.all (fun x => decide (1 ≤ x.2.2) && decide (x.2.2 ≤ 3)) = true := by kernel_rfl

/-! ### syllables -/
def hcl (r : Int) : Int :=
  if (4352 ≤ r ∧ r ≤ 4447) ∨ (43360 ≤ r ∧ r ≤ 43388) then 9
  else if (4448 ≤ r ∧ r ≤ 4519) ∨ (55216 ≤ r ∧ r ≤ 55238) then 10
  else if (4520 ≤ r ∧ r ≤ 4607) ∨ (55243 ≤ r ∧ r ≤ 55291) then 11
  else if r < 44032 ∨ 55203 < r then 0
  else if (r - 44032) % 28 = 0 then 12 else 13
def r32 (r : Int) : Prop := -2147483648 ≤ r ∧ r ≤ 2147483647
theorem r32.w {r : Int} (h : r32 r) : w64 r = r := by unfold r32 at h; exact w64_in (by omega)
theorem ite_b {α : Type} {b : Bool} {p : Prop} [Decidable p] (h : b = true ↔ p) (x y : α) : (if b = true then x else y) = if p then x else y := by
  by_cases hp : p
  · rw [if_pos hp, if_pos (h.2 hp)]
  · rw [if_neg hp, if_neg (fun e => hp (h.1 e))]
theorem some_ite {α : Type} {p : Prop} [Decidable p] (x y : α) : (if p then some x else some y) = some (if p then x else y) := by split <;> rfl
theorem hangul_class (r : Int) (h : r32 r) : f_hangul_Class r = some (hcl r) := by
  unfold r32 at h
  unfold f_hangul_Class f_hangul_Syllable f_hangul_in hcl
  simp only [andE_some, bsm, orE_some]
  have hw : 44032 ≤ r → r ≤ 55203 → (w32 (r - 44032)).tmod 28 = (r - 44032) % 28 := fun h1 h2 => by
    rw [w32_in (by omega), Int.tmod_eq_emod_of_nonneg (by omega)]
  rw [ite_b (p := (4352 ≤ r ∧ r ≤ 4447) ∨ (43360 ≤ r ∧ r ≤ 43388)) (by simp), ite_b (p := (4448 ≤ r ∧ r ≤ 4519) ∨ (55216 ≤ r ∧ r ≤ 55238)) (by simp), ite_b (p := (4520 ≤ r ∧ r ≤ 4607) ∨ (55243 ≤ r ∧ r ≤ 55291)) (by simp)]
  rw [ite_b (p := r < 44032 ∨ 55203 < r) (by simp)]
  by_cases hs : r < 44032 ∨ 55203 < r
  · simp only [if_pos hs, some_ite]
  · simp only [if_neg hs]
    rw [hw (by omega) (by omega)]
    rw [ite_b (p := (r - 44032) % 28 = 0) (by simp)]
    simp only [some_ite]
theorem ref_split (r : Int) (h1 : 44032 ≤ r) (h2 : r ≤ 55203) : ∃ x, f_linotyperef08_Split r = some x ∧ (x.1 ≠ 0 ∧ (x.2.2 = 0 ↔ (r - 44032) % 28 = 0)) := by
  have hw : w64 r = r := w64_in (by omega)
  unfold f_linotyperef08_Split
  simp only [hw, orE_some, bsm]
  rw [if_neg (by simp; omega)]
  refine iter_invE (fun q => ∃ i : Nat, i ≤ 19 ∧ q = ((44032 + 588 * (i : Int), 4352 + (i : Int)) : Int × Int) ∧ 44032 + 588 * (i : Int) ≤ r) (fun q => (4371 - q.2).toNat)
    (fun t => ∃ x : Int × Int × Int, t = .inl x ∧ (x.1 ≠ 0 ∧ (x.2.2 = 0 ↔ (r - 44032) % 28 = 0))) ?_ ⟨0, by omega, by simp, by omega⟩ (by simp only; omega) ?_
  · rintro q ⟨i, hi, rfl, hir⟩
    by_cases hi2 : i = 19
    · subst hi2
      omega
    dsimp only
    rw [if_pos (by simp; omega)]
    refine bind_or (fun t => (∃ x : Int × Int × Int, t = .inl x ∧ (x.1 ≠ 0 ∧ (x.2.2 = 0 ↔ (r - 44032) % 28 = 0))) ∨ (t = .inr (44032 + 588 * ((i + 1 : Nat) : Int)) ∧ 44032 + 588 * ((i + 1 : Nat) : Int) ≤ r))
      (iter_inv (fun q => ∃ j : Nat, j ≤ 21 ∧ q = ((44032 + 588 * (i : Int) + 28 * (j : Int), 4449 + (j : Int)) : Int × Int) ∧ 44032 + 588 * (i : Int) + 28 * (j : Int) ≤ r) (fun q => (4470 - q.2).toNat) _ ?_ _ _ ⟨0, by omega, by simp, by omega⟩ (by simp only; omega)) ?_
    · rintro q ⟨j, hj, rfl, hjr⟩
      dsimp only
      by_cases hj2 : j = 21
      · subst hj2
        right
        refine ⟨.inr (44032 + 588 * ((i + 1 : Nat) : Int)), ?_, .inr ⟨rfl, by omega⟩⟩
        rw [if_neg (by simp), show (44032 + 588 * (i : Int) + 28 * ((21 : Nat) : Int)) = 44032 + 588 * ((i + 1 : Nat) : Int) by omega]
      · rw [if_pos (by simp; omega), w64_in (by omega)]
        by_cases hlt : r < 44032 + 588 * (i : Int) + 28 * (j : Int) + 28
        · right
          rw [if_pos (by simpa using hlt)]
          rw [show w64 (4519 + r) = 4519 + r from w64_in (by omega), w64_in (by omega)]
          by_cases hz : 4519 + r - (44032 + 588 * (i : Int) + 28 * (j : Int)) = 4519
          · rw [if_pos (by simpa using hz)]
            exact ⟨_, rfl, .inl ⟨_, rfl, by show 4352 + (i : Int) ≠ 0; omega, by show (0 : Int) = 0 ↔ _; simp; omega⟩⟩
          · rw [if_neg (by simpa using hz)]
            exact ⟨_, rfl, .inl ⟨_, rfl, by show 4352 + (i : Int) ≠ 0; omega, by show 4519 + r - (44032 + 588 * (i : Int) + 28 * (j : Int)) = 0 ↔ _; omega⟩⟩
        · left
          rw [if_neg (by simpa using hlt), w64_in (by omega)]
          exact ⟨_, rfl, ⟨j + 1, by omega, by simp only [Prod.mk.injEq]; omega, by omega⟩, by omega⟩
    · rintro t (⟨x, rfl, hx⟩ | ⟨rfl, hx⟩)
      · exact .inr ⟨_, rfl, x, rfl, hx⟩
      · refine .inl ⟨_, rfl, ⟨i + 1, by omega, ?_, by omega⟩, ?_⟩
        · rw [w64_in (by omega)]
          exact Prod.ext rfl (by show 4352 + (i : Int) + 1 = 4352 + ((i + 1 : Nat) : Int); omega)
        · rw [w64_in (by omega)]
          omega
  · rintro t ⟨x, rfl, hx⟩
    exact ⟨x, rfl, hx⟩
theorem ref_class (r : Int) (h : r32 r) : f_linotyperef08_Class r = some (hcl r) := by
  have hw := h.w
  unfold r32 at h
  unfold f_linotyperef08_Class hcl
  simp only [hw, andE_some, bsm, orE_some]
  rw [ite_b (p := (4352 ≤ r ∧ r ≤ 4447) ∨ (43360 ≤ r ∧ r ≤ 43388)) (by simp), ite_b (p := (4448 ≤ r ∧ r ≤ 4519) ∨ (55216 ≤ r ∧ r ≤ 55238)) (by simp), ite_b (p := (4520 ≤ r ∧ r ≤ 4607) ∨ (55243 ≤ r ∧ r ≤ 55291)) (by simp)]
  by_cases hs : r < 44032 ∨ 55203 < r
  · have : f_linotyperef08_Split r = some (0, 0, 0) := by
      unfold f_linotyperef08_Split
      simp only [hw, orE_some, bsm]
      rw [if_pos (by simpa using hs)]
    rw [this]
    simp only [bsm, if_pos hs, some_ite]
    rfl
  · obtain ⟨⟨l, v, t⟩, e1, e2, e3⟩ := ref_split r (by omega) (by omega)
    have e2' : (l == 0) = false := by simpa using e2
    rw [e1]
    simp only [bsm, e2', Bool.false_eq_true, if_false, if_neg hs]
    rw [ite_b (b := t == 0) (p := (r - 44032) % 28 = 0) (by simpa using e3)]
    simp only [some_ite]

/-! ### lists -/
theorem ref_in (l : List (Int × Int)) (hl : l.length ≤ 1000000) (r : Int) (h : r32 r) : f_linotyperef09_In l r = some (inl_ l r) := by
  have hw := h.w
  unfold f_linotyperef09_In
  simp only [hw]
  have key : iter (σ := Int) (τ := Bool ⊕ Unit) (((l.length : Int) - 0).toNat + 1) (fun s_5 =>
      if (decide (s_5 < (l.length : Int))) = true then
      (idx l s_5).bind fun x_15 =>
      (andE (decide (r ≥ x_15.1)) ((idx l s_5).bind fun x_25 =>
      some (decide (r ≤ x_25.2)))).bind fun d_19 =>
      if d_19 = true then
      some (.inr (.inl true))
      else
      some (.inl ((w64 (s_5 + 1))))
      else
      some (.inr (.inr ()))) (0) = some (if inl_ l r = true then .inl true else .inr ()) := by
    refine iter_eq (fun s => ∃ k : Nat, s = (k : Int) ∧ k ≤ l.length ∧ (l.take k).any (onn (fun x => x.1) (fun x => x.2) r) = false) (fun s => ((l.length : Int) - s).toNat) ?_ ⟨0, rfl, Nat.zero_le _, by simp⟩ (by omega)
    rintro s ⟨k, rfl, hk, hno⟩
    rcases Nat.lt_or_ge k l.length with hlt | hge
    · have e1 : (l.take (k + 1)).any (onn (fun x => x.1) (fun x => x.2) r) = ((l.take k).any (onn (fun x => x.1) (fun x => x.2) r) || onn (fun x => x.1) (fun x => x.2) r l[k]) := by
        rw [List.take_succ_eq_append_getElem hlt, List.any_append]
        simp
      simp only [dlt hlt, if_true, idx_at hlt, bsm, andE_some]
      have e2 : (decide (r ≥ l[k].1) && decide (r ≤ l[k].2)) = onn (fun x : Int × Int => x.1) (fun x => x.2) r l[k] := rfl
      rw [e2]
      cases hb : onn (fun x : Int × Int => x.1) (fun x => x.2) r l[k] with
      | true =>
        right
        have : inl_ l r = true := by
          unfold inl_
          rw [List.any_eq_true]
          exact ⟨_, List.getElem_mem hlt, hb⟩
        rw [if_pos this]
        rfl
      | false =>
        left
        rw [w64_succ hlt (by omega)]
        exact ⟨_, rfl, ⟨k + 1, rfl, hlt, by rw [e1, hno, hb]; rfl⟩, by omega⟩
    · obtain rfl : k = l.length := by omega
      right
      rw [List.take_length] at hno
      simp only [dnl, Bool.false_eq_true, if_false]
      rw [show inl_ l r = false from hno]
      rfl
  rw [key]
  cases inl_ l r <;> rfl
theorem getD_opt {v : Option Int} {d : Option Int} {d' : Int} (h : d = some d') : ((some (match v with | some x => (.inl x : Int ⊕ Unit) | none => .inr ())).bind fun o => match o with | .inl o => some o | .inr _ => d) = some (v.getD d') := by
  cases v with
  | none => simpa using h
  | some x => rfl
theorem gT_of : (match f_linotyperef09_list1, f_linotyperef09_list2, f_linotyperef09_list3, f_linotyperef09_list4, f_linotyperef09_list5, f_linotyperef09_list6, f_linotyperef09_list7, f_linotyperef09_list8 with
  | some a, some b, some c, some d, some e, some f, some g, some h => [a, b, c, d, e, f, g, h] == [ofv gT 1, ofv gT 2, ofv gT 3, ofv gT 4, ofv gT 5, ofv gT 6, ofv gT 7, ofv gT 8] | _, _, _, _, _, _, _, _ => false) = true := by kernel_rfl
theorem cT_of : (match f_linotyperef11_list1, f_linotyperef11_list2, f_linotyperef11_list3 with
  | some a, some b, some c => [a, b, c] == [ofv cT 1, ofv cT 2, ofv cT 3] | _, _, _ => false) = true := by kernel_rfl
theorem eT_of : (match f_linotyperef12_list1, f_linotyperef12_list2, f_linotyperef12_list3 with
  | some a, some b, some c => [a, b, c] == [ofv eT 1, ofv eT 2, ofv eT 3] | _, _, _ => false) = true := by kernel_rfl
theorem pT_of : (f_linotyperef10_list == some pT) = true := by kernel_rfl
theorem ofv_len (T : List (Int × Int × Int)) (v : Int) : (ofv T v).length ≤ T.length := by
  unfold ofv
  rw [List.length_map]
  exact List.length_filter_le _ _
theorem ref09 (r : Int) (h : r32 r) : f_linotyperef09_Of r = some ((lk gT r).getD (hcl r)) := by
  have hl := gT_of
  unfold f_linotyperef09_Of
  split at hl
  · rename_i a b c d e f g hh ea eb ec ed ee ef eg eh
    rw [ea, eb, ec, ed, ee, ef, eg, eh]
    simp only [bsm]
    have hl2 := eq_of_beq hl
    rw [hl2]
    refine lists_eqB (n := 8) (by decide) (v := lk gT r) (fun k hk => ?_) (by rfl) (fun x hx => ?_) rfl ?_
    · have hi : idx ([ofv gT 1, ofv gT 2, ofv gT 3, ofv gT 4, ofv gT 5, ofv gT 6, ofv gT 7, ofv gT 8] : List (List (Int × Int))) (k : Int) = some (ofv gT ((k : Int) + 1)) := by
        rw [idx_nat]
        match k, hk with
        | 0, _ => rfl
        | 1, _ => rfl
        | 2, _ => rfl
        | 3, _ => rfl
        | 4, _ => rfl
        | 5, _ => rfl
        | 6, _ => rfl
        | 7, _ => rfl
      simp only [hi, bsm]
      rw [if_pos (by simp; omega), ref_in _ (Nat.le_trans (ofv_len _ _) gT_l) r h, inl_ofv gT_s, w64_in (by omega)]
      simp only [bsm]
      rw [ite_b (p := lk gT r = some ((k : Int) + 1)) (by simp)]
      rfl
    · have := lk_in (p := fun v => decide (1 ≤ v) && decide (v ≤ 8)) gT_v hx
      simpa using this
    · cases lk gT r with
      | none => show ((f_linotyperef08_Class r).bind fun o => some o) = _; rw [ref_class r h]; rfl
      | some x => rfl
  · cases hl
theorem ref11 (r : Int) (h : r32 r) : f_linotyperef11_Of r = some ((lk cT r).getD 0) := by
  have hl := cT_of
  unfold f_linotyperef11_Of
  split at hl
  · rename_i a b c ea eb ec
    rw [ea, eb, ec]
    simp only [bsm]
    have hl2 := eq_of_beq hl
    rw [hl2]
    refine lists_eqB (n := 3) (by decide) (v := lk cT r) (fun k hk => ?_) (by rfl) (fun x hx => ?_) rfl ?_
    · have hi : idx ([ofv cT 1, ofv cT 2, ofv cT 3] : List (List (Int × Int))) (k : Int) = some (ofv cT ((k : Int) + 1)) := by
        rw [idx_nat]
        match k, hk with
        | 0, _ => rfl
        | 1, _ => rfl
        | 2, _ => rfl
      simp only [hi, bsm]
      rw [if_pos (by simp; omega), ref_in _ (Nat.le_trans (ofv_len _ _) cT_l) r h, inl_ofv cT_s, w64_in (by omega)]
      simp only [bsm]
      rw [ite_b (p := lk cT r = some ((k : Int) + 1)) (by simp)]
      rfl
    · have := lk_in (p := fun v => decide (1 ≤ v) && decide (v ≤ 3)) cT_v hx
      simpa using this
    · cases lk cT r <;> rfl
  · cases hl
theorem ref12 (r : Int) (h : r32 r) : f_linotyperef12_Of r = some ((lk eT r).getD 0) := by
  have hl := eT_of
  unfold f_linotyperef12_Of
  split at hl
  · rename_i a b c ea eb ec
    rw [ea, eb, ec]
    simp only [bsm]
    have hl2 := eq_of_beq hl
    rw [hl2]
    refine lists_eqB (n := 3) (by decide) (v := lk eT r) (fun k hk => ?_) (by rfl) (fun x hx => ?_) rfl ?_
    · have hi : idx ([ofv eT 1, ofv eT 2, ofv eT 3] : List (List (Int × Int))) (k : Int) = some (ofv eT ((k : Int) + 1)) := by
        rw [idx_nat]
        match k, hk with
        | 0, _ => rfl
        | 1, _ => rfl
        | 2, _ => rfl
      simp only [hi, bsm]
      rw [if_pos (by simp; omega), ref_in _ (Nat.le_trans (ofv_len _ _) eT_l) r h, inl_ofv eT_s, w64_in (by omega)]
      simp only [bsm]
      rw [ite_b (p := lk eT r = some ((k : Int) + 1)) (by simp)]
      rfl
    · have := lk_in (p := fun v => decide (1 ≤ v) && decide (v ≤ 3)) eT_v hx
      simpa using this
    · cases lk eT r <;> rfl
  · cases hl
/-- Is a number a picture? -/
def pic (r : Int) : Bool := (fnd (fun x : Int × Int => x.1) (fun x => x.2) pT r).isSome
theorem inl_pic (r : Int) : inl_ pT r = pic r := by
  unfold inl_ pic fnd
  rw [Bool.eq_iff_iff, List.find?_isSome, List.any_eq_true]
theorem ref10 (r : Int) (h : r32 r) : f_linotyperef10_Is r = some (pic r) := by
  unfold f_linotyperef10_Is
  rw [eq_of_beq pT_of]
  simp only [bsm]
  rw [ref_in _ pT_l r h, inl_pic]
  rfl
/-- All that is known of a number. -/
def pr (r : Int) : G_api_Prop := ⟨(lk gT r).getD (hcl r), pic r, (lk cT r).getD 0, (lk eT r).getD 0⟩
theorem ref13 (r : Int) (h : r32 r) : f_linotyperef13_Of r = some (pr r) := by
  unfold f_linotyperef13_Of
  rw [ref09 r h, ref10 r h, ref11 r h, ref12 r h]
  rfl

/-! ### searches -/
theorem mid_lt {a b n : Nat} (h : a < b) (hb : b ≤ n) : (a + b) / 2 < n := by omega
theorem gcb_of (r : Int) (h : r32 r) : f_gcb_Of r = some ((lk gT r).getD (hcl r)) := by
  have hw := h.w
  have hlen := gT_l
  unfold f_gcb_Of
  rw [gT_eq]
  simp only [bsm]
  obtain ⟨i, e1, e2, e3, e4⟩ := search_eq gT_s gT_l r (step := fun s_7 =>
    if (decide (s_7.1 < s_7.2)) = true then
    (f_gcb_Of_1 (w64 ((IntKind.u64.wrap (w64 (s_7.1 + s_7.2))).fdiv (2 ^ 1))) gT r).bind fun x_22 =>
    if (!x_22) = true then
    some (.inl ((w64 ((w64 ((IntKind.u64.wrap (w64 (s_7.1 + s_7.2))).fdiv (2 ^ 1))) + 1)), s_7.2))
    else
    some (.inl (s_7.1, (w64 ((IntKind.u64.wrap (w64 (s_7.1 + s_7.2))).fdiv (2 ^ 1)))))
    else
    some (.inr (s_7.1))) (fun a b hab hb => by
      simp only
      rw [if_pos (by simp; omega), half (by omega)]
      unfold f_gcb_Of_1
      rw [idx_at (mid_lt hab hb), hw]
      simp only [bsm]
      by_cases hr : r ≤ (gT[(a + b) / 2]'(mid_lt hab hb)).2.1
      · rw [if_neg (by simpa using hr), if_pos hr]
      · rw [if_pos (by simpa using hr), if_neg hr, w64_in (by omega)]
        rfl) (fun a => by simp only; rw [if_neg (by simp)])
  unfold f_sort_Search__gcb_Of_1
  rw [e1]
  simp only [bsm, hw]
  have hf := fnd_at gT_s e3 e4
  unfold lk
  rw [hf]
  by_cases hi : i < gT.length
  · rw [dif_pos hi, idx_at hi]
    simp only [bsm, andE_some]
    by_cases hlo : gT[i].1 ≤ r
    · rw [if_pos (by simp; exact ⟨hi, hlo⟩), if_pos hlo]
      rfl
    · rw [if_neg (by simp; omega), if_neg hlo, hangul_class r h]
      rfl
  · rw [dif_neg hi, show decide ((i : Int) < (gT.length : Int)) = false by simp; omega, andE_false]
    simp only [bsm]
    rw [if_neg (by decide), hangul_class r h]
    rfl
theorem conj_of (r : Int) (h : r32 r) : f_conj_Of r = some ((lk cT r).getD 0) := by
  have hw := h.w
  have hlen := cT_l
  unfold f_conj_Of
  rw [cT_eq]
  simp only [bsm]
  obtain ⟨i, e1, e2, e3, e4⟩ := search_eq cT_s cT_l r (step := fun s_7 =>
    if (decide (s_7.1 < s_7.2)) = true then
    (f_conj_Of_1 (w64 ((IntKind.u64.wrap (w64 (s_7.1 + s_7.2))).fdiv (2 ^ 1))) cT r).bind fun x_22 =>
    if (!x_22) = true then
    some (.inl ((w64 ((w64 ((IntKind.u64.wrap (w64 (s_7.1 + s_7.2))).fdiv (2 ^ 1))) + 1)), s_7.2))
    else
    some (.inl (s_7.1, (w64 ((IntKind.u64.wrap (w64 (s_7.1 + s_7.2))).fdiv (2 ^ 1)))))
    else
    some (.inr (s_7.1))) (fun a b hab hb => by
      simp only
      rw [if_pos (by simp; omega), half (by omega)]
      unfold f_conj_Of_1
      rw [idx_at (mid_lt hab hb), hw]
      simp only [bsm]
      by_cases hr : r ≤ (cT[(a + b) / 2]'(mid_lt hab hb)).2.1
      · rw [if_neg (by simpa using hr), if_pos hr]
      · rw [if_pos (by simpa using hr), if_neg hr, w64_in (by omega)]
        rfl) (fun a => by simp only; rw [if_neg (by simp)])
  unfold f_sort_Search__conj_Of_1
  rw [e1]
  simp only [bsm, hw]
  have hf := fnd_at cT_s e3 e4
  unfold lk
  rw [hf]
  by_cases hi : i < cT.length
  · rw [dif_pos hi, idx_at hi]
    simp only [bsm, orE_some]
    by_cases hlo : cT[i].1 ≤ r
    · rw [if_neg (by simp; omega), if_pos hlo]
      rfl
    · rw [if_pos (by simp; omega), if_neg hlo]
      rfl
  · rw [dif_neg hi, show ((i : Int) == (cT.length : Int)) = true by simp; omega, orE_true]
    simp only [bsm]
    rw [if_pos trivial]
    rfl
theorem east_of (r : Int) (h : r32 r) : f_east_Of r = some ((lk eT r).getD 0) := by
  have hw := h.w
  have hlen := eT_l
  unfold f_east_Of
  rw [eT_eq]
  simp only [bsm]
  obtain ⟨i, e1, e2, e3, e4⟩ := search_eq eT_s eT_l r (step := fun s_7 =>
    if (decide (s_7.1 < s_7.2)) = true then
    (f_east_Of_1 (w64 ((IntKind.u64.wrap (w64 (s_7.1 + s_7.2))).fdiv (2 ^ 1))) eT r).bind fun x_22 =>
    if (!x_22) = true then
    some (.inl ((w64 ((w64 ((IntKind.u64.wrap (w64 (s_7.1 + s_7.2))).fdiv (2 ^ 1))) + 1)), s_7.2))
    else
    some (.inl (s_7.1, (w64 ((IntKind.u64.wrap (w64 (s_7.1 + s_7.2))).fdiv (2 ^ 1)))))
    else
    some (.inr (s_7.1))) (fun a b hab hb => by
      simp only
      rw [if_pos (by simp; omega), half (by omega)]
      unfold f_east_Of_1
      rw [idx_at (mid_lt hab hb), hw]
      simp only [bsm]
      by_cases hr : r ≤ (eT[(a + b) / 2]'(mid_lt hab hb)).2.1
      · rw [if_neg (by simpa using hr), if_pos hr]
      · rw [if_pos (by simpa using hr), if_neg hr, w64_in (by omega)]
        rfl) (fun a => by simp only; rw [if_neg (by simp)])
  unfold f_sort_Search__east_Of_1
  rw [e1]
  simp only [bsm, hw]
  have hf := fnd_at eT_s e3 e4
  unfold lk
  rw [hf]
  by_cases hi : i < eT.length
  · rw [dif_pos hi, idx_at hi]
    simp only [bsm, orE_some]
    by_cases hlo : eT[i].1 ≤ r
    · rw [if_neg (by simp; omega), if_pos hlo]
      rfl
    · rw [if_pos (by simp; omega), if_neg hlo]
      rfl
  · rw [dif_neg hi, show ((i : Int) == (eT.length : Int)) = true by simp; omega, orE_true]
    simp only [bsm]
    rw [if_pos trivial]
    rfl
theorem pict_is (r : Int) (h : r32 r) : f_pict_Is r = some (pic r) := by
  have hlen := pT_l
  unfold f_pict_Is
  rw [pT_eq]
  simp only [bsm]
  obtain ⟨i, e1, e2, e3, e4⟩ := search_eq pT_s pT_l r (step := fun s_7 =>
    if (decide (s_7.1 < s_7.2)) = true then
    (f_pict_Is_1 (w64 ((IntKind.u64.wrap (w64 (s_7.1 + s_7.2))).fdiv (2 ^ 1))) pT r).bind fun x_22 =>
    if (!x_22) = true then
    some (.inl ((w64 ((w64 ((IntKind.u64.wrap (w64 (s_7.1 + s_7.2))).fdiv (2 ^ 1))) + 1)), s_7.2))
    else
    some (.inl (s_7.1, (w64 ((IntKind.u64.wrap (w64 (s_7.1 + s_7.2))).fdiv (2 ^ 1)))))
    else
    some (.inr (s_7.1))) (fun a b hab hb => by
      simp only
      rw [if_pos (by simp; omega), half (by omega)]
      unfold f_pict_Is_1
      rw [idx_at (mid_lt hab hb)]
      simp only [bsm]
      by_cases hr : r ≤ (pT[(a + b) / 2]'(mid_lt hab hb)).2
      · rw [if_neg (by simpa using hr), if_pos hr]
      · rw [if_pos (by simpa using hr), if_neg hr, w64_in (by omega)]
        rfl) (fun a => by simp only; rw [if_neg (by simp)])
  unfold f_sort_Search__pict_Is_1
  rw [e1]
  simp only [bsm]
  have hf := fnd_at pT_s e3 e4
  unfold pic
  rw [hf]
  by_cases hi : i < pT.length
  · rw [dif_pos hi, idx_at hi]
    simp only [bsm, andE_some]
    by_cases hlo : pT[i].1 ≤ r
    · rw [if_pos hlo]
      simp [hi, hlo]
    · rw [if_neg hlo]
      simp [hlo]
  · rw [dif_neg hi, show decide ((i : Int) < (pT.length : Int)) = false by simp; omega, andE_false]
    rfl
theorem ucd_of (r : Int) (h : r32 r) : f_ucd_Of r = some (pr r) := by
  unfold f_ucd_Of
  rw [gcb_of r h, pict_is r h, conj_of r h, east_of r h]
  rfl
end Go.Proofs.YthokmpbbkpjhbaaGreatDoor
