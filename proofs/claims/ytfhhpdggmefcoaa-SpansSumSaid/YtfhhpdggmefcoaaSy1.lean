/-
  Spans, in plain Lean: right lists, values, the fewest. Conditions: lists are shorter than 10^6.
-/
import Derived.Test.YtfhhpdggmefcoaaUa
import Derived.Test.YtfhhpdggmefcoaaP3
import Derived.KernelRfl
namespace Go.Proofs.Ytfhhpdggmefcoaa
open Go Go.Lt
variable {l a b : List G_api_Span} {p n : Int}

theorem all_take_s {α : Type} (q : α → Bool) (l : List α) (i : Nat) (h : i < l.length) : (l.take (i + 1)).all q = ((l.take i).all q && q l[i]) := by
  rw [List.take_succ_eq_append_getElem h, List.all_append]
  simp
/-! ### right lists -/
def sok (s : G_api_Span) : Bool := decide (s.Lo ≤ s.Hi) && decide (s.Hi ≤ 1114111) && decide (1 ≤ s.Val) && decide (s.Val ≤ 65535)
theorem sok_iff {s : G_api_Span} : sok s = true ↔ s.Lo ≤ s.Hi ∧ s.Hi ≤ 1114111 ∧ 1 ≤ s.Val ∧ s.Val ≤ 65535 := by
  simp only [sok, Bool.and_eq_true, decide_eq_true_eq]
  omega
def rt : Int → List G_api_Span → Bool
  | _, [] => true
  | p, s :: l => decide (p < s.Lo) && sok s && rt s.Hi l
/-- The last number that has a value. -/
def lh : Int → List G_api_Span → Int
  | p, [] => p
  | _, s :: l => lh s.Hi l
theorem rt_app : rt p (a ++ b) = (rt p a && rt (lh p a) b) := by
  induction a generalizing p with
  | nil => rfl
  | cons s a ih => simp only [List.cons_append, rt, lh, ih, Bool.and_assoc]
theorem lh_app : lh p (a ++ b) = lh (lh p a) b := by
  induction a generalizing p with
  | nil => rfl
  | cons s a ih => simp only [List.cons_append, lh, ih]
theorem lh_ge (h : rt p a = true) : p ≤ lh p a := by
  induction a generalizing p with
  | nil => exact Int.le_refl _
  | cons s a ih =>
    simp only [rt, Bool.and_eq_true, decide_eq_true_eq] at h
    have h1 := sok_iff.1 h.1.2
    have := ih h.2
    simp only [lh]
    omega
theorem rt_mem (h : rt p l = true) : ∀ s ∈ l, p < s.Lo ∧ s.Lo ≤ s.Hi ∧ s.Hi ≤ 1114111 ∧ 1 ≤ s.Val ∧ s.Val ≤ 65535 ∧ s.Hi ≤ lh p l := by
  induction l generalizing p with
  | nil => intro s hs; cases hs
  | cons t l ih =>
    simp only [rt, Bool.and_eq_true, decide_eq_true_eq] at h
    have h1 := sok_iff.1 h.1.2
    intro s hs
    simp only [lh]
    rcases List.mem_cons.1 hs with rfl | hs
    · have := lh_ge h.2
      omega
    · have := ih h.2 s hs
      omega
theorem rt_take (h : rt p l = true) (i : Nat) : rt p (l.take i) = true := by
  rw [← List.take_append_drop i l, rt_app, Bool.and_eq_true] at h
  exact h.1
theorem rt_succ {i : Nat} (h : i < l.length) : rt p (l.take (i + 1)) = (rt p (l.take i) && (decide (lh p (l.take i) < l[i].Lo) && sok l[i])) := by
  rw [List.take_succ_eq_append_getElem h, rt_app]
  simp [rt]
theorem lh_succ {i : Nat} (h : i < l.length) : lh p (l.take (i + 1)) = l[i].Hi := by
  rw [List.take_succ_eq_append_getElem h, lh_app]
  rfl
theorem lh_lim (h : rt p a = true) (hp : p ≤ 1114111) : lh p a ≤ 1114111 := by
  induction a generalizing p with
  | nil => exact hp
  | cons s a ih =>
    simp only [rt, Bool.and_eq_true, decide_eq_true_eq] at h
    exact ih h.2 (sok_iff.1 h.1.2).2.1
theorem rt_bad {i : Nat} (h : i < l.length) (hb : (decide (lh p (l.take i) < l[i].Lo) && sok l[i]) = false) : rt p l = false := by
  cases hh : rt p l with
  | false => rfl
  | true =>
    have := rt_take hh (i + 1)
    rw [rt_succ h, hb, Bool.and_false] at this
    cases this
theorem right_eq (hl : l.length ≤ 1000000) : f_spans_Right l = some (rt (-1) l) := by
  unfold f_spans_Right
  refine iter_forB (n := l.length) (fun i st => st = (lh (-1) (l.take i), (i : Int)) ∧ rt (-1) (l.take i) = true) (fun t => match t with | .inl x => x = false ∧ rt (-1) l = false | .inr _ => rt (-1) l = true) (fun i st hi hI => ?_) (fun st hI => ?_) ⟨rfl, rfl⟩ (by omega) (fun t ht => ?_)
  · obtain ⟨e, hr⟩ := hI
    subst e
    simp only
    rw [if_pos (dlt hi), idx_at hi, w64_succ hi (by omega)]
    simp only [bsm, orE_some]
    have hs := rt_succ (p := -1) hi
    by_cases hc : (decide (lh (-1) (l.take i) < l[i].Lo) && sok l[i]) = true
    · rw [hr, hc] at hs
      rw [Bool.and_eq_true, decide_eq_true_eq, sok_iff] at hc
      rw [if_neg (by simp only [Bool.or_eq_true, decide_eq_true_eq]; omega)]
      exact .inl ⟨_, rfl, by rw [lh_succ hi], hs⟩
    · rw [Bool.not_eq_true] at hc
      refine .inr ⟨.inl false, ?_, rfl, rt_bad hi hc⟩
      rw [if_pos]
      rw [Bool.and_eq_false_iff, decide_eq_false_iff_not] at hc
      simp only [Bool.or_eq_true, decide_eq_true_eq]
      rcases hc with hc | hc
      · omega
      · have := mt sok_iff.2 (by rw [hc]; simp)
        omega
  · obtain ⟨e, hr⟩ := hI
    subst e
    rw [List.take_length] at hr
    exact ⟨.inr (), by simp only; rw [if_neg (by simp)], hr⟩
  · cases t with
    | inl x => obtain ⟨rfl, h⟩ := ht; rw [h]
    | inr x => simp only at ht; rw [ht]
theorem rright_eq (hl : l.length ≤ 1000000) : f_linotyperef06_Right l = some (rt (-1) l) := by
  unfold f_linotyperef06_Right
  refine iter_forB (n := l.length) (fun i st => st = (i : Int) ∧ rt (-1) (l.take i) = true) (fun t => match t with | .inl x => x = false ∧ rt (-1) l = false | .inr _ => rt (-1) l = true) (fun i st hi hI => ?_) (fun st hI => ?_) ⟨rfl, rfl⟩ (by omega) (fun t ht => ?_)
  · obtain ⟨e, hr⟩ := hI
    subst e
    rw [if_pos (dlt hi), idx_at hi, w64_succ hi (by omega)]
    simp only [bsm, orE_some]
    have hs := rt_succ (p := -1) hi
    have hlast : (andE (decide ((i : Int) > 0)) ((idx l (w64 ((i : Int) - 1))).bind fun p => some (decide (l[i].Lo ≤ p.Hi)))) = some (decide (0 < i) && decide (l[i].Lo ≤ lh (-1) (l.take i))) := by
      cases i with
      | zero => rfl
      | succ k =>
        rw [w64_in (by omega), show ((k + 1 : Nat) : Int) - 1 = (k : Int) by omega, idx_at (show k < l.length by omega), lh_succ (show k < l.length by omega)]
        simp [andE]
    rw [hlast]
    simp only [bsm, orE_some]
    have hge := lh_ge hr
    have h0 : i = 0 → lh (-1) (l.take i) = -1 := fun e => by subst e; rfl
    by_cases hc : (decide (lh (-1) (l.take i) < l[i].Lo) && sok l[i]) = true
    · rw [hr, hc] at hs
      rw [Bool.and_eq_true, decide_eq_true_eq, sok_iff] at hc
      rw [if_neg (by simp only [Bool.or_eq_true, Bool.and_eq_true, decide_eq_true_eq]; omega)]
      exact .inl ⟨_, rfl, rfl, hs⟩
    · rw [Bool.not_eq_true] at hc
      refine .inr ⟨.inl false, ?_, rfl, rt_bad hi hc⟩
      rw [if_pos]
      rw [Bool.and_eq_false_iff, decide_eq_false_iff_not] at hc
      simp only [Bool.or_eq_true, Bool.and_eq_true, decide_eq_true_eq]
      rcases hc with hc | hc
      · by_cases hz : i = 0
        · have := h0 hz
          omega
        · omega
      · have := mt sok_iff.2 (by rw [hc]; simp)
        omega
  · obtain ⟨e, hr⟩ := hI
    subst e
    rw [List.take_length] at hr
    exact ⟨.inr (), by rw [if_neg (by simp)], hr⟩
  · cases t with
    | inl x => obtain ⟨rfl, h⟩ := ht; rw [h]
    | inr x => simp only at ht; rw [ht]

/-! ### values -/
def vat (n : Int) : List G_api_Span → Int
  | [] => 0
  | s :: l => if s.Lo ≤ n ∧ n ≤ s.Hi then s.Val else vat n l
theorem vat_right (h : ∀ s ∈ a, s.Hi < n) : vat n (a ++ b) = vat n b := by
  induction a with
  | nil => rfl
  | cons s a ih =>
    have := h s (by simp)
    simp only [List.cons_append, vat]
    rw [if_neg (by omega), ih fun t ht => h t (by simp [ht])]
theorem vat_zero (h : ∀ s ∈ b, n < s.Lo ∨ s.Hi < n) : vat n b = 0 := by
  induction b with
  | nil => rfl
  | cons s b ih =>
    have := h s (by simp)
    simp only [vat]
    rw [if_neg (by omega), ih fun t ht => h t (by simp [ht])]
theorem vat_left (h : ∀ s ∈ b, n < s.Lo ∨ s.Hi < n) : vat n (a ++ b) = vat n a := by
  induction a with
  | nil => exact vat_zero h
  | cons s a ih => simp only [List.cons_append, vat, ih]
theorem vat_at (h : rt p l = true) {s : G_api_Span} (hs : s ∈ l) (h1 : s.Lo ≤ n) (h2 : n ≤ s.Hi) : vat n l = s.Val := by
  induction l generalizing p with
  | nil => cases hs
  | cons t l ih =>
    have hr := h
    simp only [rt, Bool.and_eq_true, decide_eq_true_eq] at h
    simp only [vat]
    rcases List.mem_cons.1 hs with rfl | hs
    · rw [if_pos ⟨h1, h2⟩]
    · have := rt_mem h.2 s hs
      rw [if_neg (by omega), ih h.2 hs]
theorem vat_in (h : rt p l = true) : 0 ≤ vat n l ∧ vat n l ≤ 65535 := by
  induction l generalizing p with
  | nil => simp [vat]
  | cons s l ih =>
    have := rt_mem h s (by simp)
    simp only [rt, Bool.and_eq_true, decide_eq_true_eq] at h
    simp only [vat]
    split
    · omega
    · exact ih h.2
theorem vat_pos (h : vat n l ≠ 0) : ∃ s ∈ l, s.Lo ≤ n ∧ n ≤ s.Hi := by
  induction l with
  | nil => simp [vat] at h
  | cons s l ih =>
    simp only [vat] at h
    split at h
    · rename_i q; exact ⟨s, by simp, q⟩
    · obtain ⟨t, h1, h2⟩ := ih h
      exact ⟨t, by simp [h1], h2⟩
theorem vat_const {c : Int} (hc : c ≤ n) (h : ∀ s ∈ l, ¬ (c < s.Lo ∧ s.Lo ≤ n) ∧ ¬ (c < s.Hi + 1 ∧ s.Hi + 1 ≤ n)) : vat n l = vat c l := by
  induction l with
  | nil => rfl
  | cons s l ih =>
    have := h s (by simp)
    simp only [vat]
    rw [ih fun t ht => h t (by simp [ht])]
    by_cases q : s.Lo ≤ n ∧ n ≤ s.Hi
    · rw [if_pos q, if_pos (by omega)]
    · rw [if_neg q, if_neg (by omega)]
theorem rfind_eq (hl : l.length ≤ 1000000) (n : Int) : f_linotyperef06_Find l n = some (vat n l) := by
  unfold f_linotyperef06_Find
  refine iter_forB (n := l.length) (fun i st => st = (i : Int) ∧ vat n l = vat n (l.drop i)) (fun t => match t with | .inl x => x = vat n l | .inr _ => vat n l = 0) (fun i st hi hI => ?_) (fun st hI => ?_) ⟨rfl, rfl⟩ (by omega) (fun t ht => ?_)
  · obtain ⟨e, hv⟩ := hI
    subst e
    rw [if_pos (dlt hi), idx_at hi, w64_succ hi (by omega)]
    simp only [bsm, andE_some]
    rw [List.drop_eq_getElem_cons hi] at hv
    simp only [vat] at hv
    by_cases hc : l[i].Lo ≤ n ∧ n ≤ l[i].Hi
    · rw [if_pos (by simpa using hc)]
      rw [if_pos hc] at hv
      exact .inr ⟨_, rfl, hv.symm⟩
    · rw [if_neg (by simpa using hc)]
      rw [if_neg hc] at hv
      exact .inl ⟨_, rfl, rfl, hv⟩
  · obtain ⟨e, hv⟩ := hI
    subst e
    rw [List.drop_length] at hv
    exact ⟨.inr (), by rw [if_neg (by simp)], hv⟩
  · cases t with
    | inl x => simp only at ht; rw [ht]
    | inr x => simp only at ht; rw [ht]
theorem rt_srtd (h : rt p l = true) : srtd (·.Lo) (·.Hi) l = true := by
  induction l generalizing p with
  | nil => rfl
  | cons s l ih =>
    simp only [rt, Bool.and_eq_true, decide_eq_true_eq] at h
    have h1 := sok_iff.1 h.1.2
    simp only [srtd, Bool.and_eq_true, decide_eq_true_eq]
    refine ⟨⟨h1.1, ?_⟩, ih h.2⟩
    cases l with
    | nil => rfl
    | cons t l =>
      have h2 := h.2
      simp only [rt, Bool.and_eq_true, decide_eq_true_eq] at h2
      simp only [decide_eq_true_eq]
      exact h2.1.1
theorem find_eq (h : rt (-1) l = true) (hl : l.length ≤ 1000000) (n : Int) : f_spans_find l n = some (vat n l) := by
  obtain ⟨i, e1, hi, h1, h2⟩ := search_eq (rt_srtd h) hl n (step := fun a =>
     if (decide (a.1 < a.2)) = true then
     (f_spans_at_1 (w64 ((IntKind.u64.wrap (w64 (a.1 + a.2))).fdiv (2 ^ 1))) l n).bind fun b =>
     if (!b) = true then
     some (.inl ((w64 ((w64 ((IntKind.u64.wrap (w64 (a.1 + a.2))).fdiv (2 ^ 1))) + 1)), a.2))
     else
     some (.inl (a.1, (w64 ((IntKind.u64.wrap (w64 (a.1 + a.2))).fdiv (2 ^ 1)))))
     else
     some (.inr (a.1)))
    (fun a b hab hb => by
      simp only
      rw [if_pos (dlt hab), half (by omega)]
      unfold f_spans_at_1
      rw [idx_at (show (a + b) / 2 < l.length by omega)]
      simp only [bsm]
      rw [w64_succ (show (a + b) / 2 < l.length by omega) (by omega)]
      by_cases hr : n ≤ (l[(a + b) / 2]'(by omega)).Hi
      · rw [if_neg (by simpa using hr), if_pos hr]
      · rw [if_pos (by simpa using hr), if_neg hr])
    (fun a => by simp only; rw [if_neg (by simp)])
  have hat : f_spans_at l n = some (i : Int) := by
    unfold f_spans_at f_sort_Search__spans_at_1
    rw [e1]
    rfl
  unfold f_spans_find
  rw [hat]
  simp only [bsm]
  have hv : vat n l = vat n (l.drop i) := by
    conv => lhs; rw [← List.take_append_drop i l]
    refine vat_right fun s hs => ?_
    obtain ⟨j, hj, e⟩ := List.mem_iff_getElem.1 hs
    rw [List.getElem_take] at e
    rw [List.length_take] at hj
    have := h1 j (by omega) (by omega)
    rw [e] at this
    exact this
  by_cases hlt : i < l.length
  · rw [dlt hlt, idx_at hlt]
    simp only [andE_true, bsm]
    rw [List.drop_eq_getElem_cons hlt] at hv
    simp only [vat] at hv
    have hge := h2 i hlt (Nat.le_refl _)
    by_cases hlo : l[i].Lo ≤ n
    · rw [if_pos (by simpa using hlo)]
      rw [if_pos ⟨hlo, hge⟩] at hv
      rw [hv]
    · rw [if_neg (by simpa using hlo)]
      rw [if_neg (fun q => hlo q.1)] at hv
      rw [hv]
      have hd := h
      rw [← List.take_append_drop (i + 1) l, rt_app, Bool.and_eq_true, lh_succ hlt] at hd
      rw [vat_zero fun s hs => ?_]
      have := rt_mem hd.2 s hs
      omega
  · rw [show decide ((i : Int) < (l.length : Int)) = false by simp; omega]
    simp only [andE_false, bsm, Bool.false_eq_true, if_false]
    rw [List.drop_of_length_le (by omega)] at hv
    rw [hv]
    rfl
theorem Find_eq (hl : l.length ≤ 1000000) (n : Int) : f_spans_Find l n = some (if rt (-1) l = true then vat n l else 0) := by
  unfold f_spans_Find
  rw [right_eq hl]
  simp only [bsm]
  cases h : rt (-1) l with
  | false => rfl
  | true =>
    rw [find_eq h hl]
    rfl
end Go.Proofs.Ytfhhpdggmefcoaa
