/-
  Spans, in plain Lean: spans laid behind one another, the fewest, how many numbers have a value; SpansTell and SpansFewest answer true. Conditions: lists are shorter than 2^63.
-/
import Derived.Test.YtfhhpdggmefcoaaSy1
import Derived.Test.YtfhhpdggmefcoaaP4
namespace Go.Proofs.Ytfhhpdggmefcoaa
open Go Go.Lt
variable {l a b : List G_api_Span} {p n : Int}

/-! ### laid behind one another -/
def mrg (t s : G_api_Span) : Bool := (t.Val == s.Val) && (t.Hi == s.Lo - 1)
def lyy (l : List G_api_Span) (s : G_api_Span) : List G_api_Span :=
  match l.getLast? with
  | some t => if mrg t s = true then l.dropLast ++ [⟨t.Lo, s.Hi, t.Val⟩] else l ++ [s]
  | none => [s]
theorem lyy_nil (s : G_api_Span) : lyy [] s = [s] := rfl
theorem lyy_snoc (a : List G_api_Span) (t s : G_api_Span) : lyy (a ++ [t]) s = if mrg t s = true then a ++ [⟨t.Lo, s.Hi, t.Val⟩] else a ++ [t] ++ [s] := by
  unfold lyy
  simp
theorem snoc_of (l : List G_api_Span) : l = [] ∨ ∃ a t, l = a ++ [t] := by
  rcases List.eq_nil_or_concat l with h | ⟨a, t, h⟩
  · exact .inl h
  · exact .inr ⟨a, t, by simpa using h⟩
theorem lyy_len (l : List G_api_Span) (s : G_api_Span) : (lyy l s).length ≤ l.length + 1 := by
  rcases snoc_of l with rfl | ⟨a, t, rfl⟩
  · simp [lyy_nil]
  · rw [lyy_snoc]
    split <;> simp
theorem lay_eq (hl : l.length ≤ 1000000) {s : G_api_Span} (h1 : -1000000000 ≤ s.Lo) (h2 : s.Lo ≤ 1000000000) : f_spans_lay l s = some (lyy l s) := by
  unfold f_spans_lay
  rw [w64_in (n := (l.length : Int) - 1) (by omega), w64_in (n := s.Lo - 1) (by omega)]
  rcases snoc_of l with rfl | ⟨a, t, rfl⟩
  · simp only [List.length_nil]
    rw [show decide (((0 : Nat) : Int) - 1 ≥ 0) = false by decide]
    simp only [andE_false, bsm, Bool.false_eq_true, if_false]
    rw [app_eq (by simp)]
    rfl
  · have hlen : ((a ++ [t]).length : Int) - 1 = (a.length : Int) := by simp
    have hlt : a.length < (a ++ [t]).length := by simp
    have hget : (a ++ [t])[a.length]'hlt = t := by simp
    rw [hlen, idx_at hlt, hget, show decide ((a.length : Int) ≥ 0) = true by simp, lyy_snoc]
    simp only [bsm, andE_some, Bool.true_and]
    by_cases hm : mrg t s = true
    · rw [if_pos hm, if_pos (show (t.Val == s.Val && t.Hi == s.Lo - 1) = true from hm), sets_nat hlt]
      simp only [bsm]
      congr 1
      rw [List.set_append_right _ _ (Nat.le_refl _), Nat.sub_self]
      rfl
    · rw [if_neg hm, if_neg (show ¬ (t.Val == s.Val && t.Hi == s.Lo - 1) = true from hm), app_eq (by simp only [List.length_cons, List.length_nil]; omega)]
      rfl

/-! ### few -/
def few : List G_api_Span → Bool
  | [] => true
  | s :: l => (match l with | [] => true | t :: _ => !mrg s t) && few l
theorem few_snoc (a : List G_api_Span) (t s : G_api_Span) : few (a ++ [t] ++ [s]) = (few (a ++ [t]) && !mrg t s) := by
  induction a with
  | nil => simp [few]
  | cons x a ih =>
    simp only [List.cons_append, few]
    rw [ih, ← Bool.and_assoc]
    congr 1
    cases a <;> rfl
theorem few_last (a : List G_api_Span) {x y : G_api_Span} (h1 : x.Lo = y.Lo) (h2 : x.Val = y.Val) : few (a ++ [x]) = few (a ++ [y]) := by
  rcases snoc_of a with rfl | ⟨c, t, rfl⟩
  · rfl
  · rw [few_snoc, few_snoc]
    simp only [mrg, h1, h2]
theorem rfew_eq (hr0 : rt (-1) l = true) (hl : l.length ≤ 1000000) : f_linotyperef06_Few l = some (few l) := by
  have hbr : ∀ i (h : i + 1 < l.length), few (l.take (i + 2)) = (few (l.take (i + 1)) && !mrg l[i] l[i + 1]) := fun i h => by
    rw [List.take_succ_eq_append_getElem (show i + 1 < l.length from h), List.take_succ_eq_append_getElem (show i < l.length by omega), few_snoc]
  have hbad : ∀ i, few (l.take i) = false → few l = false := fun i h => by
    have key : ∀ (a b : List G_api_Span), few a = false → few (a ++ b) = false := by
      intro a b
      induction a with
      | nil => intro h; cases h
      | cons x a ih =>
        intro h
        simp only [few, Bool.and_eq_false_iff] at h
        simp only [List.cons_append, few, Bool.and_eq_false_iff]
        rcases h with h | h
        · left
          cases a with
          | nil => simp at h
          | cons y a => simpa using h
        · exact .inr (ih h)
    have := key (l.take i) (l.drop i) h
    rwa [List.take_append_drop] at this
  unfold f_linotyperef06_Few
  by_cases h0 : l.length = 0
  · obtain rfl := List.eq_nil_of_length_eq_zero h0
    rfl
  refine iter_forB (n := l.length - 1) (fun i st => st = ((i + 1 : Nat) : Int) ∧ few (l.take (i + 1)) = true) (fun t => match t with | .inl x => x = false ∧ few l = false | .inr _ => few l = true) (fun i st hi hI => ?_) (fun st hI => ?_) ⟨rfl, ?_⟩ (by omega) (fun t ht => ?_)
  · obtain ⟨e, hr⟩ := hI
    subst e
    have hi2 : i + 1 < l.length := by omega
    rw [if_pos (dlt hi2), idx_at hi2, w64_succ hi2 (by omega), w64_in (n := ((i + 1 : Nat) : Int) - 1) (by omega), show ((i + 1 : Nat) : Int) - 1 = (i : Int) by omega, idx_at (show i < l.length by omega)]
    simp only [bsm, andE_some]
    have hb := hbr i hi2
    rw [hr, Bool.true_and] at hb
    have hs := rt_mem hr0 _ (List.getElem_mem hi2)
    have hc : (l[i + 1].Val == l[i].Val && w64 (l[i + 1].Lo - 1) == l[i].Hi) = mrg l[i] l[i + 1] := by
      rw [w64_in (by omega), Bool.eq_iff_iff]
      simp only [mrg, Bool.and_eq_true, beq_iff_eq]
      omega
    rw [hc]
    cases hm : mrg l[i] l[i + 1] with
    | true =>
      rw [hm] at hb
      exact .inr ⟨.inl false, by simp, rfl, hbad _ hb⟩
    | false =>
      rw [hm] at hb
      exact .inl ⟨_, by simp, rfl, hb⟩
  · obtain ⟨e, hr⟩ := hI
    subst e
    rw [show l.length - 1 + 1 = l.length by omega, List.take_length] at hr
    exact ⟨.inr (), by rw [if_neg (by simp; omega)], hr⟩
  · have h1 : l.take 1 = [l[0]'(by omega)] := by
      rw [List.take_succ_eq_append_getElem (show 0 < l.length by omega)]
      rfl
    rw [h1]
    rfl
  · cases t with
    | inl x => obtain ⟨rfl, h⟩ := ht; rw [h]
    | inr x => simp only at ht; rw [ht]

/-! ### what a laid list is -/
def cn : List G_api_Span → Int
  | [] => 0
  | s :: l => s.Hi - s.Lo + 1 + cn l
theorem cn_app : cn (a ++ b) = cn a + cn b := by
  induction a with
  | nil => simp [cn]
  | cons s a ih => simp only [List.cons_append, cn, ih]; omega
structure Laid (l : List G_api_Span) : Prop where
  r : rt (-1) l = true
  f : few l = true
theorem Laid.nil : Laid [] := ⟨rfl, rfl⟩
theorem Laid.lay (h : Laid l) {s : G_api_Span} (h1 : lh (-1) l < s.Lo) (h2 : sok s = true) : Laid (lyy l s) ∧ lh (-1) (lyy l s) = s.Hi ∧ (∀ n, vat n (lyy l s) = if s.Lo ≤ n ∧ n ≤ s.Hi then s.Val else vat n l) ∧ cn (lyy l s) = cn l + (s.Hi - s.Lo + 1) := by
  have hs := sok_iff.1 h2
  have hadd : rt (-1) (l ++ [s]) = true := by
    rw [rt_app, h.r]
    simp [rt, h1, h2]
  have hval : ∀ n, vat n (l ++ [s]) = if s.Lo ≤ n ∧ n ≤ s.Hi then s.Val else vat n l := fun n => by
    split
    · rename_i q
      rw [vat_right fun t ht => by have := rt_mem h.r t ht; omega]
      simp only [vat]
      rw [if_pos q]
    · rename_i q
      exact vat_left fun t ht => by rw [List.mem_singleton.1 ht]; omega
  rcases snoc_of l with rfl | ⟨c, t, rfl⟩
  · rw [lyy_nil]
    refine ⟨⟨hadd, rfl⟩, rfl, fun n => hval n, ?_⟩
    simp [cn]
  · rw [lyy_snoc]
    have hlh : lh (-1) (c ++ [t]) = t.Hi := by rw [lh_app]; rfl
    rw [hlh] at h1
    by_cases hm : mrg t s = true
    · rw [if_pos hm]
      have hm2 : t.Val = s.Val ∧ t.Hi = s.Lo - 1 := by simpa [mrg] using hm
      have ht := rt_mem h.r t (by simp)
      have hr := h.r
      rw [rt_app, Bool.and_eq_true] at hr
      have hr2 := hr.2
      simp only [rt, Bool.and_eq_true, decide_eq_true_eq, and_true] at hr2
      refine ⟨⟨?_, ?_⟩, by rw [lh_app]; rfl, fun n => ?_, ?_⟩
      · rw [rt_app, hr.1]
        simp only [rt, Bool.true_and, Bool.and_true, Bool.and_eq_true, decide_eq_true_eq, sok_iff]
        omega
      · exact (few_last c (x := ⟨t.Lo, s.Hi, t.Val⟩) (y := t) rfl rfl).trans h.f
      · have hc := fun x hx => rt_mem hr.1 x hx
        by_cases hn : n < t.Lo
        · rw [vat_left (b := [⟨t.Lo, s.Hi, t.Val⟩]) (fun x hx => by rw [List.mem_singleton.1 hx]; exact .inl hn), if_neg (by omega), vat_left (b := [t]) (fun x hx => by rw [List.mem_singleton.1 hx]; exact .inl hn)]
        · rw [vat_right (fun x hx => by have := hc x hx; omega), vat_right (fun x hx => by have := hc x hx; omega)]
          simp only [vat]
          by_cases q : s.Lo ≤ n ∧ n ≤ s.Hi
          · rw [if_pos q, if_pos (by omega), hm2.1]
          · rw [if_neg q]
            by_cases q2 : t.Lo ≤ n ∧ n ≤ t.Hi
            · rw [if_pos q2, if_pos (by omega)]
            · rw [if_neg q2, if_neg (by omega)]
      · rw [cn_app, cn_app]
        simp only [cn]
        omega
    · rw [if_neg hm]
      refine ⟨⟨hadd, ?_⟩, by rw [lh_app]; rfl, fun n => hval n, ?_⟩
      · rw [few_snoc, h.f]
        simpa using hm
      · rw [cn_app]
        simp [cn]

/-! ### the fewest -/
def fw (l : List G_api_Span) : List G_api_Span := l.foldl lyy []
theorem fw_snoc (l : List G_api_Span) (s : G_api_Span) : fw (l ++ [s]) = lyy (fw l) s := by simp [fw]
theorem fw_spec (h : rt (-1) l = true) : Laid (fw l) ∧ lh (-1) (fw l) = lh (-1) l ∧ (∀ n, vat n (fw l) = vat n l) ∧ cn (fw l) = cn l ∧ (fw l).length ≤ l.length := by
  have key : ∀ m, m ≤ l.length → Laid (fw (l.take m)) ∧ lh (-1) (fw (l.take m)) = lh (-1) (l.take m) ∧ (∀ n, vat n (fw (l.take m)) = vat n (l.take m)) ∧ cn (fw (l.take m)) = cn (l.take m) ∧ (fw (l.take m)).length ≤ m := by
    intro m
    induction m with
    | zero => intro _; exact ⟨Laid.nil, rfl, fun _ => rfl, rfl, Nat.le_refl _⟩
    | succ m ih =>
      intro hm
      have hlt : m < l.length := by omega
      obtain ⟨i1, i2, i3, i4, i5⟩ := ih (by omega)
      have hs := rt_take h (m + 1)
      rw [rt_succ hlt, Bool.and_eq_true, Bool.and_eq_true, decide_eq_true_eq] at hs
      obtain ⟨g1, g2, g3, g4⟩ := i1.lay (s := l[m]) (by rw [i2]; exact hs.2.1) hs.2.2
      have hlen := lyy_len (fw (l.take m)) l[m]
      rw [List.take_succ_eq_append_getElem hlt, fw_snoc]
      refine ⟨g1, by rw [g2, lh_app]; rfl, fun n => ?_, by rw [g4, i4, cn_app]; simp [cn], by omega⟩
      rw [g3, i3]
      split
      · rename_i q
        rw [vat_right fun t ht => by have := rt_mem hs.1 t ht; omega]
        simp only [vat]
        rw [if_pos q]
      · rename_i q
        exact (vat_left fun t ht => by rw [List.mem_singleton.1 ht]; omega).symm
  have := key l.length (Nat.le_refl _)
  rwa [List.take_length] at this
theorem fw_id (h : Laid l) : fw l = l := by
  have key : ∀ m, m ≤ l.length → few (l.take m) = true → fw (l.take m) = l.take m := by
    intro m
    induction m with
    | zero => intro _ _; rfl
    | succ m ih =>
      intro hm hf
      have hlt : m < l.length := by omega
      rw [List.take_succ_eq_append_getElem hlt] at hf ⊢
      rw [fw_snoc]
      rcases snoc_of (l.take m) with e | ⟨c, t, e⟩
      · rw [e]; rfl
      · rw [e, few_snoc, Bool.and_eq_true] at hf
        have := ih (by omega) (by rw [e]; exact hf.1)
        rw [this, e, lyy_snoc, if_neg (by simpa using hf.2)]
  have := key l.length (Nat.le_refl _) (by rw [List.take_length]; exact h.f)
  rwa [List.take_length] at this
theorem fewest_eq (hl : l.length ≤ 1000000) : f_spans_Fewest l = some (if rt (-1) l = true then fw l else []) := by
  unfold f_spans_Fewest
  rw [right_eq hl]
  simp only [bsm]
  cases h : rt (-1) l with
  | false => rfl
  | true =>
    simp only [Bool.not_true, Bool.false_eq_true, if_false, if_true]
    refine iter_forB (n := l.length) (fun i st => st = (fw (l.take i), (i : Int))) (fun u => u = fw l) (fun i st hi e => ?_) (fun st e => ?_) rfl (by omega) (fun u hu => by subst hu; rfl)
    · subst e
      simp only
      have hs := rt_mem h _ (List.getElem_mem hi)
      have hlen := (fw_spec (rt_take h i)).2.2.2.2
      rw [List.length_take] at hlen
      rw [if_pos (dlt hi), idx_at hi, w64_succ hi (by omega)]
      simp only [bsm]
      rw [lay_eq (by omega) (by omega) (by omega)]
      refine .inl ⟨_, rfl, ?_⟩
      rw [List.take_succ_eq_append_getElem hi, fw_snoc]
    · subst e
      refine ⟨_, by simp only; rw [if_neg (by simp)], ?_⟩
      rw [List.take_length]
theorem cn_in (h : rt p l = true) (hp : -1 ≤ p) : 0 ≤ cn l ∧ cn l ≤ 1114112 * (l.length : Int) := by
  induction l generalizing p with
  | nil => simp [cn]
  | cons s l ih =>
    have := rt_mem h s (by simp)
    simp only [rt, Bool.and_eq_true, decide_eq_true_eq] at h
    have h2 := ih h.2 (by omega)
    simp only [cn, List.length_cons]
    omega
theorem count_eq (hl : l.length ≤ 1000000) : f_spans_Count l = some (if rt (-1) l = true then cn l else 0) := by
  unfold f_spans_Count
  rw [right_eq hl]
  simp only [bsm]
  cases h : rt (-1) l with
  | false => rfl
  | true =>
    simp only [Bool.not_true, Bool.false_eq_true, if_false, if_true]
    refine iter_forB (n := l.length) (fun i st => st = (cn (l.take i), (i : Int))) (fun u => u = cn l) (fun i st hi e => ?_) (fun st e => ?_) rfl (by omega) (fun u hu => by subst hu; rfl)
    · subst e
      simp only
      have hs := rt_mem h _ (List.getElem_mem hi)
      have hc := cn_in (rt_take h i) (by omega)
      rw [List.length_take] at hc
      rw [if_pos (dlt hi), idx_at hi, w64_succ hi (by omega)]
      simp only [bsm]
      rw [w64_in (n := l[i].Hi - l[i].Lo) (by omega), w64_in (n := l[i].Hi - l[i].Lo + 1) (by omega), w64_in (by omega)]
      refine .inl ⟨_, rfl, ?_⟩
      rw [List.take_succ_eq_append_getElem hi, cn_app]
      simp [cn]
    · subst e
      refine ⟨_, by simp only; rw [if_neg (by simp)], ?_⟩
      rw [List.take_length]
theorem rsame_self (hl : l.length ≤ 1000000) : f_linotyperef06_Same l l = some true := by
  unfold f_linotyperef06_Same
  rw [if_neg (by simp)]
  refine iter_forB (n := l.length) (fun i st => st = (i : Int)) (fun u => u = .inr ()) (fun i st hi e => ?_) (fun st e => ?_) rfl (by omega) (fun u hu => by subst hu; rfl)
  · subst e
    rw [if_pos (dlt hi), idx_at hi]
    simp only [bsm]
    rw [if_neg (by simp), w64_succ hi (by omega)]
    exact .inl ⟨_, rfl, rfl⟩
  · subst e
    exact ⟨_, by rw [if_neg (by simp)], rfl⟩

/-! ### the statements -/
set_option maxRecDepth 100000 in
theorem works06 : f_linotypelaw06_works = some true := by kernel_rfl
theorem spansTell_true (l : List G_api_Span) (n : Int) : f_linotypelaw06_SpansTell l n = some true := by
  unfold f_linotypelaw06_SpansTell
  rw [works06]
  simp only [bsm, Bool.not_true, orE_false]
  by_cases hg : 300 < l.length
  · rw [if_pos (by simp; omega)]
  rw [if_neg (by simp; omega), rright_eq (by omega)]
  simp only [bsm]
  rw [right_eq (by omega), Find_eq (by omega), count_eq (by omega), fewest_eq (by omega), rfind_eq (by omega)]
  simp only [bsm]
  cases h : rt (-1) l with
  | false => rfl
  | true =>
    simp only [Bool.not_true, Bool.false_eq_true, if_false, if_true]
    refine iter_forB (n := l.length) (fun i st => st = (cn (l.take i), (i : Int))) (fun u => u = cn l) (fun i st hi e => ?_) (fun st e => ?_) rfl (by omega) (fun u hu => ?_)
    · subst e
      simp only
      have hs := rt_mem h _ (List.getElem_mem hi)
      have hc := cn_in (rt_take h i) (by omega)
      rw [List.length_take] at hc
      rw [if_pos (dlt hi), idx_at hi, w64_succ hi (by omega)]
      simp only [bsm]
      rw [w64_in (n := cn (l.take i) + l[i].Hi) (by omega), w64_in (n := cn (l.take i) + l[i].Hi - l[i].Lo) (by omega), w64_in (by omega)]
      refine .inl ⟨_, rfl, ?_⟩
      rw [List.take_succ_eq_append_getElem hi, cn_app]
      simp only [cn]
      congr 1
      omega
    · subst e
      refine ⟨_, by simp only; rw [if_neg (by simp)], ?_⟩
      rw [List.take_length]
    · subst hu
      simp [andE]
theorem spansFewest_true (l : List G_api_Span) (n : Int) : f_linotypelaw06_SpansFewest l n = some true := by
  unfold f_linotypelaw06_SpansFewest
  rw [works06]
  simp only [bsm, Bool.not_true, orE_false]
  by_cases hg : 300 < l.length
  · rw [show decide ((l.length : Int) > 300) = true by simp; omega]
    rfl
  rw [show decide ((l.length : Int) > 300) = false by simp; omega, orE_false, rright_eq (by omega)]
  simp only [bsm]
  cases h : rt (-1) l with
  | false => rfl
  | true =>
    simp only [Bool.not_true, Bool.false_eq_true, if_false]
    obtain ⟨g1, g2, g3, g4, g5⟩ := fw_spec h
    rw [fewest_eq (by omega), h]
    simp only [bsm, if_true]
    have hm := g1.r
    rw [rright_eq (by omega), rfew_eq hm (by omega), fewest_eq (by omega), count_eq (by omega), count_eq (by omega), rfind_eq (by omega), rfind_eq (by omega), hm, h, g1.f, fw_id g1]
    simp only [bsm, if_true, Bool.not_true, orE_false]
    rw [rsame_self (by omega), g3, g4]
    simp only [bsm, Bool.not_true, orE_false, bne_self_eq_false, Bool.false_eq_true, if_false]
    refine iter_forB (n := l.length) (fun i st => st = (i : Int)) (fun u => u = .inr ()) (fun i st hi e => ?_) (fun st e => ?_) rfl (by omega) (fun u hu => by subst hu; rfl)
    · subst e
      have hs := rt_mem h _ (List.getElem_mem hi)
      rw [if_pos (dlt hi), idx_at hi, w64_succ hi (by omega)]
      simp only [bsm]
      rw [rfind_eq (by omega), rfind_eq (by omega), rfind_eq (by omega), rfind_eq (by omega)]
      simp only [bsm]
      rw [g3, g3, g3, vat_at h (List.getElem_mem hi) (Int.le_refl _) hs.2.1, vat_at h (List.getElem_mem hi) hs.2.1 (Int.le_refl _)]
      simp only [bne_self_eq_false, orE_false, bsm, Bool.false_eq_true, if_false]
      exact .inl ⟨_, rfl, rfl⟩
    · subst e
      exact ⟨_, by rw [if_neg (by simp)], rfl⟩
end Go.Proofs.Ytfhhpdggmefcoaa
