/-
  Sums of spans, in plain Lean: SpansSum answers true. Conditions: none beyond the statement's own tests.
-/
import Derived.Test.YtfhhpdggmefcoaaSy2
namespace Go.Proofs.Ytfhhpdggmefcoaa
open Go Go.Lt
variable {l x : List G_api_Span} {p q : List (List G_api_Span)} {n c d : Int}

/-! ### numbers, rising, each once -/
theorem cmpA_mem (y : Int) (l : List Int) (z : Int) : z ∈ y :: cmpA y l ↔ z ∈ y :: l := by
  induction l generalizing y with
  | nil => rfl
  | cons w l ih =>
    unfold cmpA
    split
    · rename_i e
      subst e
      rw [ih w]
      simp
    · rw [List.mem_cons, ih w, List.mem_cons (a := z) (b := y)]
theorem cmpA_lt (y : Int) (l : List Int) (h : (y :: l).Pairwise (fun a b => a ≤ b)) : (y :: cmpA y l).Pairwise (fun a b => a < b) := by
  induction l generalizing y with
  | nil => simp [cmpA]
  | cons w l ih =>
    rw [List.pairwise_cons] at h
    have hw := h.1 w (by simp)
    have h2 := h.2
    rw [List.pairwise_cons] at h2
    unfold cmpA
    split
    · rename_i e
      subst e
      exact ih w h.2
    · rename_i e
      rw [List.pairwise_cons]
      refine ⟨fun z hz => ?_, ih w h.2⟩
      rcases List.mem_cons.1 ((cmpA_mem w l z).1 hz) with rfl | hz
      · omega
      · have := h2.1 z hz; omega
theorem cmpt_mem (l : List Int) (z : Int) : z ∈ cmpt l ↔ z ∈ l := by
  cases l with
  | nil => rfl
  | cons y l => exact cmpA_mem y l z
theorem cmpt_lt (l : List Int) (h : l.Pairwise (fun a b => a ≤ b)) : (cmpt l).Pairwise (fun a b => a < b) := by
  cases l with
  | nil => exact .nil
  | cons y l => exact cmpA_lt y l h

/-! ### edges -/
def ed1 : List G_api_Span → List Int
  | [] => []
  | s :: l => s.Lo :: (s.Hi + 1) :: ed1 l
theorem ed1_app (a b : List G_api_Span) : ed1 (a ++ b) = ed1 a ++ ed1 b := by
  induction a with
  | nil => rfl
  | cons s a ih => simp [ed1, ih]
theorem ed1_len (a : List G_api_Span) : (ed1 a).length = 2 * a.length := by
  induction a with
  | nil => rfl
  | cons s a ih => simp only [ed1, List.length_cons, ih]; omega
theorem ed1_mem (a : List G_api_Span) (z : Int) : z ∈ ed1 a ↔ ∃ s ∈ a, z = s.Lo ∨ z = s.Hi + 1 := by
  induction a with
  | nil => simp [ed1]
  | cons s a ih =>
    simp only [ed1, List.mem_cons, ih, exists_eq_or_imp]
    constructor
    · rintro (h | h | h)
      · exact .inl (.inl h)
      · exact .inl (.inr h)
      · exact .inr h
    · rintro ((h | h) | h)
      · exact .inl h
      · exact .inr (.inl h)
      · exact .inr (.inr h)
def eds : List (List G_api_Span) → List Int
  | [] => []
  | x :: p => ed1 x ++ eds p
theorem eds_app (p q : List (List G_api_Span)) : eds (p ++ q) = eds p ++ eds q := by
  induction p with
  | nil => rfl
  | cons x p ih => simp [eds, ih]
theorem eds_mem (p : List (List G_api_Span)) (z : Int) : z ∈ eds p ↔ ∃ x ∈ p, ∃ s ∈ x, z = s.Lo ∨ z = s.Hi + 1 := by
  induction p with
  | nil => simp [eds]
  | cons x p ih => simp only [eds, List.mem_append, ih, ed1_mem, List.mem_cons, exists_eq_or_imp]
theorem eds_len (p : List (List G_api_Span)) (h : ∀ x ∈ p, x.length ≤ 60) : (eds p).length ≤ 120 * p.length := by
  induction p with
  | nil => simp [eds]
  | cons x p ih =>
    have h1 := h x (by simp)
    have h2 := ih fun y hy => h y (by simp [hy])
    simp only [eds, List.length_append, ed1_len, List.length_cons]
    omega
def cuts (p : List (List G_api_Span)) : List Int := cmpt (srt (eds p))
theorem cuts_mem (p : List (List G_api_Span)) (z : Int) : z ∈ cuts p ↔ ∃ x ∈ p, ∃ s ∈ x, z = s.Lo ∨ z = s.Hi + 1 := by
  unfold cuts
  rw [cmpt_mem, (srt_perm _).mem_iff, eds_mem]
theorem cuts_lt (p : List (List G_api_Span)) : (cuts p).Pairwise (fun a b => a < b) := cmpt_lt _ (srt_sorted _)
theorem cuts_len (p : List (List G_api_Span)) (h : ∀ x ∈ p, x.length ≤ 60) : (cuts p).length ≤ 120 * p.length := by
  have h1 := cmpt_len (srt (eds p))
  have h2 := (srt_perm (eds p)).length_eq
  have h3 := eds_len p h
  unfold cuts
  omega
theorem edges_eq (hr : ∀ x ∈ p, rt (-1) x = true) (hx : ∀ x ∈ p, x.length ≤ 60) (hl : p.length ≤ 6) : f_spans_edges p = some (cuts p) := by
  unfold f_spans_edges
  refine iter_forB (n := p.length) (fun i st => st = (eds (p.take i), (i : Int))) (fun u => u = eds p) (fun i st hi e => ?_) (fun st e => ?_) rfl (by omega) (fun u hu => ?_)
  · subst e
    simp only
    have hm := List.getElem_mem hi
    have h60 := hx _ hm
    have hrt := hr _ hm
    have hlen := eds_len (p.take i) (fun y hy => hx y (List.mem_of_mem_take hy))
    rw [List.length_take] at hlen
    rw [if_pos (dlt hi), idx_at hi]
    simp only [bsm]
    refine .inl ⟨(eds (p.take (i + 1)), ((i + 1 : Nat) : Int)), iter_forB (n := p[i].length) (fun j st => st = (eds (p.take i) ++ ed1 (p[i].take j), (j : Int))) (fun u => u = eds (p.take (i + 1))) (fun j st hj e => ?_) (fun st e => ?_) (by simp [ed1]) (by omega) (fun u hu => ?_), rfl⟩
    · subst e
      simp only
      have hs := rt_mem hrt _ (List.getElem_mem hj)
      rw [if_pos (dlt hj), idx_at hj, w64_succ hj (by omega)]
      simp only [bsm]
      rw [w64_in (n := p[i][j].Hi + 1) (by omega), app_eq (by simp only [List.length_append, ed1_len, List.length_take, List.length_cons, List.length_nil]; omega)]
      refine .inl ⟨_, rfl, ?_⟩
      rw [List.take_succ_eq_append_getElem hj, ed1_app, List.append_assoc]
      rfl
    · subst e
      refine ⟨_, by simp only; rw [if_neg (by simp)], ?_⟩
      rw [List.take_length, List.take_succ_eq_append_getElem hi, eds_app]
      simp [eds]
    · subst hu
      rw [w64_succ hi (by omega)]
  · subst e
    refine ⟨_, by simp only; rw [if_neg (by simp)], ?_⟩
    rw [List.take_length]
  · subst hu
    have h3 := eds_len p hx
    unfold f_slices_Sort f_slices_Compact
    rw [if_pos (by omega)]
    rfl

/-! ### sums -/
def sm (n : Int) : List (List G_api_Span) → Int
  | [] => 0
  | x :: p => vat n x + sm n p
theorem sm_app (p q : List (List G_api_Span)) : sm n (p ++ q) = sm n p + sm n q := by
  induction p with
  | nil => simp [sm]
  | cons x p ih => simp only [List.cons_append, sm, ih]; omega
theorem sm_in (hr : ∀ x ∈ p, rt (-1) x = true) : 0 ≤ sm n p ∧ sm n p ≤ 65535 * (p.length : Int) := by
  induction p with
  | nil => simp [sm]
  | cons x p ih =>
    have h1 := vat_in (n := n) (hr x (by simp))
    have h2 := ih fun y hy => hr y (by simp [hy])
    simp only [sm, List.length_cons]
    omega
theorem sm_succ {i : Nat} (h : i < p.length) : sm n (p.take (i + 1)) = sm n (p.take i) + vat n p[i] := by
  rw [List.take_succ_eq_append_getElem h, sm_app]
  simp [sm]
theorem sm_take (hr : ∀ x ∈ p, rt (-1) x = true) (i : Nat) : sm n (p.take i) ≤ sm n p := by
  have h := sm_app (n := n) (p.take i) (p.drop i)
  rw [List.take_append_drop] at h
  have := (sm_in (n := n) (p := p.drop i) fun x hx => hr x (List.mem_of_mem_drop hx)).1
  omega
theorem sm_congr (h : ∀ x ∈ p, vat n x = vat c x) : sm n p = sm c p := by
  induction p with
  | nil => rfl
  | cons x p ih => simp only [sm]; rw [h x (by simp), ih fun y hy => h y (by simp [hy])]
theorem sm_le (h : ∀ x ∈ p, vat n x ≤ vat c x) : sm n p ≤ sm c p := by
  induction p with
  | nil => exact Int.le_refl _
  | cons x p ih =>
    have h1 := h x (by simp)
    have h2 := ih fun y hy => h y (by simp [hy])
    simp only [sm]
    omega
theorem sm_zero (h : ∀ x ∈ p, vat n x = 0) : sm n p = 0 := by
  induction p with
  | nil => rfl
  | cons x p ih => simp only [sm]; rw [h x (by simp), ih fun y hy => h y (by simp [hy])]; rfl
theorem sm_const {i : Nat} (hi : i + 1 < (cuts p).length) (h1 : (cuts p)[i]'(by omega) ≤ n) (h2 : n < (cuts p)[i + 1]) : sm n p = sm ((cuts p)[i]'(by omega)) p := by
  have hlt := cuts_lt p
  have hno : ∀ y ∈ cuts p, ¬ ((cuts p)[i]'(by omega) < y ∧ y ≤ n) := fun y hy => by
    obtain ⟨k, hk, rfl⟩ := List.mem_iff_getElem.1 hy
    rw [List.pairwise_iff_getElem] at hlt
    rcases Nat.lt_trichotomy k (i + 1) with q | q | q
    · rcases Nat.lt_or_ge k i with q2 | q2
      · have := hlt k i hk (by omega) q2; omega
      · obtain rfl : k = i := by omega
        omega
    · subst q; omega
    · have := hlt (i + 1) k hi hk q; omega
  exact sm_congr fun x hx => vat_const h1 fun s hs => ⟨hno _ ((cuts_mem p _).2 ⟨x, hx, s, hs, .inl rfl⟩), hno _ ((cuts_mem p _).2 ⟨x, hx, s, hs, .inr rfl⟩)⟩
theorem low_all (hr : ∀ x ∈ p, rt (-1) x = true) (h : ∀ x ∈ p, ∀ s ∈ x, sm s.Lo p ≤ 65535) (n : Int) : sm n p ≤ 65535 := by
  have hmax : ∀ L : List Int, L ≠ [] → ∃ a ∈ L, ∀ b ∈ L, b ≤ a := by
    intro L
    induction L with
    | nil => intro h; exact absurd rfl h
    | cons y L ih =>
      intro _
      by_cases e : L = []
      · exact ⟨y, by simp, fun b hb => by subst e; simp at hb; omega⟩
      · obtain ⟨a, h1, h2⟩ := ih e
        rcases Int.le_total y a with q | q
        · exact ⟨a, by simp [h1], fun b hb => by
            rcases List.mem_cons.1 hb with rfl | hb
            · exact q
            · exact h2 b hb⟩
        · exact ⟨y, by simp, fun b hb => by
            rcases List.mem_cons.1 hb with rfl | hb
            · exact Int.le_refl _
            · exact Int.le_trans (h2 b hb) q⟩
  by_cases e : (eds p).filter (fun y => decide (y ≤ n) && decide (∃ x ∈ p, ∃ s ∈ x, s.Lo = y)) = []
  · rw [sm_zero fun x hx => vat_zero fun s hs => ?_]
    · decide
    · rcases Int.lt_or_le n s.Lo with q | q
      · exact .inl q
      · have : s.Lo ∈ (eds p).filter (fun y => decide (y ≤ n) && decide (∃ x ∈ p, ∃ s ∈ x, s.Lo = y)) := by
          rw [List.mem_filter]
          exact ⟨(eds_mem p _).2 ⟨x, hx, s, hs, .inl rfl⟩, by simp only [Bool.and_eq_true, decide_eq_true_eq]; exact ⟨q, x, hx, s, hs, rfl⟩⟩
        rw [e] at this
        cases this
  · obtain ⟨a, h1, h2⟩ := hmax _ e
    rw [List.mem_filter] at h1
    simp only [Bool.and_eq_true, decide_eq_true_eq] at h1
    obtain ⟨_, han, x0, hx0, s0, hs0, rfl⟩ := h1
    refine Int.le_trans (sm_le fun x hx => ?_) (h x0 hx0 s0 hs0)
    by_cases hz : vat n x = 0
    · rw [hz]
      exact (vat_in (hr x hx)).1
    · obtain ⟨s, hs, q1, q2⟩ := vat_pos hz
      have hle := h2 s.Lo (by
        rw [List.mem_filter]
        exact ⟨(eds_mem p _).2 ⟨x, hx, s, hs, .inl rfl⟩, by simp only [Bool.and_eq_true, decide_eq_true_eq]; exact ⟨q1, x, hx, s, hs, rfl⟩⟩)
      rw [vat_at (hr x hx) hs q1 q2, vat_at (hr x hx) hs hle (by omega)]
      exact Int.le_refl _

/-! ### the program's sum -/
theorem sum_eq (hx : ∀ x ∈ p, x.length ≤ 60) (hl : p.length ≤ 6) : ∃ r, f_spans_Sum p = some r ∧ ((∃ x ∈ p, rt (-1) x = false) → r = []) ∧
    ((∀ x ∈ p, rt (-1) x = true) → Laid r ∧ r.length ≤ 1000 ∧ ((∀ n, sm n p ≤ 65535) → ∀ n, vat n r = sm n p) ∧ (∀ n, 65535 < sm n p → r = [])) := by
  unfold f_spans_Sum
  refine iter_forE (n := p.length) (fun i st => st = (i : Int) ∧ ∀ x ∈ p.take i, rt (-1) x = true) (fun t => match t with | .inl y => y = [] ∧ ∃ x ∈ p, rt (-1) x = false | .inr _ => ∀ x ∈ p, rt (-1) x = true) (fun i st hi hI => ?_) (fun st hI => ?_) ⟨rfl, fun x hx => by simp at hx⟩ (by omega) (fun t ht => ?_)
  · obtain ⟨e, hr⟩ := hI
    subst e
    have hm := List.getElem_mem hi
    rw [if_pos (dlt hi), idx_at hi, w64_succ hi (by omega)]
    simp only [bsm]
    rw [right_eq (by have := hx _ hm; omega)]
    simp only [bsm]
    cases h : rt (-1) p[i] with
    | false => exact .inr ⟨.inl [], rfl, rfl, _, hm, h⟩
    | true =>
      refine .inl ⟨_, rfl, rfl, fun x hx => ?_⟩
      rw [List.take_succ_eq_append_getElem hi, List.mem_append, List.mem_singleton] at hx
      rcases hx with hx | rfl
      · exact hr x hx
      · exact h
  · obtain ⟨e, hr⟩ := hI
    subst e
    rw [List.take_length] at hr
    exact ⟨.inr (), by rw [if_neg (by simp)], hr⟩
  · cases t with
    | inl y =>
      obtain ⟨rfl, x, h1, h2⟩ := ht
      exact ⟨_, rfl, fun _ => rfl, fun h => by rw [h x h1] at h2; cases h2⟩
    | inr u =>
      simp only at ht ⊢
      have hr := ht
      rw [edges_eq hr hx hl]
      simp only [bsm]
      have hno : (∃ x ∈ p, rt (-1) x = false) → False := fun ⟨x, h1, h2⟩ => by rw [hr x h1] at h2; cases h2
      have hcl := cuts_len p hx
      have hlt := cuts_lt p
      rw [List.pairwise_iff_getElem] at hlt
      have hmem : ∀ i (h : i < (cuts p).length), 0 ≤ (cuts p)[i] ∧ (cuts p)[i] ≤ 1114112 := fun i h => by
        obtain ⟨x, h1, s, h2, h3⟩ := (cuts_mem p _).1 (List.getElem_mem h)
        have := rt_mem (hr x h1) s h2
        omega
      -- the inner loop
      have inner : ∀ (i : Nat) (hi : i < (cuts p).length), ∃ t : (List G_api_Span) ⊕ Int, (iter (σ := Int × Int) (τ := (List G_api_Span) ⊕ Int) (((p.length : Int) - 0).toNat + 1) (fun c =>
           if (decide (c.2 < (p.length : Int))) = true then
           (idx p c.2).bind fun k =>
           (idx (cuts p) (i : Int)).bind fun l =>
           (f_spans_find k l).bind fun h =>
           if (decide ((w64 (c.1 + h)) > 65535)) = true then
           some (.inr (.inl ([] : List G_api_Span)))
           else
           some (.inl ((w64 (c.1 + h)), (w64 (c.2 + 1))))
           else
           some (.inr (.inr (c.1)))) (0, 0)) = some t ∧ (match t with | .inl y => y = [] ∧ 65535 < sm (cuts p)[i] p | .inr v => v = sm (cuts p)[i] p ∧ sm (cuts p)[i] p ≤ 65535) := fun i hi => by
        refine iter_for (n := p.length) (fun j (st : Int × Int) => st = (sm (cuts p)[i] (p.take j), (j : Int)) ∧ sm (cuts p)[i] (p.take j) ≤ 65535) (fun (t : (List G_api_Span) ⊕ Int) => match t with | .inl y => y = [] ∧ 65535 < sm (cuts p)[i] p | .inr v => v = sm (cuts p)[i] p ∧ sm (cuts p)[i] p ≤ 65535) (fun j st hj hI => ?_) (fun st hI => ?_) ⟨rfl, by simp [sm]⟩ (by omega)
        · obtain ⟨e, hs⟩ := hI
          subst e
          simp only
          have hm := List.getElem_mem hj
          have hv := vat_in (n := (cuts p)[i]) (hr _ hm)
          have h0 := sm_in (n := (cuts p)[i]) (p := p.take j) fun x hx => hr x (List.mem_of_mem_take hx)
          have hsu := sm_succ (n := (cuts p)[i]) hj
          rw [if_pos (dlt hj), idx_at hj, idx_at hi, w64_succ hj (by omega)]
          simp only [bsm]
          rw [find_eq (hr _ hm) (by have := hx _ hm; omega)]
          simp only [bsm]
          rw [w64_in (by omega), ← hsu]
          by_cases hc : 65535 < sm (cuts p)[i] (p.take (j + 1))
          · rw [if_pos (by simpa using hc)]
            exact .inr ⟨_, rfl, rfl, Int.lt_of_lt_of_le hc (sm_take hr _)⟩
          · rw [if_neg (by simpa using hc)]
            exact .inl ⟨_, rfl, rfl, by omega⟩
        · obtain ⟨e, hs⟩ := hI
          subst e
          rw [List.take_length] at hs ⊢
          exact ⟨.inr (sm (cuts p)[i] p), by simp only; rw [if_neg (by simp)], rfl, hs⟩
      by_cases he : (cuts p).length = 0
      · have hnil := List.eq_nil_of_length_eq_zero he
        have hz : ∀ n, sm n p = 0 := fun n => sm_zero fun x hx => vat_zero fun s hs => by
          have := (cuts_mem p s.Lo).2 ⟨x, hx, s, hs, .inl rfl⟩
          rw [hnil] at this
          cases this
        rw [hnil]
        exact ⟨[], rfl, fun _ => rfl, fun _ => ⟨Laid.nil, by simp, fun _ n => (hz n).symm, fun n _ => rfl⟩⟩
      · have hpos : 0 < (cuts p).length := by omega
        rw [show w64 (0 + 1) = 1 from rfl]
        refine iter_forE (n := (cuts p).length - 1) (fun i (st : (List G_api_Span) × Int) => st.2 = (i : Int) ∧ ∃ hi : i < (cuts p).length, Laid st.1 ∧ lh (-1) st.1 < (cuts p)[i] ∧ (∀ n, vat n st.1 = if n < (cuts p)[i] then sm n p else 0) ∧ st.1.length ≤ i)
          (fun (t : (List G_api_Span) ⊕ (List G_api_Span)) => match t with | .inl y => y = [] ∧ ∃ n, 65535 < sm n p | .inr y => Laid y ∧ y.length ≤ 1000 ∧ ∀ n, vat n y = sm n p) (fun i st hi hI => ?_) (fun st hI => ?_) ⟨rfl, hpos, Laid.nil, ?_, fun n => ?_, Nat.le_refl _⟩ (by omega) (fun t ht => ?_)
        · obtain ⟨out, i'⟩ := st
          obtain ⟨e, hi1, hL, hlh, hv, hlen⟩ := hI
          simp only at e hL hlh hv hlen
          subst e
          simp only
          have hi2 : i + 1 < (cuts p).length := by omega
          have hcd := hlt i (i + 1) hi1 hi2 (by omega)
          have hc0 := hmem i hi1
          have hd0 := hmem (i + 1) hi2
          have hconst : ∀ n, (cuts p)[i] ≤ n → n < (cuts p)[i + 1] → sm n p = sm (cuts p)[i] p := fun n a b => sm_const hi2 a b
          rw [w64_in (n := (i : Int) + 1) (by omega), show (i : Int) + 1 = ((i + 1 : Nat) : Int) by omega, if_pos (dlt hi2)]
          obtain ⟨t, e1, e2⟩ := inner i hi1
          rw [e1]
          simp only [bsm]
          cases t with
          | inl y => exact .inr ⟨_, rfl, e2.1, _, e2.2⟩
          | inr v =>
            obtain ⟨rfl, hle⟩ := e2
            simp only
            have hge := (sm_in (n := (cuts p)[i]) hr).1
            by_cases h0 : 0 < sm (cuts p)[i] p
            · rw [if_pos (by simpa using h0), idx_at hi1, idx_at hi2]
              simp only [bsm]
              rw [w64_in (by omega), lay_eq (by omega) (by simp only; omega) (by simp only; omega)]
              obtain ⟨g1, g2, g3, _⟩ := hL.lay (s := ⟨(cuts p)[i], (cuts p)[i + 1] - 1, sm (cuts p)[i] p⟩) hlh (sok_iff.2 (by simp only; omega))
              have hll := lyy_len out ⟨(cuts p)[i], (cuts p)[i + 1] - 1, sm (cuts p)[i] p⟩
              refine .inl ⟨_, rfl, rfl, hi2, g1, by rw [g2]; simp only; omega, fun n => ?_, by simp only; omega⟩
              simp only
              rw [g3, hv]
              simp only
              by_cases q1 : (cuts p)[i] ≤ n ∧ n ≤ (cuts p)[i + 1] - 1
              · rw [if_pos q1, if_pos (by omega), hconst n q1.1 (by omega)]
              · rw [if_neg q1]
                by_cases q2 : n < (cuts p)[i]
                · rw [if_pos q2, if_pos (by omega)]
                · rw [if_neg q2, if_neg (by omega)]
            · rw [if_neg (by simpa using h0)]
              refine .inl ⟨_, rfl, rfl, hi2, hL, by simp only; omega, fun n => ?_, by simp only; omega⟩
              simp only
              rw [hv]
              by_cases q2 : n < (cuts p)[i]
              · rw [if_pos q2, if_pos (by omega)]
              · rw [if_neg q2]
                by_cases q3 : n < (cuts p)[i + 1]
                · rw [if_pos q3, hconst n (by omega) q3]
                  omega
                · rw [if_neg q3]
        · obtain ⟨out, i'⟩ := st
          obtain ⟨e, hi1, hL, hlh, hv, hlen⟩ := hI
          simp only at e hL hlh hv hlen
          subst e
          simp only
          rw [w64_in (by omega), if_neg (by simp; omega)]
          refine ⟨_, rfl, hL, by omega, fun n => ?_⟩
          rw [hv]
          split
          · rfl
          · rename_i q
            refine (sm_zero fun x hx => vat_zero fun s hs => ?_).symm
            obtain ⟨k, hk, e⟩ := List.mem_iff_getElem.1 ((cuts_mem p (s.Hi + 1)).2 ⟨x, hx, s, hs, .inr rfl⟩)
            have : (cuts p)[k] ≤ (cuts p)[(cuts p).length - 1] := by
              rcases Nat.lt_or_ge k ((cuts p).length - 1) with q2 | q2
              · exact Int.le_of_lt (hlt k _ hk hi1 q2)
              · obtain rfl : k = (cuts p).length - 1 := by omega
                exact Int.le_refl _
            omega
        · have := hmem 0 hpos
          simp only [lh]
          omega
        · simp only [vat]
          split
          · rename_i q
            refine (sm_zero fun x hx => vat_zero fun s hs => ?_).symm
            obtain ⟨k, hk, e⟩ := List.mem_iff_getElem.1 ((cuts_mem p s.Lo).2 ⟨x, hx, s, hs, .inl rfl⟩)
            have : (cuts p)[0] ≤ (cuts p)[k] := by
              rcases Nat.eq_zero_or_pos k with q2 | q2
              · subst q2; exact Int.le_refl _
              · exact Int.le_of_lt (hlt 0 k hpos hk q2)
            omega
          · rfl
        · cases t with
          | inl y =>
            obtain ⟨rfl, n0, hn0⟩ := ht
            exact ⟨_, rfl, fun _ => rfl, fun _ => ⟨Laid.nil, by simp, fun h => by have := h n0; omega, fun _ _ => rfl⟩⟩
          | inr y =>
            obtain ⟨g1, g2, g3⟩ := ht
            exact ⟨_, rfl, fun h => (hno h).elim, fun _ => ⟨g1, g2, fun _ => g3, fun n hn => by have := (vat_in (n := n) g1.r).2; rw [g3] at this; omega⟩⟩
/-! ### the statement -/
def los : List (List G_api_Span) → List Int
  | [] => []
  | x :: p => x.map (·.Lo) ++ los p
theorem los_app (p q : List (List G_api_Span)) : los (p ++ q) = los p ++ los q := by
  induction p with
  | nil => rfl
  | cons x p ih => simp [los, ih]
theorem los_mem (p : List (List G_api_Span)) (z : Int) : z ∈ los p ↔ ∃ x ∈ p, ∃ s ∈ x, s.Lo = z := by
  induction p with
  | nil => simp [los]
  | cons x p ih => simp only [los, List.mem_append, ih, List.mem_map, List.mem_cons, exists_eq_or_imp]
theorem los_len (p : List (List G_api_Span)) (h : ∀ x ∈ p, x.length ≤ 60) : (los p).length ≤ 60 * p.length := by
  induction p with
  | nil => simp [los]
  | cons x p ih =>
    have h1 := h x (by simp)
    have h2 := ih fun y hy => h y (by simp [hy])
    simp only [los, List.length_append, List.length_map, List.length_cons]
    omega
theorem spansSum_true (p : List (List G_api_Span)) (n : Int) : f_linotypelaw06_SpansSum p n = some true := by
  unfold f_linotypelaw06_SpansSum
  rw [works06]
  simp only [bsm, Bool.not_true, orE_false]
  by_cases hg : 6 < p.length
  · rw [if_pos (by simp; omega)]
  rw [if_neg (by simp; omega)]
  refine iter_forB (n := p.length) (fun i st => st = ((p.take i).all (rt (-1)), los (p.take i), (i : Int)) ∧ ∀ x ∈ p.take i, x.length ≤ 60) (fun (t : Bool ⊕ (Bool × (List Int))) => match t with | .inl y => y = true | .inr y => y = (p.all (rt (-1)), los p) ∧ ∀ x ∈ p, x.length ≤ 60) (fun i st hi hI => ?_) (fun st hI => ?_) ⟨rfl, fun x hx => by simp at hx⟩ (by omega) (fun t ht => ?_)
  · obtain ⟨e, h60⟩ := hI
    subst e
    simp only
    have hll := los_len _ h60
    rw [List.length_take] at hll
    rw [if_pos (dlt hi), idx_at hi]
    simp only [bsm]
    by_cases hb : 60 < p[i].length
    · rw [if_pos (by simp; omega)]
      exact .inr ⟨_, rfl, rfl⟩
    rw [if_neg (by simp; omega), rright_eq (by omega)]
    simp only [bsm, andE_some]
    refine .inl ⟨((p.take (i + 1)).all (rt (-1)), los (p.take (i + 1)), ((i + 1 : Nat) : Int)), iter_forB (n := p[i].length) (fun j st => st = (los (p.take i) ++ (p[i].take j).map (·.Lo), (j : Int))) (fun u => u = los (p.take (i + 1))) (fun j st hj e => ?_) (fun st e => ?_) (by simp) (by omega) (fun u hu => ?_), rfl, fun x hx => ?_⟩
    · subst e
      simp only
      rw [if_pos (dlt hj), idx_at hj, w64_succ hj (by omega)]
      simp only [bsm]
      rw [app_eq (by simp only [List.length_append, List.length_map, List.length_take, List.length_cons, List.length_nil]; omega)]
      refine .inl ⟨_, rfl, ?_⟩
      rw [List.take_succ_eq_append_getElem hj, List.map_append, List.append_assoc]
      rfl
    · subst e
      refine ⟨_, by simp only; rw [if_neg (by simp)], ?_⟩
      rw [List.take_length, List.take_succ_eq_append_getElem hi, los_app]
      simp [los]
    · subst hu
      rw [w64_succ hi (by omega), all_take_s _ _ _ hi]
    · rw [List.take_succ_eq_append_getElem hi, List.mem_append, List.mem_singleton] at hx
      rcases hx with hx | rfl
      · exact h60 x hx
      · omega
  · obtain ⟨e, h60⟩ := hI
    subst e
    rw [List.take_length] at h60 ⊢
    exact ⟨.inr (p.all (rt (-1)), los p), by simp only; rw [if_neg (by simp)], rfl, h60⟩
  · cases t with
    | inl y => simp only at ht; rw [ht]
    | inr y =>
      obtain ⟨rfl, hx⟩ := ht
      simp only
      obtain ⟨r, e1, e2, e3⟩ := sum_eq hx (by omega)
      rw [e1]
      simp only [bsm]
      cases hall : p.all (rt (-1)) with
      | false =>
        rw [List.all_eq_false] at hall
        obtain ⟨x, h1, h2⟩ := hall
        rw [e2 ⟨x, h1, by simpa using h2⟩]
        rfl
      | true =>
        rw [List.all_eq_true] at hall
        have hr := hall
        obtain ⟨g1, g2, g3, g4⟩ := e3 hr
        have hll := los_len p hx
        rw [rright_eq (by omega), rfew_eq g1.r (by omega), g1.r, g1.f]
        simp only [bsm, Bool.not_true, orE_false, Bool.false_eq_true, if_false]
        rw [app_eq (by simp only [List.length_cons, List.length_nil]; omega)]
        simp only [bsm]
        have hfl : (los p ++ [n]).length ≤ 400 := by simp only [List.length_append, List.length_cons, List.length_nil]; omega
        have hlast : (los p ++ [n])[(los p).length]? = some n := by simp
        generalize hf : los p ++ [n] = f at hfl hlast
        have hflen : f.length = (los p).length + 1 := by rw [← hf]; simp
        refine iter_forB (n := f.length) (fun k (st : Bool × Int × Int) => st.2.2 = (k : Int) ∧ st.1 = (f.take k).all (fun y => decide (sm y p ≤ 65535)) ∧ (∀ y, 0 < k → f[k - 1]? = some y → st.2.1 = sm y p)) (fun u => u.1 = f.all (fun y => decide (sm y p ≤ 65535)) ∧ u.2 = sm n p) (fun k st hk hI => ?_) (fun st hI => ?_) ⟨rfl, rfl, fun y h => by omega⟩ (by omega) (fun u hu => ?_)
        · obtain ⟨b, s0, k'⟩ := st
          obtain ⟨ea, eb, _⟩ := hI
          simp only at ea eb
          subst ea eb
          simp only
          rw [if_pos (dlt hk)]
          refine .inl ⟨((f.take (k + 1)).all (fun y => decide (sm y p ≤ 65535)), sm f[k] p, ((k + 1 : Nat) : Int)), iter_forB (n := p.length) (fun j (st : Int × Int) => st = (sm f[k] (p.take j), (j : Int))) (fun u => u = sm f[k] p) (fun j st hj e => ?_) (fun st e => ?_) rfl (by omega) (fun u hu => ?_), rfl, rfl, fun y _ hy => ?_⟩
          · subst e
            simp only
            have hm := List.getElem_mem hj
            have hv := vat_in (n := f[k]) (hr _ hm)
            have h0 := sm_in (n := f[k]) (p := p.take j) fun x hx => hr x (List.mem_of_mem_take hx)
            rw [List.length_take] at h0
            rw [if_pos (dlt hj), idx_at hj, idx_at hk, w64_succ hj (by omega)]
            simp only [bsm]
            rw [rfind_eq (by have := hx _ hm; omega)]
            simp only [bsm]
            rw [w64_in (by omega)]
            exact .inl ⟨_, rfl, by rw [sm_succ hj]⟩
          · subst e
            refine ⟨_, by simp only; rw [if_neg (by simp)], ?_⟩
            rw [List.take_length]
          · subst hu
            rw [andE_some, w64_succ hk (by omega), all_take_s _ _ _ hk]
            rfl
          · rw [Nat.add_sub_cancel, List.getElem?_eq_getElem hk] at hy
            cases hy
            rfl
        · obtain ⟨b, s0, k'⟩ := st
          obtain ⟨ea, eb, ec⟩ := hI
          simp only at ea eb ec
          subst ea eb
          rw [List.take_length]
          refine ⟨_, by simp only; rw [if_neg (by simp)], rfl, ?_⟩
          exact ec n (by omega) (by rw [hflen, Nat.add_sub_cancel]; exact hlast)
        · obtain ⟨h1, h2⟩ := hu
          rw [h1, h2]
          cases hlow : f.all (fun y => decide (sm y p ≤ 65535)) with
          | false =>
            rw [List.all_eq_false] at hlow
            obtain ⟨y, _, hy⟩ := hlow
            rw [g4 y (by simpa using hy)]
            rfl
          | true =>
            rw [List.all_eq_true] at hlow
            have hla := low_all hr (fun x hx s hs => by
              have := hlow s.Lo (by rw [← hf]; exact List.mem_append_left _ ((los_mem p _).2 ⟨x, hx, s, hs, rfl⟩))
              simpa using this)
            simp only [Bool.not_true, Bool.false_eq_true, if_false]
            rw [rfind_eq (by omega), g3 hla n]
            simp
end Go.Proofs.Ytfhhpdggmefcoaa
