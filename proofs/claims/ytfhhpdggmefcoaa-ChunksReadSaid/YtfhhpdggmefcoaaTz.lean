/-
  The document's decoder, in plain Lean: steps, rows, parts. Condition: bytes lie between 0 and 255; rows are short.
-/
import Derived.Test.YtfhhpdggmefcoaaTy
namespace Go.Proofs.Ytfhhpdggmefcoaa
open Go Go.Lt

theorem bg_ge {p : List Int} (h : 0 < bg p) : (p.length : Int) ≤ bg p := by
  match p, h with
  | [], h => simp [bg] at h
  | [a], h => simp only [bg, List.length_cons, List.length_nil] at h ⊢; omega
  | [a, b], h => simp only [bg, List.length_cons, List.length_nil] at h ⊢; split at h <;> rename_i g; rw [if_pos g]; omega; omega
  | [a, b, c], h => simp only [bg, List.length_cons, List.length_nil] at h ⊢; split at h <;> rename_i g; rw [if_pos g]; omega; omega
  | [a, b, c, d], h => simp only [bg, List.length_cons, List.length_nil] at h ⊢; split at h <;> rename_i g; rw [if_pos g]; omega; omega
  | _ :: _ :: _ :: _ :: _ :: _, h => simp [bg] at h
theorem bg_le (p : List Int) : 0 ≤ bg p ∧ bg p ≤ 4 := by
  match p with
  | [] => simp [bg]
  | [a] => exact ld_in a
  | [a, b] => simp only [bg]; split <;> first | exact ld_in a | omega
  | [a, b, c] => simp only [bg]; split <;> first | exact ld_in a | omega
  | [a, b, c, d] => simp only [bg]; split <;> omega
  | _ :: _ :: _ :: _ :: _ :: _ => simp [bg]
theorem begins_eq {p : List Int} (hp : Bts p) (hl : p.length ≤ 1000000) : f_linotyperef03_Begins p = some (bg p) := by
  have hb := bg_le p
  unfold f_linotyperef03_Begins
  refine iter_forB (n := 4) (fun i s => s = ((i + 1 : Nat) : Int) ∧ ∀ m : Nat, 1 ≤ m → m ≤ i → bg p ≠ (m : Int)) (fun u => match u with | .inl n => n = bg p | .inr _ => bg p = 0) (fun i s hi hI => ?_) (fun s hI => ?_) ⟨rfl, fun m h1 h2 => by omega⟩ (by decide) (fun u hu => ?_)
  · obtain ⟨e, hI⟩ := hI
    subst e
    rw [if_pos (by simp; omega)]
    simp only [andE_some, bsm]
    have key : ∃ t : Bool, (andE (decide ((p.length : Int) ≥ 1) && decide ((p.length : Int) ≤ ((i + 1 : Nat) : Int))) ((f_linotyperef03_some p ((i + 1 : Nat) : Int)).bind fun x_22 => some x_22)) = some t ∧ (t = true ↔ bg p = ((i + 1 : Nat) : Int)) := by
      by_cases hc : 1 ≤ p.length ∧ p.length ≤ i + 1
      · rw [show (decide ((p.length : Int) ≥ 1) && decide ((p.length : Int) ≤ ((i + 1 : Nat) : Int))) = true by simp; omega, andE_true]
        cases p with
        | nil => simp at hc
        | cons a t =>
          rw [some_eq hp (by omega) (by omega)]
          exact ⟨_, rfl, smf_bg hp (by omega) (by omega) (by simpa using hc.2)⟩
      · rw [show (decide ((p.length : Int) ≥ 1) && decide ((p.length : Int) ≤ ((i + 1 : Nat) : Int))) = false by simp; omega, andE_false]
        refine ⟨false, rfl, ?_⟩
        simp only [Bool.false_eq_true, false_iff]
        intro e
        have := bg_ge (p := p) (by omega)
        have h1 : 1 ≤ p.length := by
          cases p with
          | nil => simp [bg] at e; omega
          | cons _ _ => simp
        omega
    obtain ⟨t, h1, h2⟩ := key
    rw [h1]
    simp only [bsm]
    cases t with
    | true => exact .inr ⟨_, rfl, (h2.1 rfl).symm⟩
    | false =>
      refine .inl ⟨_, rfl, by rw [w64_in (by omega)]; simp, fun m m1 m2 => ?_⟩
      by_cases hm : m ≤ i
      · exact hI m m1 hm
      · obtain rfl : m = i + 1 := by omega
        exact fun e => by have := h2.2 e; cases this
  · obtain ⟨e, hI⟩ := hI
    subst e
    refine ⟨.inr (), rfl, ?_⟩
    have e1 := hI 1 (by omega) (by omega)
    have e2 := hI 2 (by omega) (by omega)
    have e3 := hI 3 (by omega) (by omega)
    have e4 := hI 4 (by omega) (by omega)
    simp only
    omega
  · cases u with
    | inl n => simp only at hu; rw [hu]
    | inr u => simp only at hu; rw [hu]
theorem bg_take {p : List Int} (h : 0 < bg p) {i : Nat} (h1 : 1 ≤ i) (h2 : i ≤ p.length) : bg (p.take i) = bg p := by
  have key : ∀ d, d + 1 ≤ p.length → bg (p.take (p.length - d)) = bg p := by
    intro d
    induction d with
    | zero => intro _; rw [Nat.sub_zero, List.take_of_length_le (Nat.le_refl _)]
    | succ d ih =>
      intro hd
      have e := ih (by omega)
      rw [show p.length - d = (p.length - (d + 1)) + 1 by omega, List.take_succ_eq_append_getElem (show p.length - (d + 1) < p.length by omega)] at e
      have hne : p.take (p.length - (d + 1)) ≠ [] := fun q => by
        have := congrArg List.length q
        rw [List.length_take, List.length_nil] at this
        omega
      rw [bg_pre hne (by rw [e]; exact h), e]
  have := key (p.length - i) (by omega)
  rwa [show p.length - (p.length - i) = i by omega] at this
theorem vl_whole {p : List Int} (hp : Bts p) (hb : bg p = (p.length : Int)) (hne : p ≠ []) : f_linotyperef03_whole p = some (vl p) ∧ 0 ≤ vl p ∧ vl p ≤ 2000000000 := by
  have h4 := bg_le p
  have hlen : 1 ≤ p.length := by
    cases p with
    | nil => exact absurd rfl hne
    | cons _ _ => simp
  have hbd : ∀ i, 1 ≤ i → i < p.length → 0 ≤ vl (p.take i) ∧ vl (p.take i) ≤ 131071 := fun i h1 h2 => by
    have hl : (p.take i).length = i := by rw [List.length_take]; omega
    refine vl_in (.inr ?_) (fun x hx => hp x (List.mem_of_mem_take hx)) (fun e => by rw [e] at hl; simp at hl; omega)
    rw [hl, bg_take (by omega) h1 (by omega)]
    omega
  have hstep : ∀ i, 1 ≤ i → (h : i < p.length) → vl (p.take (i + 1)) = vl (p.take i) * 64 + (p[i] - 128) := fun i h1 h => by
    rw [List.take_succ_eq_append_getElem h, vl_snoc]
    intro e
    have := congrArg List.length e
    rw [List.length_take, List.length_nil] at this
    omega
  have h0 : ∀ a t, p = a :: t → vl (p.take 1) = a - mk p.length := fun a t e => by
    have hk : ld a = (p.length : Int) := by
      have := bg_take (p := p) (by omega) (i := 1) (by omega) (by omega)
      rw [e, List.take_succ_cons, List.take_zero] at this
      rw [← hb, e, ← this]
      rfl
    rw [e, List.take_succ_cons, List.take_zero, ← e]
    simp only [vl, List.foldl]
    unfold b0 mk
    repeat' split
    all_goals omega
  have hfin : 0 ≤ vl p ∧ vl p ≤ 2000000000 := by
    by_cases h1 : p.length = 1
    · obtain ⟨a, rfl⟩ : ∃ a, p = [a] := by
        match p, h1 with
        | [a], _ => exact ⟨a, rfl⟩
      have := hp a (by simp)
      obtain ⟨a1, a2⟩ := this
      simp only [bg, List.length_cons, List.length_nil] at hb
      simp only [vl, List.foldl]
      unfold b0
      repeat' split
      all_goals omega
    · have e := hstep (p.length - 1) (by omega) (by omega)
      rw [show p.length - 1 + 1 = p.length by omega, List.take_of_length_le (Nat.le_refl _)] at e
      have b := hbd (p.length - 1) (by omega) (by omega)
      have hx := hp _ (List.getElem_mem (show p.length - 1 < p.length by omega))
      obtain ⟨x1, x2⟩ := hx
      have ht : 128 ≤ p[p.length - 1] := by
        have e2 : p = p.take (p.length - 1) ++ [p[p.length - 1]'(by omega)] := by
          rw [← List.take_succ_eq_append_getElem (by omega), show p.length - 1 + 1 = p.length by omega, List.take_of_length_le (Nat.le_refl _)]
        have hl : (p.take (p.length - 1)).length = p.length - 1 := by rw [List.length_take]; omega
        obtain ⟨lo, hi, _, f2, f3, f4, f5⟩ := more_iff (h := p.take (p.length - 1)) (by rw [hl, bg_take (by omega) (by omega) (by omega)]; omega) (fun q => by rw [q] at hl; simp at hl; omega) (p[p.length - 1]'(by omega))
        by_cases hr : lo ≤ p[p.length - 1]'(by omega) ∧ p[p.length - 1]'(by omega) ≤ hi
        · omega
        · have := f5 hr
          rw [← e2] at this
          omega
      omega
  refine ⟨?_, hfin⟩
  obtain ⟨m1, _, _, _⟩ := mk_at (n := p.length) hlen (by omega)
  cases hpe : p with
  | nil => exact absurd hpe hne
  | cons a t =>
    rw [← hpe]
    have hmk : 0 ≤ mk p.length ∧ mk p.length ≤ 240 := by unfold mk; repeat' split; all_goals omega
    have ha := hp a (by rw [hpe]; simp)
    obtain ⟨a1, a2⟩ := ha
    have hi0 : idx p 0 = some a := by rw [hpe]; rfl
    unfold f_linotyperef03_whole
    rw [m1, hi0]
    simp only [bsm]
    rw [w64_in (n := a) (by omega), w64_in (n := a - mk p.length) (by omega)]
    refine iter_forB (n := p.length - 1) (fun i s => s = (vl (p.take (i + 1)), ((i + 1 : Nat) : Int))) (fun u => u = vl p) (fun i s hi e => ?_) (fun s e => ?_) (by rw [h0 a t hpe]; rfl) (by omega) (fun u hu => ?_)
    · subst e
      have hx := hp _ (List.getElem_mem (show i + 1 < p.length by omega))
      obtain ⟨x1, x2⟩ := hx
      have hv := hbd (i + 1) (by omega) (by omega)
      simp only
      rw [if_pos (by simp; omega), idx_at (show i + 1 < p.length by omega)]
      simp only [bsm]
      rw [w64_in (n := p[i + 1]) (by omega), w64_in (n := vl (p.take (i + 1)) * 64) (by omega), w64_in (n := vl (p.take (i + 1)) * 64 + p[i + 1]) (by omega), w64_in (n := vl (p.take (i + 1)) * 64 + p[i + 1] - 128) (by omega), w64_succ (show i + 1 < p.length by omega) (by omega)]
      refine .inl ⟨_, rfl, ?_⟩
      rw [hstep (i + 1) (by omega) (by omega)]
      congr 1
      omega
    · subst e
      refine ⟨_, by simp only; rw [if_neg (by simp; omega)], ?_⟩
      rw [show p.length - 1 + 1 = p.length by omega, List.take_of_length_le (Nat.le_refl _)]
    · subst hu
      rw [w32_in (by omega)]
theorem Bts.snoc {h : List Int} (hb : Bts h) {b : Int} (h1 : Byt b) : Bts (h ++ [b]) := fun x hx => by
  rcases List.mem_append.1 hx with hx | hx
  · exact hb x hx
  · rw [List.mem_singleton.1 hx]; exact h1
theorem step1_nil {b : Int} (h : Byt b) : f_linotyperef03_Step__1 [] b = some (rs0 b) := by
  have hb1 : Bts ([] ++ [b]) := Bts.snoc (fun x hx => by simp at hx) h
  have hl := ld_in b
  unfold f_linotyperef03_Step__1
  rw [app_eq (by simp)]
  simp only [bsm]
  rw [app_eq (by simp)]
  simp only [bsm]
  rw [begins_eq (by simpa using hb1) (by simp)]
  simp only [bsm, andE_some, List.nil_append, bg, List.length_cons, List.length_nil]
  unfold rs0
  by_cases h1 : 1 < ld b
  · rw [if_pos (by simp; omega), if_pos h1]
  · rw [if_neg (by simp; omega), if_neg h1]
    by_cases h2 : ld b = 1
    · rw [if_pos (by simp; omega), if_pos h2, (vl_whole (p := [b]) (by simpa using hb1) (by simpa [bg] using h2) (by simp)).1]
      simp only [bsm, vl, List.foldl, b0]
      rw [if_neg (by omega), if_neg (by omega), if_neg (by omega)]
    · rw [if_neg (by simp; omega), if_neg h2]
      simp
theorem step_eq {h : List Int} (hh : Hh h) (hb : Bts h) {b : Int} (h1 : Byt b) : f_linotyperef03_Step h b = some (rstep h b) := by
  have hb1 := hb.snoc h1
  have h3 := hh.len
  unfold f_linotyperef03_Step
  rw [app_eq (by simp; omega), List.nil_append]
  simp only [bsm]
  rw [app_eq (by simp; omega)]
  simp only [bsm]
  rw [begins_eq hb1 (by simp; omega)]
  simp only [bsm, andE_some]
  by_cases hne : h = []
  · subst hne
    have := step1_nil h1
    unfold f_linotyperef03_Step__1 at this
    rw [rstep_nil, ← this, app_eq (by simp)]
    simp only [bsm]
    rw [app_eq (by simp)]
    simp only [bsm]
    rw [begins_eq (by simpa using hb1) (by simp)]
    simp only [bsm, andE_some, List.nil_append, List.length_nil]
    rfl
  · unfold rstep
    rw [if_neg hne]
    have hl : (h ++ [b]).length = h.length + 1 := by simp
    rw [hl]
    by_cases g1 : (h.length : Int) + 1 < bg (h ++ [b])
    · rw [if_pos (by simp; omega), if_pos g1]
    · rw [if_neg (by simp; omega), if_neg g1]
      by_cases g2 : 0 < bg (h ++ [b])
      · rw [if_pos (by simpa using g2), if_pos g2]
        have hw : bg (h ++ [b]) = ((h ++ [b]).length : Int) := by
          have := bg_ge g2
          rw [hl] at this ⊢
          omega
        rw [(vl_whole hb1 hw (by simp)).1]
        rfl
      · rw [if_neg (by simpa using g2), if_neg g2, if_neg (by simp; exact hne), step1_nil h1]
        have hrl : (rs0 b).1.length ≤ 1 := by
          unfold rs0
          split
          · simp
          · split <;> simp
        simp only [bsm]
        rw [app_eq (by simp; omega)]
        rfl
theorem rstep_len (h : List Int) (b : Int) : (rstep h b).1.length ≤ 2 := by
  have hrl : (rs0 b).1.length ≤ 1 := by
    unfold rs0
    split
    · simp
    · split <;> simp
  unfold rstep
  split
  · omega
  · split
    · simp
    · split
      · simp
      · simp; omega
theorem rfeed_len (h p : List Int) : (rfeed h p).1.length ≤ 2 * p.length := by
  induction p generalizing h with
  | nil => simp [rfeed]
  | cons b p ih =>
    have := ih (rstep h b).2
    have h2 := rstep_len h b
    simp only [rfeed, List.length_append, List.length_cons]
    omega
theorem rstep_bts {h : List Int} (hb : Bts h) {b : Int} (h1 : Byt b) : Bts (rstep h b).2 := by
  have h0 : Bts (rs0 b).2 := by
    unfold rs0
    split
    · intro x hx; rw [List.mem_singleton.1 hx]; exact h1
    · split <;> (intro x hx; simp at hx)
  unfold rstep
  split
  · exact h0
  · split
    · exact hb.snoc h1
    · split
      · intro x hx; simp at hx
      · exact h0
theorem rfeed_bts {h p : List Int} (hb : Bts h) (hp : Bts p) : Bts (rfeed h p).2 := by
  induction p generalizing h with
  | nil => exact hb
  | cons b p ih => exact ih (rstep_bts hb (hp b (by simp))) (fun x hx => hp x (List.mem_cons_of_mem _ hx))
theorem feed_eq {h p : List Int} (hh : Hh h) (hb : Bts h) (hp : Bts p) (hl : p.length ≤ 1000000) : f_linotyperef03_Feed h p = some (rfeed h p) := by
  unfold f_linotyperef03_Feed
  refine iter_forB (n := p.length) (fun i s => s = ((rfeed h (p.take i)).2, (rfeed h (p.take i)).1, (i : Int))) (fun u => u = ((rfeed h p).2, (rfeed h p).1)) (fun i s hi e => ?_) (fun s e => ?_) rfl (by omega) (fun u hu => ?_)
  · subst e
    have hpt : Bts (p.take i) := fun x hx => hp x (List.mem_of_mem_take hx)
    simp only
    rw [if_pos (dlt hi), idx_at hi, w64_succ hi (by omega)]
    simp only [bsm]
    rw [step_eq (hh.feed _) (rfeed_bts hb hpt) (hp _ (List.getElem_mem hi))]
    simp only [bsm]
    have h1 := rfeed_len h (p.take i)
    have h2 := rstep_len (rfeed h (p.take i)).2 p[i]
    rw [List.length_take] at h1
    rw [app_eq (by omega)]
    refine .inl ⟨_, rfl, ?_⟩
    rw [List.take_succ_eq_append_getElem hi, rfeed_snoc]
  · subst e
    refine ⟨_, by simp only; rw [if_neg (by simp)], ?_⟩
    rw [List.take_of_length_le (Nat.le_refl _)]
  · subst hu
    rfl
end Go.Proofs.Ytfhhpdggmefcoaa
