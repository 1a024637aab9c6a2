/-
  What tells a cluster's width: number by number, and of a row at once, in plain Lean; what is put at once. Conditions: lists are short.
-/
import Derived.Test.YthokmpbbkpjhbaaGreatDoorWj
namespace Go.Proofs.YthokmpbbkpjhbaaGreatDoor
open Go Go.Lt
variable {s C : Sto} {k g W j : Nat} {w : Bool} {q : G_linotyperef34_Pen} {ks : List Nat}

/-- The gauge behind some numbers. -/
def gf (t : List Int) (x : List G_api_Prop) : G_cwidth_Gauge := (t.zip x).foldl (fun y p => gz y p.1 p.2) ⟨false, false, false⟩
theorem zip_snoc {α β : Type} : ∀ (t : List α) (x : List β) (r : α) (h : t.length < x.length), (t ++ [r]).zip x = t.zip x ++ [(r, x[t.length])]
  | [], [], _, h => by simp at h
  | [], b :: x, r, _ => by simp
  | a :: t, [], _, h => by simp at h
  | a :: t, b :: x, r, h => by
    have := zip_snoc t x r (by simpa using h)
    simp only [List.cons_append, List.zip_cons_cons, this, List.length_cons, List.getElem_cons_succ]
theorem gf_snoc {t : List Int} {x : List G_api_Prop} (h : t.length < x.length) (r : Int) : gf (t ++ [r]) x = gz (gf t x) r x[t.length] := by
  unfold gf
  rw [zip_snoc t x r h, List.foldl_append]
  rfl
theorem zip_take {α β : Type} : ∀ (t : List α) (x : List β) (n : Nat), t.length ≤ n → t.zip (x.take n) = t.zip x
  | [], _, _, _ => rfl
  | _ :: _, [], _, _ => by simp
  | _ :: _, _ :: _, 0, h => by simp at h
  | a :: t, b :: x, n + 1, h => by
    rw [List.take_succ_cons, List.zip_cons_cons, List.zip_cons_cons, zip_take t x n (by simpa using h)]
theorem gf_take (t : List Int) (x : List G_api_Prop) {n : Nat} (h : t.length ≤ n) : gf t (x.take n) = gf t x := by
  unfold gf
  rw [zip_take _ _ _ h]
theorem ref18_loop (b : Int) (zs : List Int) (hz : zs.length ≤ 1000) : ∃ t, iter (σ := Int) (τ := Int ⊕ Unit) (((zs.length : Int) - 0).toNat + 1) (fun s_9 =>
  if (decide (s_9 < (zs.length : Int))) = true then
  (idx zs s_9).bind fun x_19 =>
  if (b == x_19) = true then
  some (.inr (.inl 0))
  else
  some (.inl ((w64 (s_9 + 1))))
  else
  some (.inr (.inr ()))) (0) = some t ∧ (match t with | .inl n => n = 0 ∧ b ∈ zs | .inr _ => b ∉ zs) := by
  refine iter_for (n := zs.length) (fun i s => s = (i : Int) ∧ ∀ k (h : k < zs.length), k < i → zs[k] ≠ b) (fun t : Int ⊕ Unit => match t with | .inl n => n = 0 ∧ b ∈ zs | .inr _ => b ∉ zs) (fun i s hi he => ?_) (fun s he => ?_) ⟨rfl, fun k h hk => by omega⟩ (by omega)
  · obtain ⟨e, hI⟩ := he
    subst e
    rw [if_pos (dlt hi), idx_at hi, w64_succ hi (by omega)]
    simp only [bsm]
    by_cases hx : b = zs[i]
    · rw [if_pos (by simpa using hx)]
      exact .inr ⟨_, rfl, rfl, hx ▸ List.getElem_mem hi⟩
    · rw [if_neg (by simpa using hx)]
      refine .inl ⟨_, rfl, rfl, fun k h hk => ?_⟩
      by_cases hki : k = i
      · subst hki; exact fun e => hx e.symm
      · exact hI k h (by omega)
  · obtain ⟨e, hI⟩ := he
    subst e
    refine ⟨.inr (), by rw [if_neg (by simp)], fun hb => ?_⟩
    obtain ⟨i, hi, e⟩ := List.mem_iff_getElem.1 hb
    exact hI i hi hi e
theorem ref18_of (x : G_api_Prop) : ∃ n, f_linotyperef18_Of x = some n ∧ (n == 2) = b2 x := by
  unfold f_linotyperef18_Of
  obtain ⟨t, h1, h2⟩ := ref18_loop x.Break [1, 2, 3, 4, 5, 10, 11] (by decide)
  rw [h1]
  have hz : zb x.Break = true ↔ x.Break ∈ ([1, 2, 3, 4, 5, 10, 11] : List Int) := by simp [zb]; omega
  unfold b2
  cases t with
  | inl n =>
    obtain ⟨rfl, hm⟩ := h2
    exact ⟨0, rfl, by rw [hz.2 hm]; rfl⟩
  | inr u =>
    have hf : zb x.Break = false := by rw [← Bool.not_eq_true, hz]; exact h2
    simp only [orE_some, bsm, hf]
    cases h : (x.East == 1 || x.East == 2) with
    | true => exact ⟨2, by simp, rfl⟩
    | false => exact ⟨1, by simp, rfl⟩
/-- Of a row at once. -/
theorem row19 (t : List Int) (x : List G_api_Prop) (h : t.length ≤ x.length) (ht : t.length ≤ 1000000) : f_linotyperef19_Row t x = some (wz (gf t x)) := by
  unfold f_linotyperef19_Row
  have key : ∀ i, i ≤ t.length → (gf (t.take i) x).some = decide (0 < i) ∧ (∀ (h1 : 0 < i) (h2 : i - 1 < x.length), (gf (t.take i) x).pict = x[i - 1].Pict) := fun i hi => by
    cases i with
    | zero => exact ⟨rfl, fun h => absurd h (by decide)⟩
    | succ i =>
      have hl : (t.take i).length = i := by rw [List.length_take]; omega
      rw [List.take_succ_eq_append_getElem (by omega), gf_snoc (by rw [hl]; omega)]
      exact ⟨by simp [gz], fun _ _ => by simp [gz, hl]⟩
  have mono : ∀ i, i ≤ t.length → (gf (t.take i) x).wide = true → (gf t x).wide = true := fun i hi hw => by
    have : ∀ m, i ≤ m → m ≤ t.length → (gf (t.take m) x).wide = true := by
      intro m
      induction m with
      | zero => intro h1 _; rw [show i = 0 by omega] at hw; exact hw
      | succ m ih =>
        intro h1 h2
        by_cases e : i = m + 1
        · rw [← e]; exact hw
        · rw [List.take_succ_eq_append_getElem (by omega), gf_snoc (by rw [List.length_take]; omega)]
          exact gz_wide (ih (by omega) (by omega)) _ _
    have := this t.length hi (Nat.le_refl _)
    rwa [List.take_of_length_le (Nat.le_refl _)] at this
  refine iter_forB (n := t.length) (fun i s => s = (i : Int) ∧ (gf (t.take i) x).wide = false) (fun u => match u with | .inl n => n = 2 ∧ (gf t x).wide = true | .inr _ => (gf t x).wide = false) (fun i s hi ⟨e, hI⟩ => ?_) (fun s ⟨e, hI⟩ => ?_) ⟨rfl, rfl⟩ (by omega) (fun u hu => ?_)
  · subst e
    have e5 := w64_succ hi (by omega)
    have hx : i < x.length := by omega
    obtain ⟨n, h1, h2⟩ := ref18_of x[i]
    rw [if_pos (dlt hi), idx_at hx]
    simp only [bsm, h1, h2, e5, idx_at hi]
    have hl : (t.take i).length = i := by rw [List.length_take]; omega
    have hs : (gf (t.take (i + 1)) x).wide = (b2 x[i] || (decide (0 < i) && ((t[i] == 65039 && (gf (t.take i) x).pict) || x[i].Pict || x[i].Break == 6))) := by
      rw [List.take_succ_eq_append_getElem hi, gf_snoc (by rw [hl]; omega)]
      simp only [gz, hI, Bool.false_or, (key i (by omega)).1, hl]
    have hd : ∀ (A : Option Bool), (∀ (h0 : 0 < i), A = some ((t[i] == 65039 && x[i - 1].Pict) || x[i].Pict || x[i].Break == 6)) →
        (orE (b2 x[i]) ((andE (decide ((i : Int) > 0)) A).bind fun d_21 => some d_21)) = some (gf (t.take (i + 1)) x).wide := fun A hA => by
      rw [hs]
      by_cases h0 : 0 < i
      · rw [hA h0, show decide ((i : Int) > 0) = true by simp; omega, andE_true, show decide (0 < i) = true by simpa using h0, (key i (by omega)).2 h0 (by omega)]
        simp only [bsm, orE_some, Bool.true_and]
      · rw [show decide ((i : Int) > 0) = false by simp; omega, andE_false, show decide (0 < i) = false by simpa using h0]
        simp only [bsm, orE_some, Bool.false_and]
    rw [hd _ (fun h0 => by
      rw [show w64 ((i : Int) - 1) = ((i - 1 : Nat) : Int) by rw [w64_in (by omega)]; omega, idx_at (show i - 1 < x.length by omega)]
      simp only [bsm, andE_some, orE_some])]
    simp only [bsm]
    cases hw : (gf (t.take (i + 1)) x).wide with
    | true => exact .inr ⟨.inl 2, rfl, rfl, mono (i + 1) (by omega) hw⟩
    | false => exact .inl ⟨_, rfl, rfl, rfl⟩
  · subst e
    rw [List.take_of_length_le (Nat.le_refl _)] at hI
    exact ⟨.inr (), by rw [if_neg (by simp)], hI⟩
  · unfold wz
    cases u with
    | inl n =>
      obtain ⟨rfl, hw⟩ := hu
      rw [hw]
      rfl
    | inr u =>
      simp only at hu
      rw [hu]
      rfl
/-- Some numbers put at once, by the document. -/
theorem ref35 {q0 : G_linotyperef34_Pen} (l : List Int) (x : List G_api_Prop) (h : l.length ≤ x.length) (hl : l.length ≤ 1000) {q1 : G_linotyperef34_Pen} {c : G_api_Cursor} (hp : f_linotyperef34_Pen_Put q0 (wz (gf (fx l) x)) (fx l) = some (q1, c)) :
    f_linotyperef35_Put q0 l x = some (q1, c, wz (gf (fx l) x), fx l) := by
  have hmin : imin (l.length : Int) 16 = ((min l.length 16 : Nat) : Int) := by rw [imin_eq]; omega
  have hfl := fx_len' l
  unfold f_linotyperef35_Put
  rw [hmin]
  refine iter_forB (n := min l.length 16) (fun i s => s = ((fx l).take i, (i : Int))) (fun u => u = fx l) (fun i s hi e => ?_) (fun s e => ?_) rfl (by omega) (fun u hu => ?_)
  · subst e
    have hil : i < l.length := by omega
    have hx : (fx l)[i]'(by omega) = fixv l[i] := by simp [fx]
    rw [if_pos (dlt hi)]
    simp only [idx_at hil, bsm, ref_valid]
    rw [w64_succ hi (by omega)]
    have happ : ∀ y, y = fixv l[i] → app ((fx l).take i) [y] = some ((fx l).take (i + 1)) := fun y hy => by
      rw [app_eq (by rw [List.length_take]; simp; omega), List.take_succ_eq_append_getElem (show i < (fx l).length by omega), hx, hy]
    cases hv : vld l[i] with
    | true => simp only [if_true]; rw [happ _ (by simp [fixv, hv])]; exact .inl ⟨_, rfl, rfl⟩
    | false => simp only [Bool.false_eq_true, if_false]; rw [happ _ (by simp [fixv, hv])]; exact .inl ⟨_, rfl, rfl⟩
  · subst e
    refine ⟨_, by rw [if_neg (by simp)], ?_⟩
    rw [List.take_of_length_le (by omega)]
  · subst hu
    have := slc_eq (xs := x) (i := 0) (j := min l.length 16) (Nat.zero_le _) (by omega)
    rw [show ((0 : Nat) : Int) = 0 from rfl] at this
    rw [this]
    simp only [bsm, List.drop_zero, Nat.sub_zero]
    rw [row19 _ _ (by rw [List.length_take]; omega) (by omega), gf_take _ _ (by omega)]
    simp only [bsm]
    rw [hp]
    rfl
end Go.Proofs.YthokmpbbkpjhbaaGreatDoor
