/- Parts of the proofs of ScreenCuts: the walk through the code, and plain Lean. No condition. -/
import Derived.Test.YthokmpbbkpjhbaaGreatDoorSqD
import Derived.Test.YthokmpbbkpjhbaaGreatDoorSqB
import Derived.Test.YthokmpbbkpjhbaaGreatDoorSqC
import Derived.Test.YthokmpbbkpjhbaaGreatDoorSqA
import Derived.Test.YthokmpbbkpjhbaaGreatDoorProg
import Derived.KernelRfl
set_option linter.unusedVariables false
set_option linter.unusedSimpArgs false
namespace Go.Proofs.YthokmpbbkpjhbaaGreatDoor
open Go Go.Lt
variable {s : Sto} {k : Nat} {l p : List G_api_Cell} {w : Bool}
def ac (l : List G_api_Cell) (w : Bool) (x A B : Int) : G_row_Row :=
 if x = 0 then rg l w (cl A l.length) (cl B l.length)
 else if x = 1 then rg l w 0 (cl (max (-1) (min A l.length) + 1) l.length)
 else if x = 2 then rg l w (cl A l.length) l.length
 else if x = 3 then ⟨(rg l w 0 l.length).cells, false⟩
 else if 0 ≤ A ∧ 0 < B then rg l w (cl A l.length) (cl (((cl A l.length : Nat) : Int) + ((cl B l.length : Nat) : Int)) l.length) else ⟨l, w⟩
theorem rg_no {a b : Nat} (h : b ≤ a) : rg l w a b = ⟨l, w⟩ := by
 unfold rg
 rw [if_neg (by omega)]
theorem cl_0 (m : Nat) : cl 0 m = 0 := by unfold cl; omega
theorem cl_self (m : Nat) : cl (m : Int) m = m := by unfold cl; omega
theorem erase_left (h : s.row_Row[k]? = some ⟨l, w⟩) (hs : Snd l) (hl : l.length ≤ 1024) (a b : Int) : f_erase_Left s (some k) a = some (s.sr k (ac l w 1 a b)) := by
 unfold f_erase_Left f_erase_held
 simp only [row_wide h, bsm, imax_eq, imin_eq]
 rw [w64_in (by omega), range_eq h hs hl, cl_0]
 rfl
theorem erase_right (h : s.row_Row[k]? = some ⟨l, w⟩) (hs : Snd l) (hl : l.length ≤ 1024) (a b : Int) : f_erase_Right s (some k) a = some (s.sr k (ac l w 2 a b)) := by
 unfold f_erase_Right
 simp only [row_wide h, bsm]
 rw [range_eq h hs hl, cl_self]
 rfl
theorem erase_all (h : s.row_Row[k]? = some ⟨l, w⟩) (hs : Snd l) (hl : l.length ≤ 1024) (a b : Int) : f_erase_All s (some k) = some (s.sr k (ac l w 3 a b)) := by
 have hk := get_lt h
 unfold f_erase_All
 simp only [row_wide h, bsm]
 rw [range_eq h hs hl, cl_self, cl_0]
 simp only [bsm]
 rw [row_goon (l := (rg l w 0 l.length).cells) (w := (rg l w 0 l.length).wrap) (sr_get hk), sr_sr]
 rfl
theorem erase_cells (h : s.row_Row[k]? = some ⟨l, w⟩) (hs : Snd l) (hl : l.length ≤ 1024) (a b : Int) : f_erase_Cells s (some k) a b = some (s.sr k (ac l w 4 a b)) := by
 rw [cells_eq h hs hl, show ac l w 4 a b = if 0 ≤ a ∧ 0 < b then rg l w (cl a l.length) (cl (((cl a l.length : Nat) : Int) + ((cl b l.length : Nat) : Int)) l.length) else ⟨l, w⟩ by rfl]
 split
 ·rfl
 ·rw [sr_id h]
theorem ref_act (l : List G_api_Cell) (w : Bool) (hl : l.length ≤ 1024) (x A B : Int) : f_linotyperef26_Act l w x A B = some ((ac l w x A B).cells, (ac l w x A B).wrap) := by
 unfold f_linotyperef26_Act ac
 by_cases h0 : x = 0
 ·rw [if_pos (by simpa using h0), if_pos h0, ref_range l w hl]
  rfl
 rw [if_neg (by simpa using h0), if_neg h0]
 by_cases h1 : x = 1
 ·rw [if_pos (by simpa using h1), if_pos h1]
  by_cases hA : A < 0
  ·rw [if_pos (by simpa using hA), show max (-1) (min A (l.length : Int)) + 1 = 0 by omega, cl_0, rg_no (Nat.le_refl _)]
  ·rw [if_neg (by simpa using hA), imin_eq, w64_in (by omega), ref_range l w hl, cl_0, show max (-1) (min A (l.length : Int)) = min A (l.length : Int) by omega]
   rfl
 rw [if_neg (by simpa using h1), if_neg h1]
 by_cases h2 : x = 2
 ·rw [if_pos (by simpa using h2), if_pos h2, ref_range l w hl, cl_self]
  rfl
 rw [if_neg (by simpa using h2), if_neg h2]
 by_cases h3 : x = 3
 ·rw [if_pos (by simpa using h3), if_pos h3, ref_range l w hl, cl_self, cl_0]
  rfl
 rw [if_neg (by simpa using h3), if_neg h3]
 simp only [orE_some, bsm]
 by_cases hA : 0 ≤ A ∧ 0 < B
 ·rw [if_pos hA]
  by_cases hg : (l.length : Int) ≤ A
  ·rw [if_pos (by simp; omega), show cl A l.length = l.length by unfold cl; omega, rg_no (cl_le _ _)]
  ·rw [if_neg (by simp; omega), imin_eq, w64_in (by omega), ref_range l w hl]
   rw [show cl (A + min B (l.length : Int)) l.length = cl (((cl A l.length : Nat) : Int) + ((cl B l.length : Nat) : Int)) l.length by unfold cl; omega]
   rfl
 ·rw [if_neg hA, if_pos (by simp; omega)]
theorem ac_snd (hs : Snd l) (x A B : Int) : Snd (ac l w x A B).cells := by
 unfold ac
 repeat' split
 all_goals first | exact hs | exact rg_snd hs (cl_le _ _) | exact rg_snd hs (Nat.le_refl _)
theorem ac_len (x A B : Int) : (ac l w x A B).cells.length = l.length := by
 unfold ac
 repeat' split
 all_goals first | rfl | exact rg_len _ _
theorem list_eq_range {α : Type} {l : List α} {n : Nat} {f : Nat → α} (hl : l.length = n) (h : ∀ i, i < n → l[i]? = some (f i)) : l = (List.range n).map f := by
 apply List.ext_getElem?
 intro i
 rcases Nat.lt_or_ge i n with hi | hi
 ·rw [h i hi]; simp [hi]
 ·rw [List.getElem?_eq_none (by omega), List.getElem?_eq_none (by simp; exact hi)]
def trc (l : List G_api_Cell) (c j : Nat) : G_api_Cell := if kd l c = 3 ∧ (j = c ∨ j + 1 = c) then bl else l.getD j bl
def tr (l : List G_api_Cell) (c : Nat) : List G_api_Cell := (List.range l.length).map (trc l c)
theorem tr_len (l : List G_api_Cell) (c : Nat) : (tr l c).length = l.length := by simp [tr]
theorem tr_get {c j : Nat} (h : j < l.length) : (tr l c)[j]? = some (trc l c j) := by simp [tr, h]
theorem trc_kd (l : List G_api_Cell) (c j : Nat) : (trc l c j).Kind = if kd l c = 3 ∧ (j = c ∨ j + 1 = c) then 0 else kd l j := by
 unfold trc
 split
 ·rfl
 ·exact kd_getD l j
theorem kd_tr (c j : Nat) : kd (tr l c) j = if kd l c = 3 ∧ (j = c ∨ j + 1 = c) then 0 else kd l j := by
 rcases Nat.lt_or_ge j l.length with h | h
 ·rw [← trc_kd]; simp [kd, tr_get h]
 ·rw [kd_out (by rw [tr_len]; exact h), kd_out (l := l) h]; simp
theorem tr_no {c : Nat} (h : kd l c ≠ 3) : tr l c = l := by
 symm
 refine list_eq_range rfl fun i hi => ?_
 unfold trc
 rw [if_neg (by intro e; exact h e.1), List.getD_eq_getElem?_getD, List.getElem?_eq_getElem hi]
 rfl
theorem tr_snd (hs : Snd l) (c : Nat) : Snd (tr l c) := fun j hj => by
 have hj' : j < l.length := by rw [tr_len] at hj; exact hj
 have he : (tr l c)[j] = trc l c j := by
  have := tr_get (c := c) hj'
  rw [List.getElem?_eq_getElem hj] at this
  exact Option.some.inj this
 have h2 := fun (h : kd l j = 2) => hs.two h
 have h3 := fun (h : kd l j = 3) => hs.three h
 have hc := fun (h : kd l c = 3) => hs.three h
 rw [he, trc_kd, kd_tr, kd_tr]
 refine ⟨?_, ?_, ?_⟩
 ·unfold trc
  split
  ·rfl
  ·exact hs.rg hj'
 ·intro e
  split at e
  ·cases e
  ·rename_i hn
   have := h2 e
   rw [if_neg]
   ·exact this
   ·rintro ⟨q1, q2⟩
    have := hc q1
    rcases q2 with rfl | q2
    ·exact hn ⟨q1, .inr rfl⟩
    ·obtain rfl : c = j + 2 := by omega
     rw [show j + 2 - 1 = j + 1 by omega] at this
     omega
 ·intro e
  split at e
  ·cases e
  ·rename_i hn
   have := h3 e
   refine ⟨this.1, ?_⟩
   rw [if_neg]
   ·exact this.2
   ·rintro ⟨q1, q2⟩
    have := hc q1
    rcases q2 with q2 | q2
    ·rw [← q2] at q1
     omega
    ·exact hn ⟨q1, .inl (by omega)⟩
theorem kd_tr_at (l : List G_api_Cell) (c : Nat) : kd (tr l c) c ≠ 3 := by
 rw [kd_tr]
 split
 ·decide
 ·rename_i h
  intro e
  exact h ⟨e, .inl rfl⟩
theorem tear_eq (hs : Snd l) (hl : l.length ≤ 1024) (c : Nat) : f_shift_tear l c = some (tr l c) := by
 unfold f_shift_tear
 rcases Nat.lt_or_ge c l.length with h | h
 ·have hd : decide ((c : Int) < (l.length : Int)) = true := by simp; exact h
  simp only [hd, andE_true, idx_at h, bsm]
  by_cases h3 : kd l c = 3
  ·have hb : (l[c].Kind == 3) = true := by rw [← kd_at h, h3]; rfl
   obtain ⟨h0, _⟩ := hs.three h3
   have e1 : w64 ((c : Int) - 1) = ((c - 1 : Nat) : Int) := by rw [w64_in (by omega)]; omega
   rw [hb, if_pos rfl, e1, idx_at (by omega : c - 1 < l.length)]
   simp only [bsm]
   rw [sets_nat (by omega)]
   simp only [bsm]
   rw [idx_at (by rw [List.length_set]; exact h)]
   simp only [bsm]
   rw [sets_nat (by rw [List.length_set]; exact h)]
   simp only [bsm]
   congr 1
   refine list_eq_range (by simp) fun i hi => ?_
   unfold trc
   by_cases q1 : c = i
   ·subst q1
    rw [List.getElem?_set_self (by rw [List.length_set]; exact h), if_pos ⟨h3, .inl rfl⟩]
    rfl
   ·rw [List.getElem?_set_ne q1]
    by_cases q2 : c - 1 = i
    ·subst q2
     rw [List.getElem?_set_self (by omega), if_pos ⟨h3, .inr (by omega)⟩]
     rfl
    ·rw [List.getElem?_set_ne q2, if_neg (by rintro ⟨_, q⟩; omega), List.getD_eq_getElem?_getD, List.getElem?_eq_getElem hi]
     rfl
  ·have hb : (l[c].Kind == 3) = false := by rw [← kd_at h]; simp [h3]
   rw [hb, if_neg (by decide), tr_no h3]
 ·have hd : decide ((c : Int) < (l.length : Int)) = false := by simp; exact h
  simp only [hd, andE_false, bsm]
  rw [if_neg (by decide), tr_no (by rw [kd_out h]; decide)]
theorem torn_eq (hl : l.length ≤ 1024) (c : Nat) : f_linotyperef27_torn l c = some (tr l c) := by
 unfold f_linotyperef27_torn
 refine bind_of (iter_map (n := l.length) (trc l c) (t := tr l c) (fun i hi => ?_) ?_ (by omega)) rfl
 ·simp only [dlt hi, if_true, idx_at hi, bsm, w64_succ hi (by omega), orE_some]
  have hz : andE (decide ((c : Int) < (l.length : Int))) ((idx l c).bind fun x_29 => some (x_29.Kind == 3)) = some (kd l c == 3) := by
   rcases Nat.lt_or_ge c l.length with h | h
   ·have hd : decide ((c : Int) < (l.length : Int)) = true := by simp; exact h
    simp only [hd, andE_true, idx_at h, bsm, ← kd_at h]
   ·have hd : decide ((c : Int) < (l.length : Int)) = false := by simp; exact h
    simp only [hd, andE_false]
    rw [kd_out h]
    rfl
  simp only [hz, bsm, andE_some]
  rw [show (kd l c == 3 && ((i : Int) == (c : Int) || ((i + 1 : Nat) : Int) == (c : Int))) = decide (kd l c = 3 ∧ (i = c ∨ i + 1 = c)) by
   rw [Bool.eq_iff_iff]
   simp only [Bool.and_eq_true, Bool.or_eq_true, beq_iff_eq, decide_eq_true_eq]
   omega]
  have hx : (if decide (kd l c = 3 ∧ (i = c ∨ i + 1 = c)) = true then (some (0, ([] : List Int)) : Option (Int × (List Int))) else (some (l[i].Kind, l[i].Text) : Option (Int × (List Int)))) = some ((trc l c i).Kind, (trc l c i).Text) := by
   unfold trc
   split
   ·rename_i h
    rw [if_pos (of_decide_eq_true h)]
    rfl
   ·rename_i h
    rw [if_neg (by simpa using h), List.getD_eq_getElem?_getD, List.getElem?_eq_getElem hi]
    rfl
  rw [hx]
  simp only [bsm]
  rw [app_eq (by simp; omega)]
  rfl
 ·simp only [dnl]
  rfl
def inx (l : List G_api_Cell) (c n j : Nat) : G_api_Cell := if j < c then (tr l c).getD j bl else if j < c + n then bl else (tr l c).getD (j - n) bl
def ins1 (l : List G_api_Cell) (c n j : Nat) : G_api_Cell := if j + 1 = l.length ∧ (inx l c n j).Kind = 2 then bl else inx l c n j
def insl (l : List G_api_Cell) (c n : Nat) : List G_api_Cell := (List.range l.length).map (ins1 l c n)
theorem insl_len (l : List G_api_Cell) (c n : Nat) : (insl l c n).length = l.length := by simp [insl]
theorem insl_get {c n j : Nat} (h : j < l.length) : (insl l c n)[j]? = some (ins1 l c n j) := by simp [insl, h]
theorem inx_kd (l : List G_api_Cell) (c n j : Nat) : (inx l c n j).Kind = if j < c then kd (tr l c) j else if j < c + n then 0 else kd (tr l c) (j - n) := by
 unfold inx
 split
 ·exact kd_getD _ _
 ·split
  ·rfl
  ·exact kd_getD _ _
theorem kd_insl (l : List G_api_Cell) (c n j : Nat) (h : j < l.length) : kd (insl l c n) j = if j + 1 = l.length ∧ (inx l c n j).Kind = 2 then 0 else (inx l c n j).Kind := by
 rw [show kd (insl l c n) j = (ins1 l c n j).Kind by simp [kd, insl_get h]]
 unfold ins1
 split <;> rfl
theorem rgt_getD (hs : Snd l) (j : Nat) : rgt (l.getD j bl) = true := by
 rcases Nat.lt_or_ge j l.length with h | h
 ·exact hs.rg h
 ·rw [List.getD_eq_getElem?_getD, List.getElem?_eq_none h]
  rfl
theorem ite_two {A : Prop} [Decidable A] {X : Int} (h : (if A ∧ X = 2 then (0 : Int) else X) = 2) : X = 2 ∧ ¬ A := by
 by_cases q : A ∧ X = 2
 ·rw [if_pos q] at h; omega
 ·rw [if_neg q] at h; exact ⟨h, fun a => q ⟨a, h⟩⟩
theorem ite_three {A : Prop} [Decidable A] {X : Int} (h : (if A ∧ X = 2 then (0 : Int) else X) = 3) : X = 3 := by
 by_cases q : A ∧ X = 2
 ·rw [if_pos q] at h; omega
 ·rwa [if_neg q] at h
theorem ite_keep {A : Prop} [Decidable A] {X : Int} (h : X ≠ 2) : (if A ∧ X = 2 then (0 : Int) else X) = X := if_neg fun q => h q.2
theorem insl_snd (hs : Snd l) (c n : Nat) : Snd (insl l c n) := fun j hj => by
 have hj' : j < l.length := by rw [insl_len] at hj; exact hj
 have he : (insl l c n)[j] = ins1 l c n j := by
  have := insl_get (c := c) (n := n) hj'
  rw [List.getElem?_eq_getElem hj] at this
  exact Option.some.inj this
 have ht := tr_snd hs c
 have hlen := tr_len l c
 have hat := kd_tr_at l c
 rw [← kd_at hj, he]
 refine ⟨?_, ?_, ?_⟩
 ·unfold ins1
  split
  ·rfl
  ·unfold inx
   split
   ·exact rgt_getD ht j
   ·split
    ·rfl
    ·exact rgt_getD ht (j - n)
 ·intro e
  rw [kd_insl l c n j hj', inx_kd] at e
  obtain ⟨e, hl⟩ := ite_two e
  ·rw [kd_insl l c n (j + 1) (by omega), inx_kd]
   have key : (if j + 1 < c then kd (tr l c) (j + 1) else if j + 1 < c + n then 0 else kd (tr l c) (j + 1 - n)) = 3 := by
    split at e
    ·have h3 := ht.two e
     rw [if_pos]
     ·exact h3
     ·rcases Nat.lt_or_ge (j + 1) c with q | q
      ·exact q
      ·obtain rfl : c = j + 1 := by omega
       exact absurd h3 hat
    ·split at e
     ·cases e
     ·have h3 := ht.two e
      rw [if_neg (by omega), if_neg (by omega), show j + 1 - n = j - n + 1 by omega]
      exact h3
   rw [key]
   exact ite_keep (by decide)
 ·intro e
  rw [kd_insl l c n j hj', inx_kd] at e
  have e' := ite_three e
  split at e'
  ·obtain ⟨h0, h2⟩ := ht.three e'
   refine ⟨h0, ?_⟩
   rw [kd_insl l c n (j - 1) (by omega), inx_kd, if_neg (by rintro ⟨q, _⟩; omega), if_pos (by omega)]
   exact h2
  ·split at e'
   ·cases e'
   ·obtain ⟨h0, h2⟩ := ht.three e'
    have hne : j - n ≠ c := by
     intro q
     rw [q] at e'
     exact hat e'
    refine ⟨by omega, ?_⟩
    rw [kd_insl l c n (j - 1) (by omega), inx_kd, if_neg (by rintro ⟨q, _⟩; omega), if_neg (by omega), if_neg (by omega), show j - 1 - n = j - n - 1 by omega]
    exact h2
theorem ins_fn (hl : l.length ≤ 1024) {c n : Nat} (hc : c < l.length) (h1 : 1 ≤ n) (hn : c + n ≤ l.length) : f_shift_Insert_1 (tr l c) n c = some (insl l c n) := by
 unfold f_shift_Insert_1
 have htl := tr_len l c
 rw [blanks, show (max 0 (min (n : Int) 1024)).toNat = n by omega]
 simp only [bsm]
 have hi : f_slices_Insert (tr l c) c (List.replicate n bl) = some ((tr l c).take c ++ List.replicate n bl ++ (tr l c).drop c) := by
  unfold f_slices_Insert
  rw [if_pos (by rw [htl, List.length_replicate]; unfold far; omega), Int.toNat_natCast]
 rw [hi]
 simp only [bsm]
 have hO : slc ((tr l c).take c ++ List.replicate n bl ++ (tr l c).drop c) 0 ((tr l c).length : Int) = some ((List.range l.length).map (inx l c n)) := by
  have := slc_eq (xs := (tr l c).take c ++ List.replicate n bl ++ (tr l c).drop c) (i := 0) (j := (tr l c).length) (by omega) (by simp [htl]; omega)
  rw [show ((0 : Nat) : Int) = 0 by rfl] at this
  rw [this]
  congr 1
  refine list_eq_range (by simp [htl]; omega) fun i hi => ?_
  rw [List.drop_zero, List.getElem?_take, if_pos (by omega), List.append_assoc]
  unfold inx
  have htk : ((tr l c).take c).length = c := by simp [htl]; omega
  split
  ·rename_i q
   rw [List.getElem?_append_left (by omega), List.getElem?_take, if_pos q, List.getD_eq_getElem?_getD, List.getElem?_eq_getElem (by omega : i < (tr l c).length)]
   rfl
  ·rename_i q
   rw [List.getElem?_append_right (by omega), htk]
   split
   ·rw [List.getElem?_append_left (by simp; omega), List.getElem?_replicate, if_pos (by omega)]
   ·rw [List.getElem?_append_right (by simp; omega), List.length_replicate, List.getElem?_drop, show c + (i - c - n) = i - n by omega, List.getD_eq_getElem?_getD, List.getElem?_eq_getElem (by omega : i - n < (tr l c).length)]
    rfl
 rw [hO]
 simp only [bsm]
 have e1 : w64 (((tr l c).length : Int) - 1) = ((l.length - 1 : Nat) : Int) := by rw [w64_in (by omega), htl]; omega
 rw [e1, idx_at (by simp; omega)]
 simp only [bsm, List.getElem_map, List.getElem_range]
 by_cases hk : (inx l c n (l.length - 1)).Kind = 2
 ·rw [if_pos (by rw [hk]; rfl), sets_nat (by simp; omega)]
  simp only [bsm]
  congr 1
  refine list_eq_range (by simp) fun i hi => ?_
  unfold ins1
  by_cases q : l.length - 1 = i
  ·subst q
   rw [List.getElem?_set_self (by simp; omega), if_pos ⟨by omega, hk⟩]
   rfl
  ·rw [List.getElem?_set_ne q, if_neg (by rintro ⟨q, _⟩; omega)]
   simp [hi]
 ·rw [if_neg (by simp; exact hk)]
  simp only [bsm]
  congr 1
  refine list_eq_range (by simp) fun i hi => ?_
  unfold ins1
  by_cases q : l.length - 1 = i
  ·subst q
   rw [if_neg (by rintro ⟨_, q⟩; exact hk q)]
   simp [hi]
  ·rw [if_neg (by rintro ⟨q, _⟩; omega)]
   simp [hi]
def tt (l : List G_api_Cell) (c n : Nat) : List G_api_Cell := tr (tr l c) (c + n)
theorem tt_len (l : List G_api_Cell) (c n : Nat) : (tt l c n).length = l.length := by simp [tt, tr_len]
def dlx (l : List G_api_Cell) (c n j : Nat) : G_api_Cell := if j < c then (tt l c n).getD j bl else if j + n < l.length then (tt l c n).getD (j + n) bl else bl
def dell (l : List G_api_Cell) (c n : Nat) : List G_api_Cell := (List.range l.length).map (dlx l c n)
theorem dell_len (l : List G_api_Cell) (c n : Nat) : (dell l c n).length = l.length := by simp [dell]
theorem dell_get {c n j : Nat} (h : j < l.length) : (dell l c n)[j]? = some (dlx l c n j) := by simp [dell, h]
theorem kd_dell (l : List G_api_Cell) (c n j : Nat) (h : j < l.length) : kd (dell l c n) j = if j < c then kd (tt l c n) j else if j + n < l.length then kd (tt l c n) (j + n) else 0 := by
 rw [show kd (dell l c n) j = (dlx l c n j).Kind by simp [kd, dell_get h]]
 unfold dlx
 split
 ·exact kd_getD _ _
 ·split
  ·exact kd_getD _ _
  ·rfl
theorem dell_snd (hs : Snd l) (c n : Nat) : Snd (dell l c n) := fun j hj => by
 have hj' : j < l.length := by rw [dell_len] at hj; exact hj
 have he : (dell l c n)[j] = dlx l c n j := by
  have := dell_get (c := c) (n := n) hj'
  rw [List.getElem?_eq_getElem hj] at this
  exact Option.some.inj this
 have ht : Snd (tt l c n) := tr_snd (tr_snd hs c) (c + n)
 have hlen := tt_len l c n
 have hat1 : kd (tt l c n) c ≠ 3 := by
  unfold tt
  rw [kd_tr]
  split
  ·decide
  ·exact kd_tr_at l c
 have hat2 : kd (tt l c n) (c + n) ≠ 3 := kd_tr_at _ _
 rw [← kd_at hj, he]
 refine ⟨?_, ?_, ?_⟩
 ·unfold dlx
  split
  ·exact rgt_getD ht j
  ·split
   ·exact rgt_getD ht _
   ·rfl
 ·intro e
  rw [kd_dell l c n j hj'] at e
  split at e
  ·have h3 := ht.two e
   have hlt := kd_lt (l := tt l c n) (j := j + 1) (by omega)
   rw [kd_dell l c n (j + 1) (by omega), if_pos]
   ·exact h3
   ·rcases Nat.lt_or_ge (j + 1) c with q | q
    ·exact q
    ·obtain rfl : c = j + 1 := by omega
     exact absurd h3 hat1
  ·split at e
   ·have h3 := ht.two e
    have hlt := kd_lt (l := tt l c n) (j := j + n + 1) (by omega)
    rw [kd_dell l c n (j + 1) (by omega), if_neg (by omega), if_pos (by omega), show j + 1 + n = j + n + 1 by omega]
    exact h3
   ·omega
 ·intro e
  rw [kd_dell l c n j hj'] at e
  split at e
  ·obtain ⟨h0, h2⟩ := ht.three e
   refine ⟨h0, ?_⟩
   rw [kd_dell l c n (j - 1) (by omega), if_pos (by omega)]
   exact h2
  ·split at e
   ·obtain ⟨h0, h2⟩ := ht.three e
    have hne : j ≠ c := by
     intro q
     rw [q] at e
     exact hat2 e
    refine ⟨by omega, ?_⟩
    rw [kd_dell l c n (j - 1) (by omega), if_neg (by omega), if_pos (by omega), show j - 1 + n = j + n - 1 by omega]
    exact h2
   ·omega
theorem del_fn (hs : Snd l) (hl : l.length ≤ 1024) {c n : Nat} (hc : c < l.length) (h1 : 1 ≤ n) (hn : c + n ≤ l.length) : f_shift_Delete_1 (tr l c) n c = some (dell l c n) := by
 unfold f_shift_Delete_1
 have htl := tt_len l c n
 have e1 : w64 ((c : Int) + (n : Int)) = ((c + n : Nat) : Int) := by rw [w64_in (by omega)]; simp
 rw [e1, tear_eq (tr_snd hs c) (by rw [tr_len]; exact hl)]
 simp only [bsm]
 rw [show tr (tr l c) (c + n) = tt l c n by rfl]
 have hd : f_slices_Delete (tt l c n) c ((c + n : Nat) : Int) = some ((tt l c n).take c ++ (tt l c n).drop (c + n)) := by
  unfold f_slices_Delete
  rw [if_pos (by rw [htl]; omega), Int.toNat_natCast, Int.toNat_natCast]
 rw [hd, blanks, show (max 0 (min (n : Int) 1024)).toNat = n by omega]
 simp only [bsm]
 rw [app_eq (by simp [htl]; omega)]
 simp only [bsm]
 congr 1
 refine list_eq_range (by simp [htl]; omega) fun i hi => ?_
 unfold dlx
 have htk : ((tt l c n).take c).length = c := by simp [htl]; omega
 rw [List.append_assoc]
 split
 ·rename_i q
  rw [List.getElem?_append_left (by omega), List.getElem?_take, if_pos q, List.getD_eq_getElem?_getD, List.getElem?_eq_getElem (by omega : i < (tt l c n).length)]
  rfl
 ·rename_i q
  rw [List.getElem?_append_right (by omega), htk]
  split
  ·rw [List.getElem?_append_left (by simp [htl]; omega), List.getElem?_drop, show c + n + (i - c) = i + n by omega, List.getD_eq_getElem?_getD, List.getElem?_eq_getElem (by omega : i + n < (tt l c n).length)]
   rfl
  ·rw [List.getElem?_append_right (by simp [htl]; omega), List.getElem?_replicate, if_pos (by simp [htl]; omega)]
theorem pl_whole (h : p.length = l.length) : pl l 0 p = p := by
 symm
 refine list_eq_range h fun i hi => ?_
 unfold pc
 rw [if_pos ⟨Nat.zero_le _, by omega⟩, Nat.sub_zero, List.getD_eq_getElem?_getD, List.getElem?_eq_getElem (by omega)]
 rfl
theorem pw_whole (h1 : 1 ≤ l.length) : pw l w 0 l.length = false := by
 unfold pw tch
 rw [show decide (0 < l.length) = true by simp; omega, show decide (0 ≤ l.length - 1) = true by simp, show decide (l.length - 1 < 0 + l.length) = true by simp; omega]
 simp
def mvs (col n : Int) (m : Nat) : Bool := decide (0 ≤ col) && decide (col < (m : Int)) && decide (1 ≤ n)
def ish (l : List G_api_Cell) (w : Bool) (col n : Int) : G_row_Row := if mvs col n l.length = true then ⟨insl l col.toNat (min n ((l.length : Int) - col)).toNat, false⟩ else ⟨l, w⟩
def dsh (l : List G_api_Cell) (w : Bool) (col n : Int) : G_row_Row := if mvs col n l.length = true then ⟨dell l col.toNat (min n ((l.length : Int) - col)).toNat, false⟩ else ⟨l, w⟩
theorem ish_snd (hs : Snd l) (col n : Int) : Snd (ish l w col n).cells := by
 unfold ish
 split
 ·exact insl_snd hs _ _
 ·exact hs
theorem dsh_snd (hs : Snd l) (col n : Int) : Snd (dsh l w col n).cells := by
 unfold dsh
 split
 ·exact dell_snd hs _ _
 ·exact hs
theorem ish_len (col n : Int) : (ish l w col n).cells.length = l.length := by
 unfold ish
 split
 ·exact insl_len _ _ _
 ·rfl
theorem dsh_len (col n : Int) : (dsh l w col n).cells.length = l.length := by
 unfold dsh
 split
 ·exact dell_len _ _ _
 ·rfl
theorem mvs_out {col n : Int} {m : Nat} : (decide (col < 0) || decide (col ≥ (m : Int)) || decide (n < 1)) = !mvs col n m := by
 rw [Bool.eq_iff_iff]
 simp only [mvs, Bool.or_eq_true, Bool.not_eq_true', Bool.and_eq_false_iff, decide_eq_true_eq, decide_eq_false_iff_not]
 omega
theorem mvs_in {col n : Int} {m : Nat} (h : mvs col n m = true) : ∃ c e : Nat, col = (c : Int) ∧ min n ((m : Int) - col) = (e : Int) ∧ c < m ∧ 1 ≤ e ∧ c + e ≤ m := by
 simp only [mvs, Bool.and_eq_true, decide_eq_true_eq] at h
 exact ⟨col.toNat, (min n ((m : Int) - col)).toNat, by omega, by omega, by omega, by omega, by omega⟩
theorem shift_ins (h : s.row_Row[k]? = some ⟨l, w⟩) (hs : Snd l) (hl : l.length ≤ 1024) (col n : Int) : f_shift_Insert s (some k) col n = some (s.sr k (ish l w col n)) := by
 unfold f_shift_Insert f_shift_turns__shift_Insert_1
 simp only [row_wide h, bsm, orE_some, mvs_out]
 unfold ish
 by_cases hm : mvs col n l.length = true
 ·obtain ⟨c, e, rfl, he, h1, h2, h3⟩ := mvs_in hm
  rw [if_neg (by rw [hm]; decide), if_pos hm, row_cells h (by omega) hs.sht]
  simp only [bsm, tear_eq hs hl]
  have e1 : imin n (w64 ((l.length : Int) - (c : Int))) = (e : Int) := by rw [w64_in (by omega), imin_eq]; exact he
  rw [e1, ins_fn hl h1 h2 h3, he]
  simp only [bsm, Int.toNat_natCast]
  have := row_paint h hs hl (insl_snd hs c e) (a := 0) (by rw [insl_len]; omega) (by rw [insl_len]; omega)
  rw [show ((0 : Nat) : Int) = 0 by rfl] at this
  rw [this, pl_whole (insl_len l c e), insl_len, pw_whole (by omega)]
  rfl
 ·rw [if_pos (by simpa using hm), if_neg hm, sr_id h]
  rfl
theorem shift_del (h : s.row_Row[k]? = some ⟨l, w⟩) (hs : Snd l) (hl : l.length ≤ 1024) (col n : Int) : f_shift_Delete s (some k) col n = some (s.sr k (dsh l w col n)) := by
 unfold f_shift_Delete f_shift_turns__shift_Delete_1
 simp only [row_wide h, bsm, orE_some, mvs_out]
 unfold dsh
 by_cases hm : mvs col n l.length = true
 ·obtain ⟨c, e, rfl, he, h1, h2, h3⟩ := mvs_in hm
  rw [if_neg (by rw [hm]; decide), if_pos hm, row_cells h (by omega) hs.sht]
  simp only [bsm, tear_eq hs hl]
  have e1 : imin n (w64 ((l.length : Int) - (c : Int))) = (e : Int) := by rw [w64_in (by omega), imin_eq]; exact he
  rw [e1, del_fn hs hl h1 h2 h3, he]
  simp only [bsm, Int.toNat_natCast]
  have := row_paint h hs hl (dell_snd hs c e) (a := 0) (by rw [dell_len]; omega) (by rw [dell_len]; omega)
  rw [show ((0 : Nat) : Int) = 0 by rfl] at this
  rw [this, pl_whole (dell_len l c e), dell_len, pw_whole (by omega)]
  rfl
 ·rw [if_pos (by simpa using hm), if_neg hm, sr_id h]
  rfl
theorem ref_ins (hl : l.length ≤ 1024) (col n : Int) (w : Bool) : f_linotyperef27_Insert l col n = some ((ish l w col n).cells, mvs col n l.length) := by
 unfold f_linotyperef27_Insert
 simp only [bsm, orE_some, mvs_out]
 unfold ish
 by_cases hm : mvs col n l.length = true
 ·rw [hm]
  obtain ⟨c, e, rfl, he, h1, h2, h3⟩ := mvs_in hm
  have e1 : imin n (w64 ((l.length : Int) - (c : Int))) = (e : Int) := by rw [w64_in (by omega), imin_eq]; exact he
  rw [if_neg (by decide), if_pos rfl, torn_eq hl, e1, he]
  simp only [bsm, Int.toNat_natCast]
  refine bind_of (iter_map (n := l.length) (ins1 l c e) (t := insl l c e) (fun i hi => ?_) ?_ (by omega)) rfl
  ·have e2 : w64 ((c : Int) + (e : Int)) = ((c + e : Nat) : Int) := by rw [w64_in (by omega)]; simp
   simp only [dlt hi, if_true, w64_succ hi (by omega), e2, andE_some, bsm]
   have htl := tr_len l c
   have hx : ((if decide ((i : Int) < (c : Int)) = true then (idx (tr l c) (i : Int)).bind fun x => (some (x.Kind, x.Text) : Option (Int × (List Int))) else (some (0, ([] : List Int)) : Option (Int × (List Int)))).bind fun z =>
     if decide ((i : Int) ≥ ((c + e : Nat) : Int)) = true then (idx (tr l c) (w64 ((i : Int) - (e : Int)))).bind fun x => (some (x.Kind, x.Text) : Option (Int × (List Int))) else (some (z.1, z.2) : Option (Int × (List Int)))) = some ((inx l c e i).Kind, (inx l c e i).Text) := by
    unfold inx
    by_cases q1 : i < c
    ·rw [if_pos (by simp; omega), idx_at (by omega : i < (tr l c).length)]
     simp only [bsm]
     rw [if_neg (by simp; omega), if_pos q1, List.getD_eq_getElem?_getD, List.getElem?_eq_getElem (by omega : i < (tr l c).length)]
     rfl
    ·rw [if_neg (by simp; omega), if_neg q1]
     simp only [bsm]
     by_cases q2 : i < c + e
     ·rw [if_neg (by simp; omega), if_pos q2]
      rfl
     ·have e3 : w64 ((i : Int) - (e : Int)) = ((i - e : Nat) : Int) := by rw [w64_in (by omega)]; omega
      rw [if_pos (by simp; omega), if_neg q2, e3, idx_at (by omega : i - e < (tr l c).length), List.getD_eq_getElem?_getD, List.getElem?_eq_getElem (by omega : i - e < (tr l c).length)]
      rfl
   refine (Option.bind_assoc _ _ _).symm.trans ?_
   rw [hx]
   simp only [bsm]
   have hy : (if (((i + 1 : Nat) : Int) == (l.length : Int) && (inx l c e i).Kind == 2) = true then (some (0, ([] : List Int)) : Option (Int × (List Int))) else (some ((inx l c e i).Kind, (inx l c e i).Text) : Option (Int × (List Int)))) = some ((ins1 l c e i).Kind, (ins1 l c e i).Text) := by
    unfold ins1
    by_cases q : i + 1 = l.length ∧ (inx l c e i).Kind = 2
    ·rw [if_pos (by simp only [Bool.and_eq_true, beq_iff_eq]; omega), if_pos q]
     rfl
    ·rw [if_neg (by simp only [Bool.and_eq_true, beq_iff_eq]; omega), if_neg q]
   rw [hy]
   simp only [bsm]
   rw [app_eq (by simp; omega)]
   rfl
  ·simp only [dnl]
   rfl
 ·rw [if_pos (by simpa using hm), if_neg hm]
  simp only [Bool.not_eq_true] at hm
  rw [hm]
theorem ref_del (hl : l.length ≤ 1024) (col n : Int) (w : Bool) : f_linotyperef27_Delete l col n = some ((dsh l w col n).cells, mvs col n l.length) := by
 unfold f_linotyperef27_Delete
 simp only [bsm, orE_some, mvs_out]
 unfold dsh
 by_cases hm : mvs col n l.length = true
 ·rw [hm]
  obtain ⟨c, e, rfl, he, h1, h2, h3⟩ := mvs_in hm
  have e1 : imin n (w64 ((l.length : Int) - (c : Int))) = (e : Int) := by rw [w64_in (by omega), imin_eq]; exact he
  have e2 : w64 ((c : Int) + (e : Int)) = ((c + e : Nat) : Int) := by rw [w64_in (by omega)]; simp
  rw [if_neg (by decide), if_pos rfl, torn_eq hl, e1, he]
  simp only [bsm, Int.toNat_natCast, e2]
  rw [torn_eq (by rw [tr_len]; exact hl)]
  simp only [bsm]
  rw [show tr (tr l c) (c + e) = tt l c e by rfl]
  refine bind_of (iter_map (n := l.length) (dlx l c e) (t := dell l c e) (fun i hi => ?_) ?_ (by omega)) rfl
  ·have htl := tt_len l c e
   have e3 : w64 ((i : Int) + (e : Int)) = ((i + e : Nat) : Int) := by rw [w64_in (by omega)]; simp
   simp only [dlt hi, if_true, w64_succ hi (by omega), e3]
   have hx : (if decide ((i : Int) < (c : Int)) = true then (idx (tt l c e) (i : Int)).bind fun x => (some (x.Kind, x.Text) : Option (Int × (List Int))) else if decide (((i + e : Nat) : Int) < (l.length : Int)) = true then (idx (tt l c e) ((i + e : Nat) : Int)).bind fun x => (some (x.Kind, x.Text) : Option (Int × (List Int))) else (some (0, ([] : List Int)) : Option (Int × (List Int)))) = some ((dlx l c e i).Kind, (dlx l c e i).Text) := by
    unfold dlx
    by_cases q1 : i < c
    ·rw [if_pos (by simp; omega), idx_at (by omega : i < (tt l c e).length), if_pos q1, List.getD_eq_getElem?_getD, List.getElem?_eq_getElem (by omega : i < (tt l c e).length)]
     rfl
    ·rw [if_neg (by simp; omega), if_neg q1]
     by_cases q2 : i + e < l.length
     ·rw [if_pos (by simp only [decide_eq_true_eq]; omega), if_pos q2, idx_at (by omega : i + e < (tt l c e).length), List.getD_eq_getElem?_getD, List.getElem?_eq_getElem (by omega : i + e < (tt l c e).length)]
      rfl
     ·rw [if_neg (by simp only [decide_eq_true_eq]; omega), if_neg q2]
      rfl
   rw [hx]
   simp only [bsm]
   rw [app_eq (by simp; omega)]
   rfl
  ·simp only [dnl]
   rfl
 ·rw [if_pos (by simpa using hm), if_neg hm]
  simp only [Bool.not_eq_true] at hm
  rw [hm]
end Go.Proofs.YthokmpbbkpjhbaaGreatDoor
namespace Go.Proofs.YthokmpbbkpjhbaaGreatDoor
open Go Go.Lt
variable {s C : Sto} {g k W : Nat} {ks : List Nat} {q : G_linotyperef34_Pen}
def w38 (o : G_api_Op) : Int := if o.Kind < 2 ∨ 12 < o.Kind then 5 else if (o.Kind = 3 ∨ o.Kind = 4) ∧ (o.A < 0 ∨ 2 < o.A) then 3 else 0
def e38 (o : G_api_Op) : Er := if w38 o = 5 then .sent 4 else if w38 o = 3 then .sent 0 else .nil
theorem w38_in (o : G_api_Op) : w38 o = 5 ∨ w38 o = 3 ∨ w38 o = 0 := by
  unfold w38
  repeat' split
  all_goals simp
def does (n : Int) : Bool := decide (2 ≤ n) && decide (n ≤ 12)
theorem edit_does (n : Int) : f_edit_Does n = some (does n) := by
  unfold f_edit_Does does
  simp only [andE_some, bsm, ge_iff_le]
theorem does_w38 (o : G_api_Op) : does o.Kind = (w38 o != 5) := by
  rw [Bool.eq_iff_iff]
  unfold does w38
  simp only [Bool.and_eq_true, decide_eq_true_eq, bne_iff_ne, ne_eq]
  repeat' split
  all_goals omega
theorem edit_wrong (o : G_api_Op) : f_edit_Wrong o = some (e38 o) := by
  unfold f_edit_Wrong
  rw [edit_does]
  have hd : does o.Kind = !decide (o.Kind < 2 ∨ 12 < o.Kind) := by
    rw [Bool.eq_iff_iff]
    simp only [does, Bool.and_eq_true, decide_eq_true_eq, Bool.not_eq_true', decide_eq_false_iff_not]
    omega
  simp only [bsm, hd, andE_some, orE_some, Bool.not_not]
  unfold e38
  by_cases h : o.Kind < 2 ∨ 12 < o.Kind
  · have e : w38 o = 5 := by unfold w38; rw [if_pos h]
    rw [if_pos (by simpa using h), if_pos e]
  · rw [if_neg (by simpa using h)]
    by_cases h2 : (o.Kind = 3 ∨ o.Kind = 4) ∧ (o.A < 0 ∨ 2 < o.A)
    · have e : w38 o = 3 := by unfold w38; rw [if_neg h, if_pos h2]
      rw [if_pos (by simp only [Bool.and_eq_true, Bool.or_eq_true, decide_eq_true_eq, bne_iff_ne, ne_eq]; omega), e]
      rfl
    · have e : w38 o = 0 := by unfold w38; rw [if_neg h, if_neg h2]
      rw [if_neg (by simp only [Bool.and_eq_true, Bool.or_eq_true, decide_eq_true_eq, bne_iff_ne, ne_eq]; omega), e]
      rfl
theorem e38_nil (o : G_api_Op) : (e38 o).isNil = (w38 o == 0) := by
  unfold e38
  rcases w38_in o with h | h | h <;> rw [h] <;> rfl
def lt (r : G_row_Row) : G_api_Line := ⟨r.cells, r.wrap⟩
theorem act38 (h : Pv C s k g W q ks) {i : Nat} (hi : i < ks.length) (x a b : Int) : f_linotyperef38_act q i x a b = some ⟨q.L.set i (lt (ac (q.L.getD i dl).Cells (q.L.getD i dl).Wrap x a b)), q.At, q.Auto⟩ := by
  have hl := h.len
  have hlt : i < q.L.length := by omega
  have hok := h.ok _ (List.getElem_mem hlt)
  have w2 := h.g.w2
  unfold f_linotyperef38_act
  rw [idx_at hlt]
  simp only [bsm]
  rw [ref_act _ _ (by rw [hok.2]; exact w2)]
  simp only [bsm]
  rw [ref_with h hi, gdl hlt]
  rfl
theorem Pv.ac (h : Pv C s k g W q ks) {i : Nat} (hi : i < ks.length) (x a b : Int) : Pv C (s.sr ks[i] (ac (q.L.getD i dl).Cells (q.L.getD i dl).Wrap x a b)) k g W ⟨q.L.set i (lt (Go.Proofs.YthokmpbbkpjhbaaGreatDoor.ac (q.L.getD i dl).Cells (q.L.getD i dl).Wrap x a b)), q.At, q.Auto⟩ ks := by
  have hl := h.len
  have hlt : i < q.L.length := by omega
  have hok := h.ok _ (List.getElem_mem hlt)
  have e : q.L.getD i dl = q.L[i] := gdl hlt
  rw [e]
  exact h.row hi (ac_snd hok.1 x a b) (by rw [ac_len]; exact hok.2)
theorem Pv.rw_ (h : Pv C s k g W q ks) {i : Nat} (hi : i < ks.length) : s.row_Row[ks[i]]? = some ⟨(q.L.getD i dl).Cells, (q.L.getD i dl).Wrap⟩ ∧ Snd (q.L.getD i dl).Cells ∧ (q.L.getD i dl).Cells.length = W := by
  have hl := h.len
  have hlt : i < q.L.length := by omega
  have hok := h.ok _ (List.getElem_mem hlt)
  obtain ⟨r, h1, h2, h3⟩ := h.g.at hi
  have e : q.L[i] = ⟨r.cells, r.wrap⟩ := by rw [h.at hi, ln_eq h1]
  rw [gdl hlt, e]
  exact ⟨h1, h2, h3⟩
def md (mode : Int) : Int := if mode = 0 then 2 else if mode = 1 then 1 else 3
theorem edit_line (h : Pv C s k g W q ks) {i : Nat} (hi : i < ks.length) (hr : q.At.Row = (i : Int)) (mode : Int) : f_edit_line s (some k) mode = some (s.sr ks[i] (ac (q.L.getD i dl).Cells (q.L.getD i dl).Wrap (md mode) q.At.Col 0)) := by
  obtain ⟨r1, r2, r3⟩ := h.rw_ hi
  have w2 := h.g.w2
  unfold f_edit_line md
  simp only [bsm, h.p, hr]
  rw [grid_row h.g hi]
  simp only [bsm]
  by_cases h0 : mode = 0
  · rw [if_pos (by simpa using h0), if_pos h0, erase_right r1 r2 (by omega) _ 0]
    rfl
  · rw [if_neg (by simpa using h0), if_neg h0]
    by_cases h1 : mode = 1
    · rw [if_pos (by simpa using h1), if_pos h1, erase_left r1 r2 (by omega) _ 0]
      rfl
    · rw [if_neg (by simpa using h1), if_neg h1, erase_all r1 r2 (by omega) q.At.Col 0]
      rfl
def eS (cond : Nat → Bool) (L : List G_api_Line) : Nat → List G_api_Line
  | 0 => L
  | i + 1 => if cond i = true then (eS cond L i).set i (lt (ac ((eS cond L i).getD i dl).Cells ((eS cond L i).getD i dl).Wrap 3 0 0)) else eS cond L i
def cnd (mode : Int) (row : Int) (i : Nat) : Bool := mode == 2 || (mode == 0 && decide ((i : Int) > row)) || (mode == 1 && decide ((i : Int) < row))
theorem screen_loop (h : Pv C s k g W q ks) (mode : Int) {H : Int} (hH : H = (ks.length : Int)) : ∃ s', (iter (σ := Int × Sto) (τ := Sto) ((H - 0).toNat + 1) (fun s_12 =>
 if (decide (s_12.1 < H)) = true then
 ((orE (mode == 2) ((andE (mode == 0) ((s_12.2.place_Pen[k]?).bind fun o_32 =>
 some (decide (s_12.1 > o_32.At.Row)))).bind fun d_25 =>
 some d_25)).bind fun d_21 =>
 (orE d_21 ((andE (mode == 1) ((s_12.2.place_Pen[k]?).bind fun o_45 =>
 some (decide (s_12.1 < o_45.At.Row)))).bind fun d_38 =>
 some d_38)).bind fun d_34 =>
 if d_34 = true then
 (s_12.2.place_Pen[k]?).bind fun o_51 =>
 (f_grid_Grid_Row s_12.2 o_51.G s_12.1).bind fun x_53 =>
 (f_erase_All s_12.2 x_53).bind fun x_54 =>
 (some (x_54) : Option (Sto))
 else
 (some (s_12.2) : Option (Sto))).bind fun z_15 =>
 some (.inl ((w64 (s_12.1 + 1)), z_15))
 else
 some (.inr (s_12.2))) (0, s)) = some s' ∧ Pv C s' k g W ⟨eS (cnd mode q.At.Row) q.L ks.length, q.At, q.Auto⟩ ks := by
  subst hH
  have hh := h.g.h2
  refine iter_for (n := ks.length) (fun i st => st.1 = (i : Int) ∧ Pv C st.2 k g W ⟨eS (cnd mode q.At.Row) q.L i, q.At, q.Auto⟩ ks) (fun st => Pv C st k g W ⟨eS (cnd mode q.At.Row) q.L ks.length, q.At, q.Auto⟩ ks) (fun i st hi hI => ?_) (fun st hI => ?_) ⟨rfl, h⟩ (by omega)
  · obtain ⟨i', st⟩ := st
    obtain ⟨e, v⟩ := hI
    simp only at e v
    subst e
    simp only
    rw [if_pos (dlt hi)]
    have hp := v.p
    simp only at hp
    simp only [hp, bsm, andE_some, orE_some]
    rw [w64_succ hi (by omega)]
    by_cases hc : cnd mode q.At.Row i = true
    · rw [if_pos (show (mode == 2 || mode == 0 && decide ((i : Int) > q.At.Row) || mode == 1 && decide ((i : Int) < q.At.Row)) = true from hc), grid_row v.g hi]
      obtain ⟨r1, r2, r3⟩ := v.rw_ hi
      simp only [bsm]
      have w2 := h.g.w2
      rw [erase_all r1 r2 (by omega) 0 0]
      refine .inl ⟨_, rfl, rfl, ?_⟩
      simp only [eS]
      rw [if_pos hc]
      exact v.ac hi 3 0 0
    · rw [if_neg (show ¬ (mode == 2 || mode == 0 && decide ((i : Int) > q.At.Row) || mode == 1 && decide ((i : Int) < q.At.Row)) = true from hc)]
      refine .inl ⟨_, rfl, rfl, ?_⟩
      simp only [eS]
      rw [if_neg hc]
      exact v
  · obtain ⟨i', st⟩ := st
    obtain ⟨e, v⟩ := hI
    simp only at e v
    subst e
    exact ⟨st, by simp, v⟩
theorem lines_loop (h : Pv C s k g W q ks) (kind mode : Int) : (iter (σ := Int × (List G_api_Line) × Int × Int × Bool × Bool) (τ := ((List G_api_Line) × Int × Int × Bool × Bool)) (((q.L.length : Int) - 0).toNat + 1) (fun s_23 =>
 (andE (decide (s_23.1 < (s_23.2.1.length : Int))) (some (kind == 4))).bind fun d_29 =>
 if d_29 = true then
 ((orE (mode == 2) ((andE (mode == 0) (some (decide (s_23.1 > s_23.2.2.1)))).bind fun d_41 =>
 some d_41)).bind fun d_37 =>
 (orE d_37 ((andE (mode == 1) (some (decide (s_23.1 < s_23.2.2.1)))).bind fun d_52 =>
 some d_52)).bind fun d_48 =>
 if d_48 = true then
 (f_linotyperef38_act (⟨s_23.2.1, (⟨s_23.2.2.1, s_23.2.2.2.1, s_23.2.2.2.2.1⟩ : G_api_Cursor), s_23.2.2.2.2.2⟩ : G_linotyperef34_Pen) s_23.1 3 0 0).bind fun x_62 =>
 (some (x_62.L, x_62.At.Row, x_62.At.Col, x_62.At.Pending, x_62.Auto) : Option ((List G_api_Line) × Int × Int × Bool × Bool))
 else
 (some (s_23.2.1, s_23.2.2.1, s_23.2.2.2.1, s_23.2.2.2.2.1, s_23.2.2.2.2.2) : Option ((List G_api_Line) × Int × Int × Bool × Bool))).bind fun z_34 =>
 some (.inl ((w64 (s_23.1 + 1)), z_34.1, z_34.2.1, z_34.2.2.1, z_34.2.2.2.1, z_34.2.2.2.2))
 else
 some (.inr (s_23.2.1, s_23.2.2.1, s_23.2.2.2.1, s_23.2.2.2.2.1, s_23.2.2.2.2.2))) (0, q.L, q.At.Row, q.At.Col, q.At.Pending, q.Auto)) =
    some (if kind = 4 then eS (cnd mode q.At.Row) q.L ks.length else q.L, q.At.Row, q.At.Col, q.At.Pending, q.Auto) := by
  have hh := h.g.h2
  have hl := h.len
  by_cases hk : kind = 4
  · subst hk
    rw [if_pos rfl]
    obtain ⟨t, h1, h2⟩ := iter_for (σ := Int × (List G_api_Line) × Int × Int × Bool × Bool) (τ := ((List G_api_Line) × Int × Int × Bool × Bool)) (n := ks.length) (fuel := ((q.L.length : Int) - 0).toNat + 1) (s := (0, q.L, q.At.Row, q.At.Col, q.At.Pending, q.Auto))
      (fun i st => st = ((i : Int), eS (cnd mode q.At.Row) q.L i, q.At.Row, q.At.Col, q.At.Pending, q.Auto) ∧ ∃ s', Pv C s' k g W ⟨eS (cnd mode q.At.Row) q.L i, q.At, q.Auto⟩ ks) (fun t => t = (eS (cnd mode q.At.Row) q.L ks.length, q.At.Row, q.At.Col, q.At.Pending, q.Auto))
      (step := fun s_23 =>
 (andE (decide (s_23.1 < (s_23.2.1.length : Int))) (some ((4 : Int) == 4))).bind fun d_29 =>
 if d_29 = true then
 ((orE (mode == 2) ((andE (mode == 0) (some (decide (s_23.1 > s_23.2.2.1)))).bind fun d_41 =>
 some d_41)).bind fun d_37 =>
 (orE d_37 ((andE (mode == 1) (some (decide (s_23.1 < s_23.2.2.1)))).bind fun d_52 =>
 some d_52)).bind fun d_48 =>
 if d_48 = true then
 (f_linotyperef38_act (⟨s_23.2.1, (⟨s_23.2.2.1, s_23.2.2.2.1, s_23.2.2.2.2.1⟩ : G_api_Cursor), s_23.2.2.2.2.2⟩ : G_linotyperef34_Pen) s_23.1 3 0 0).bind fun x_62 =>
 (some (x_62.L, x_62.At.Row, x_62.At.Col, x_62.At.Pending, x_62.Auto) : Option ((List G_api_Line) × Int × Int × Bool × Bool))
 else
 (some (s_23.2.1, s_23.2.2.1, s_23.2.2.2.1, s_23.2.2.2.2.1, s_23.2.2.2.2.2) : Option ((List G_api_Line) × Int × Int × Bool × Bool))).bind fun z_34 =>
 some (.inl ((w64 (s_23.1 + 1)), z_34.1, z_34.2.1, z_34.2.2.1, z_34.2.2.2.1, z_34.2.2.2.2))
 else
 some (.inr (s_23.2.1, s_23.2.2.1, s_23.2.2.2.1, s_23.2.2.2.2.1, s_23.2.2.2.2.2)))
      (fun i st hi hI => by
        obtain ⟨rfl, s', v⟩ := hI
        have hvl : (eS (cnd mode q.At.Row) q.L i).length = ks.length := v.len
        simp only [andE_some, bsm, orE_some]
        rw [if_pos (by simp [hvl, hi]), w64_succ hi (by omega)]
        by_cases hc : cnd mode q.At.Row i = true
        · rw [if_pos (show (mode == 2 || mode == 0 && decide ((i : Int) > q.At.Row) || mode == 1 && decide ((i : Int) < q.At.Row)) = true from hc)]
          have ha := act38 v hi 3 0 0
          rw [show (⟨eS (cnd mode q.At.Row) q.L i, ⟨q.At.Row, q.At.Col, q.At.Pending⟩, q.Auto⟩ : G_linotyperef34_Pen) = ⟨eS (cnd mode q.At.Row) q.L i, q.At, q.Auto⟩ from rfl, ha]
          refine .inl ⟨_, rfl, ?_, s'.sr ks[i] (ac ((eS (cnd mode q.At.Row) q.L i).getD i dl).Cells ((eS (cnd mode q.At.Row) q.L i).getD i dl).Wrap 3 0 0), ?_⟩
          · simp only [eS]
            rw [if_pos hc]
          · simp only [eS]
            rw [if_pos hc]
            exact v.ac hi 3 0 0
        · rw [if_neg (show ¬ (mode == 2 || mode == 0 && decide ((i : Int) > q.At.Row) || mode == 1 && decide ((i : Int) < q.At.Row)) = true from hc)]
          refine .inl ⟨_, rfl, ?_, s', ?_⟩
          · simp only [eS]
            rw [if_neg hc]
          · simp only [eS]
            rw [if_neg hc]
            exact v)
      (fun st hI => by
        obtain ⟨rfl, s', v⟩ := hI
        have hvl : (eS (cnd mode q.At.Row) q.L ks.length).length = ks.length := v.len
        refine ⟨_, ?_, rfl⟩
        simp only [andE_some, bsm]
        rw [if_neg (by simp [hvl])])
      ⟨rfl, s, h⟩ (by omega)
    rw [h1, h2]
  · rw [if_neg hk]
    have hf : (kind == 4) = false := by simpa using hk
    rw [show ((q.L.length : Int) - 0).toNat + 1 = q.L.length + 1 by omega]
    simp only [iter, hf, andE_some, Bool.and_false, bsm, Bool.false_eq_true, if_false]
theorem with38 (h : Pv C s k g W q ks) {i : Nat} (hi : i < ks.length) {c : List G_api_Cell} {done : Bool} {r : G_row_Row} (hc : c = r.cells) (hd : done = true → r.wrap = false) (hn : done = false → r = ⟨(q.L.getD i dl).Cells, (q.L.getD i dl).Wrap⟩) {z : G_linotyperef34_Pen} (hz : z = q) :
    (if done = true then (f_linotyperef34_Pen_With z i ⟨c, false⟩).bind fun x_172 => (some (x_172.L, x_172.At.Row, x_172.At.Col, x_172.At.Pending, x_172.Auto) : Option ((List G_api_Line) × Int × Int × Bool × Bool))
     else (some (z.L, z.At.Row, z.At.Col, z.At.Pending, z.Auto) : Option ((List G_api_Line) × Int × Int × Bool × Bool))) = some (q.L.set i (lt r), q.At.Row, q.At.Col, q.At.Pending, q.Auto) := by
  subst hz hc
  have hl := h.len
  cases done with
  | true =>
    rw [if_pos rfl, ref_with h hi]
    simp only [bsm]
    unfold lt
    rw [hd rfl]
  | false =>
    rw [if_neg (by simp), hn rfl]
    unfold lt
    rw [gdl (show i < z.L.length by omega), List.set_getElem_self]
theorem ish_done {l : List G_api_Cell} {w : Bool} {a b : Int} : (mvs a b l.length = true → (ish l w a b).wrap = false) ∧ (mvs a b l.length = false → ish l w a b = ⟨l, w⟩) := by
  unfold ish
  refine ⟨fun h => by rw [if_pos h], fun h => by rw [if_neg (by rw [h]; simp)]⟩
theorem dsh_done {l : List G_api_Cell} {w : Bool} {a b : Int} : (mvs a b l.length = true → (dsh l w a b).wrap = false) ∧ (mvs a b l.length = false → dsh l w a b = ⟨l, w⟩) := by
  unfold dsh
  refine ⟨fun h => by rw [if_pos h], fun h => by rw [if_neg (by rw [h]; simp)]⟩
theorem lines38 (h : Pv C s k g W q ks) {i : Nat} (hi : i < ks.length) (hr : q.At.Row = (i : Int)) (kind : Int) {mode : Int} (hm : 0 ≤ mode ∧ mode ≤ 2) : ∃ L1, L1 = q.L.set i (lt (ac (q.L.getD i dl).Cells (q.L.getD i dl).Wrap (md mode) q.At.Col 0)) ∧
    f_linotyperef38_lines q kind mode = some ⟨if kind = 4 then eS (cnd mode q.At.Row) L1 ks.length else L1, q.At, q.Auto⟩ := by
  refine ⟨_, rfl, ?_⟩
  unfold f_linotyperef38_lines
  have hidx : idx ([2, 1, 3] : List Int) mode = some (md mode) := by
    have : mode = 0 ∨ mode = 1 ∨ mode = 2 := by omega
    rcases this with e | e | e <;> rw [e] <;> rfl
  have v := h.ac hi (md mode) q.At.Col 0
  have e0 : f_linotyperef38_act q q.At.Row (md mode) q.At.Col 0 = some ⟨q.L.set i (lt (ac (q.L.getD i dl).Cells (q.L.getD i dl).Wrap (md mode) q.At.Col 0)), q.At, q.Auto⟩ := by
    rw [hr]
    exact act38 h hi _ _ _
  rw [hidx]
  simp only [bsm]
  rw [e0]
  simp only [bsm]
  have := lines_loop v kind mode
  simp only at this
  rw [this]
  rfl
theorem edit_eq (h : Pv C s k g W q ks) (o : G_api_Op) (hw : w38 o = 0) : ∃ s' q' ks', f_edit_Do s (some k) o = some (s', Er.nil) ∧ f_linotyperef38_Do q o = some q' ∧ Pv C s' k g W q' ks' ∧ ks'.length = ks.length ∧ Hd q'.At W ks.length ∧ q'.At.Pending = false := by
  have hh := h.g.h2
  have h1 := h.g.h1
  have w1 := h.g.w1
  have w2 := h.g.w2
  have hkind : 2 ≤ o.Kind ∧ o.Kind ≤ 12 := by
    unfold w38 at hw
    split at hw
    · cases hw
    · omega
  have hmode : (o.Kind = 3 ∨ o.Kind = 4) → 0 ≤ o.A ∧ o.A ≤ 2 := fun e => by
    unfold w38 at hw
    rw [if_neg (by omega)] at hw
    split at hw
    · cases hw
    · omega
  have hnil : e38 o = Er.nil := by unfold e38; rw [hw]; rfl
  have hd0 := hc_hd q.At w1 h1
  have hv : Pv C (s.sp k ⟨some g, ⟨(hc q.At W ks.length).Row, (hc q.At W ks.length).Col, false⟩, q.Auto⟩) k g W ⟨q.L, ⟨(hc q.At W ks.length).Row, (hc q.At W ks.length).Col, false⟩, q.Auto⟩ ks := h.set _ _
  have hd : Hd ⟨(hc q.At W ks.length).Row, (hc q.At W ks.length).Col, false⟩ W ks.length := ⟨hd0.rr, hd0.cc, fun e => by cases e⟩
  unfold f_edit_Do f_linotyperef38_Do
  rw [edit_wrong, hnil, ref_Hold h]
  simp only [bsm, Er.isNil, Bool.not_true, Bool.false_eq_true, if_false, Option.isNone_some, orE_false, h.p]
  rw [grid_wide h.g, grid_high h.g]
  simp only [bsm]
  rw [cur_hold _ w1 w2 h1 hh]
  simp only [bsm]
  rw [set_pen (get_lt h.p)]
  simp only [bsm]
  rw [set_pen (by simp [Sto.sp]; exact get_lt h.p), sp_sp]
  simp only [bsm]
  generalize hc q.At W ks.length = c at *
  obtain ⟨i, hi⟩ : ∃ i : Nat, c.Row = (i : Int) := ⟨c.Row.toNat, by have := hd.rr; simp only at this; omega⟩
  have hik : i < ks.length := by have := hd.rr; simp only at this; omega
  have hlen := hv.len
  simp only at hlen
  obtain ⟨c1, c2, c3⟩ := c
  simp only at hi hv hd
  subst hi
  simp only
  rw [idx_at (show i < q.L.length by omega)]
  simp only [bsm]
  generalize s.sp k ⟨some g, ⟨(i : Int), c2, false⟩, q.Auto⟩ = s1 at *
  obtain ⟨L, ⟨_, _, _⟩, au⟩ := q
  simp only at hv hlen ⊢
  obtain ⟨r1, r2, r3⟩ := hv.rw_ hik
  simp only at r1 r2 r3
  obtain ⟨kd_, A, B, bs⟩ := o
  simp only at hkind hmode ⊢
  have hcell : L[i]'(by omega) = L.getD i dl := (gdl (by omega)).symm
  rw [hcell]
  have : kd_ = 2 ∨ kd_ = 3 ∨ kd_ = 4 ∨ kd_ = 5 ∨ kd_ = 6 ∨ kd_ = 7 ∨ kd_ = 8 ∨ kd_ = 9 ∨ kd_ = 10 ∨ kd_ = 11 ∨ kd_ = 12 := by omega
  have hcc := hd.cc
  simp only at hcc
  rcases this with e | e | e | e | e | e | e | e | e | e | e <;> subst e <;> simp only [Int.reduceBEq, Bool.false_eq_true, if_false, if_true, bsm]
  ·
    unfold f_edit_cells
    simp only [bsm, hv.p]
    rw [grid_row hv.g hik]
    simp only [bsm, Int.reduceBEq, if_true]
    rw [grid_wide hv.g, grid_high hv.g]
    simp only [bsm]
    unfold f_cursor_Move
    rw [cur_hold _ w1 w2 h1 hh, ref_wide hv, hlen]
    simp only [bsm]
    rw [ref_hold _ w1 w2 h1 hh, set_pen (get_lt hv.p)]
    exact ⟨_, _, ks, rfl, rfl, hv.set (hc ⟨A, B, false⟩ W ks.length) au, rfl, hc_hd _ w1 h1, by simp [hc]⟩
  ·
    have hm := hmode (.inl rfl)
    obtain ⟨L1, e1, e2⟩ := lines38 hv hik rfl 3 hm
    simp only at e1
    rw [e2]
    unfold f_edit_cells
    simp only [bsm, hv.p]
    rw [grid_row hv.g hik]
    simp only [bsm, Int.reduceBEq, Bool.false_eq_true, if_false, if_true]
    rw [edit_line hv hik rfl A]
    refine ⟨_, _, ks, rfl, rfl, ?_, rfl, hd, rfl⟩
    have := hv.ac hik (md A) c2 0
    simp only at this
    rw [if_neg (by decide), e1]
    exact this
  ·
    have hm := hmode (.inr rfl)
    obtain ⟨L1, e1, e2⟩ := lines38 hv hik rfl 4 hm
    simp only at e1
    rw [e2]
    unfold f_edit_cells
    simp only [bsm, hv.p]
    rw [grid_row hv.g hik]
    simp only [bsm, Int.reduceBEq, Bool.false_eq_true, if_false, if_true]
    unfold f_edit_screen
    rw [edit_line hv hik rfl A]
    have hv2 := hv.ac hik (md A) c2 0
    simp only at hv2
    rw [← e1] at hv2
    simp only [bsm, hv2.p]
    rw [grid_high hv2.g]
    simp only [bsm]
    obtain ⟨s', l1, l2⟩ := screen_loop hv2 A rfl
    rw [l1]
    exact ⟨_, _, ks, rfl, rfl, l2, rfl, hd, rfl⟩
  ·
    unfold f_edit_cells
    simp only [bsm, hv.p]
    rw [grid_row hv.g hik]
    simp only [bsm, Int.reduceBEq, Bool.false_eq_true, if_false, if_true]
    rw [erase_cells r1 r2 (by omega), act38 hv hik]
    exact ⟨_, _, ks, rfl, rfl, hv.ac hik 4 c2 A, rfl, hd, rfl⟩
  ·
    have hsn := ish_snd (w := (L.getD i dl).Wrap) r2 c2 A
    have hlw := ish_len (l := (L.getD i dl).Cells) (w := (L.getD i dl).Wrap) c2 A
    have hdn := ish_done (l := (L.getD i dl).Cells) (w := (L.getD i dl).Wrap) (a := c2) (b := A)
    unfold f_edit_cells
    simp only [bsm, hv.p]
    rw [grid_row hv.g hik]
    simp only [bsm, Int.reduceBEq, Bool.false_eq_true, if_false, if_true]
    rw [shift_ins r1 r2 (by omega), ref_ins (by omega) _ _ (L.getD i dl).Wrap]
    simp only [bsm]
    have := with38 hv hik (c := (ish (L.getD i dl).Cells (L.getD i dl).Wrap c2 A).cells) (done := mvs c2 A (L.getD i dl).Cells.length) (r := ish (L.getD i dl).Cells (L.getD i dl).Wrap c2 A) rfl hdn.1 hdn.2 rfl
    simp only at this
    rw [this]
    exact ⟨_, _, ks, rfl, rfl, hv.row hik hsn (by rw [hlw]; exact r3), rfl, hd, rfl⟩
  ·
    have hsn := dsh_snd (w := (L.getD i dl).Wrap) r2 c2 A
    have hlw := dsh_len (l := (L.getD i dl).Cells) (w := (L.getD i dl).Wrap) c2 A
    have hdn := dsh_done (l := (L.getD i dl).Cells) (w := (L.getD i dl).Wrap) (a := c2) (b := A)
    unfold f_edit_cells
    simp only [bsm, hv.p]
    rw [grid_row hv.g hik]
    simp only [bsm, Int.reduceBEq, Bool.false_eq_true, if_false, if_true]
    rw [shift_del r1 r2 (by omega), ref_del (by omega) _ _ (L.getD i dl).Wrap]
    simp only [bsm]
    have := with38 hv hik (c := (dsh (L.getD i dl).Cells (L.getD i dl).Wrap c2 A).cells) (done := mvs c2 A (L.getD i dl).Cells.length) (r := dsh (L.getD i dl).Cells (L.getD i dl).Wrap c2 A) rfl hdn.1 hdn.2 rfl
    simp only at this
    rw [this]
    exact ⟨_, _, ks, rfl, rfl, hv.row hik hsn (by rw [hlw]; exact r3), rfl, hd, rfl⟩
  ·
    obtain ⟨s', ks', u1, ⟨u2, u3, u4, u5⟩, u6, u7⟩ := down_eq2 hv.g hv.nd (i : Int) (ks.length : Int) A
    have hm := ref_move (W := W) (L := L) (by omega) w2 (fun x hx => (hv.ok x hx).2) (i : Int) (ks.length : Int) A false
    rw [hlen] at hm ⊢
    unfold f_edit_rows
    simp only [bsm, hv.p]
    rw [grid_high hv.g]
    simp only [bsm, Int.reduceBEq, Bool.false_eq_true, if_false, if_true]
    rw [u1, hm]
    have hp : s'.place_Pen[k]? = some ⟨some g, ⟨(i : Int), c2, false⟩, au⟩ := by rw [rst_pen u6]; exact hv.p
    simp only [bsm, hp, f_cursor_Return]
    rw [set_pen (get_lt hp)]
    refine ⟨_, _, ks', rfl, rfl, ⟨sp_get (get_lt hp), u2.sp _ _, u3, ?_, (rst_oth u6).trans hv.o, (hv.f.step u7 (rst_pen u6)).sp _⟩, u4, ⟨hd.rr, by simp only; omega, fun e => by cases e⟩, rfl⟩
    exact u5.trans (by rw [hv.l])
  ·
    obtain ⟨s', ks', u1, ⟨u2, u3, u4, u5⟩, u6, u7⟩ := up_eq2 hv.g hv.nd (i : Int) (ks.length : Int) A
    have hm := ref_move (W := W) (L := L) (by omega) w2 (fun x hx => (hv.ok x hx).2) (i : Int) (ks.length : Int) A true
    rw [hlen] at hm ⊢
    unfold f_edit_rows
    simp only [bsm, hv.p]
    rw [grid_high hv.g]
    simp only [bsm, Int.reduceBEq, Bool.false_eq_true, if_false, if_true]
    rw [u1, hm]
    have hp : s'.place_Pen[k]? = some ⟨some g, ⟨(i : Int), c2, false⟩, au⟩ := by rw [rst_pen u6]; exact hv.p
    simp only [bsm, hp, f_cursor_Return]
    rw [set_pen (get_lt hp)]
    refine ⟨_, _, ks', rfl, rfl, ⟨sp_get (get_lt hp), u2.sp _ _, u3, ?_, (rst_oth u6).trans hv.o, (hv.f.step u7 (rst_pen u6)).sp _⟩, u4, ⟨hd.rr, by simp only; omega, fun e => by cases e⟩, rfl⟩
    exact u5.trans (by rw [hv.l])
  ·
    obtain ⟨s', ks', u1, ⟨u2, u3, u4, u5⟩, u6, u7⟩ := up_eq2 hv.g hv.nd 0 (ks.length : Int) A
    have hm := ref_move (W := W) (L := L) (by omega) w2 (fun x hx => (hv.ok x hx).2) 0 (ks.length : Int) A true
    rw [hlen] at hm ⊢
    unfold f_edit_rows
    simp only [bsm, hv.p]
    rw [grid_high hv.g]
    simp only [bsm, Int.reduceBEq, Bool.false_eq_true, if_false, if_true]
    rw [u1, hm]
    refine ⟨_, _, ks', rfl, rfl, ⟨by rw [rst_pen u6]; exact hv.p, u2, u3, ?_, (rst_oth u6).trans hv.o, hv.f.step u7 (rst_pen u6)⟩, u4, hd, rfl⟩
    exact u5.trans (by rw [hv.l])
  ·
    obtain ⟨s', ks', u1, ⟨u2, u3, u4, u5⟩, u6, u7⟩ := down_eq2 hv.g hv.nd 0 (ks.length : Int) A
    have hm := ref_move (W := W) (L := L) (by omega) w2 (fun x hx => (hv.ok x hx).2) 0 (ks.length : Int) A false
    rw [hlen] at hm ⊢
    unfold f_edit_rows
    simp only [bsm, hv.p]
    rw [grid_high hv.g]
    simp only [bsm, Int.reduceBEq, Bool.false_eq_true, if_false, if_true]
    rw [u1, hm]
    refine ⟨_, _, ks', rfl, rfl, ⟨by rw [rst_pen u6]; exact hv.p, u2, u3, ?_, (rst_oth u6).trans hv.o, hv.f.step u7 (rst_pen u6)⟩, u4, hd, rfl⟩
    exact u5.trans (by rw [hv.l])
  ·
    unfold f_edit_cells
    simp only [bsm, hv.p]
    rw [grid_row hv.g hik]
    simp only [bsm, Int.reduceBEq, Bool.false_eq_true, if_false, if_true]
    rw [set_pen (get_lt hv.p)]
    exact ⟨_, _, ks, rfl, rfl, hv.set ⟨(i : Int), c2, false⟩ (A != 0), rfl, hd, rfl⟩
end Go.Proofs.YthokmpbbkpjhbaaGreatDoor
namespace Go.Proofs.YthokmpbbkpjhbaaGreatDoor
open Go Go.Lt
variable {s C : Sto} {g k W : Nat} {ks : List Nat} {q : G_linotyperef34_Pen} {l : List G_api_Cell}
def rzc (l : List G_api_Cell) (w j : Nat) : G_api_Cell := if j < l.length ∧ (j + 1 < w ∨ kd l j ≠ 2) then l.getD j bl else bl
def rz (l : List G_api_Cell) (w : Nat) : List G_api_Cell := (List.range w).map (rzc l w)
theorem rz_len (l : List G_api_Cell) (w : Nat) : (rz l w).length = w := by simp [rz]
theorem rz_get {w j : Nat} (h : j < w) : (rz l w)[j]? = some (rzc l w j) := by simp [rz, h]
theorem kd_rz {w j : Nat} (h : j < w) : kd (rz l w) j = (rzc l w j).Kind := by simp [kd, rz_get h]
theorem rzc_kd (l : List G_api_Cell) (w j : Nat) : (rzc l w j).Kind = if j < l.length ∧ (j + 1 < w ∨ kd l j ≠ 2) then kd l j else 0 := by
 unfold rzc
 split
 ·exact kd_getD l j
 ·rfl
theorem rz_snd (hs : Snd l) (w : Nat) : Snd (rz l w) := fun j hj => by
 have hjw : j < w := by rw [rz_len] at hj; exact hj
 have e : (rz l w)[j] = rzc l w j := by
  have := rz_get (l := l) hjw
  rw [List.getElem?_eq_getElem hj] at this
  exact Option.some.inj this
 rw [e]
 refine ⟨?_, fun h2 => ?_, fun h3 => ?_⟩
 ·unfold rzc
  split
  ·rename_i h; exact hs.rg h.1
  ·rfl
 ·rw [rzc_kd] at h2
  split at h2
  ·rename_i h
   have h4 := hs.two h2
   have h5 : j + 1 < l.length := kd_lt (by rw [h4]; decide)
   have h6 : j + 1 < w := by omega
   rw [kd_rz h6, rzc_kd, if_pos ⟨h5, .inr (by rw [h4]; decide)⟩, h4]
  ·cases h2
 ·rw [rzc_kd] at h3
  split at h3
  ·rename_i h
   obtain ⟨h4, h5⟩ := hs.three h3
   have h6 : j - 1 < l.length := by omega
   refine ⟨h4, ?_⟩
   rw [kd_rz (by omega), rzc_kd, if_pos ⟨h6, .inl (by omega)⟩, h5]
  ·cases h3
theorem rz_nil (w : Nat) : rz [] w = List.replicate w bl := by
 refine List.ext_getElem? fun j => ?_
 rcases Nat.lt_or_ge j w with h | h
 ·rw [rz_get h, List.getElem?_replicate, if_pos h]
  unfold rzc
  rw [if_neg (by simp)]
 ·rw [List.getElem?_eq_none (by rw [rz_len]; exact h), List.getElem?_eq_none (by simpa using h)]
theorem fit_cut {n : Nat} (hn : n ≤ l.length) (hl : l.length ≤ 1024) : f_fit_cut l n = some (if 0 < n ∧ kd l (n - 1) = 2 then (l.take n).set (n - 1) bl else l.take n) := by
 unfold f_fit_cut
 rw [show (0 : Int) = ((0 : Nat) : Int) from rfl, slc_eq (Nat.zero_le _) hn, List.drop_zero, Nat.sub_zero]
 simp only [bsm]
 by_cases h0 : 0 < n
 ·have e : w64 ((n : Int) - 1) = ((n - 1 : Nat) : Int) := by rw [w64_in (by omega)]; omega
  have hlt : n - 1 < (l.take n).length := by simp; omega
  have hk : (l.take n)[n - 1].Kind = kd l (n - 1) := by rw [List.getElem_take, kd_at (by omega)]
  rw [show decide ((n : Int) > ((0 : Nat) : Int)) = true by simpa using h0, e, idx_at hlt]
  simp only [andE_true, bsm, hk]
  by_cases h2 : kd l (n - 1) = 2
  ·rw [if_pos (by simpa using h2), if_pos ⟨h0, h2⟩, sets_nat hlt]
   rfl
  ·rw [if_neg (by simpa using h2), if_neg (fun h => h2 h.2)]
   rfl
 ·rw [show decide ((n : Int) > ((0 : Nat) : Int)) = false by simpa using h0, if_neg (fun h => h0 h.1)]
  simp only [andE_false, bsm, Bool.false_eq_true, if_false]
theorem cut_rz (hs : Snd l) {w n : Nat} (hn : n = min w l.length) (w1 : 1 ≤ w) (l1 : 1 ≤ l.length) : (if 0 < n ∧ kd l (n - 1) = 2 then (l.take n).set (n - 1) bl else l.take n) ++ List.replicate (w - n) bl = rz l w := by
 have hlen : (if 0 < n ∧ kd l (n - 1) = 2 then (l.take n).set (n - 1) bl else l.take n).length = n := by split <;> simp <;> omega
 refine List.ext_getElem? fun j => ?_
 rcases Nat.lt_or_ge j w with h | h
 ·rw [rz_get h]
  rcases Nat.lt_or_ge j n with hj | hj
  ·rw [List.getElem?_append_left (by omega)]
   have hjl : j < l.length := by omega
   have g : l.getD j bl = l[j] := by rw [List.getD_eq_getElem?_getD, List.getElem?_eq_getElem hjl]; rfl
   unfold rzc
   split
   ·rename_i h2
    rw [List.getElem?_set]
    by_cases e : n - 1 = j
    ·subst e
     rw [if_pos rfl, if_pos (by simp; omega), if_neg]
     rintro ⟨_, h5 | h5⟩
     ·have := hs.two h2.2
      have := kd_lt (l := l) (j := n - 1 + 1) (by omega)
      omega
     ·exact h5 h2.2
    ·rw [if_neg e, List.getElem?_take, if_pos hj, List.getElem?_eq_getElem hjl, if_pos ⟨hjl, by omega⟩, g]
   ·rename_i h2
    rw [List.getElem?_take, if_pos hj, List.getElem?_eq_getElem hjl, if_pos, g]
    refine ⟨hjl, ?_⟩
    by_cases e : j + 1 < w
    ·exact .inl e
    ·right
     intro h3
     exact h2 ⟨by omega, by rw [show n - 1 = j by omega]; exact h3⟩
  ·rw [List.getElem?_append_right (by omega), hlen, List.getElem?_replicate, if_pos (by omega)]
   unfold rzc
   rw [if_neg (by omega)]
 ·rw [List.getElem?_eq_none (by rw [List.length_append, hlen, List.length_replicate]; omega), List.getElem?_eq_none (by rw [rz_len]; exact h)]
theorem fit_resize {wr : Bool} (h : s.row_Row[k]? = some ⟨l, wr⟩) (hs : Snd l) (l1 : 1 ≤ l.length) (l2 : l.length ≤ 1024) {w : Nat} (w1 : 1 ≤ w) (w2 : w ≤ 1024) :
  f_fit_Resize s (some k) w = some (s.add_row_Row ⟨rz l w, false⟩, some s.row_Row.length) := by
 have e1 : imax 1 (imin (w : Int) 1024) = (w : Int) := by rw [imin_eq, imax_eq]; omega
 unfold f_fit_Resize
 rw [e1]
 simp only [Option.isNone_some, Bool.false_eq_true, if_false, row_cells h (by omega) hs.sht, row_wide h, bsm]
 obtain ⟨n, hn⟩ : ∃ n, n = min w l.length := ⟨_, rfl⟩
 rw [show imin (w : Int) (l.length : Int) = (n : Int) by rw [imin_eq]; omega, fit_cut (by omega) l2]
 have hlen : (if 0 < n ∧ kd l (n - 1) = 2 then (l.take n).set (n - 1) bl else l.take n).length = n := by split <;> simp <;> omega
 have hcr := cut_rz hs hn w1 l1
 generalize (if 0 < n ∧ kd l (n - 1) = 2 then (l.take n).set (n - 1) bl else l.take n) = c at *
 simp only [bsm]
 rw [hlen, w64_in (by omega), blanks]
 simp only [bsm]
 rw [show (max 0 (min ((w : Int) - (n : Int)) 1024)).toNat = w - n by omega, app_eq (by simp; omega), hcr]
 simp only [bsm]
 unfold f_fit_of
 rw [row_of (by rw [rz_len]; exact w1) (by rw [rz_len]; exact w2) (rz_snd hs w)]
 rfl
theorem ref_resize (l : List G_api_Cell) (hl : l.length ≤ 1000000) {w : Nat} (w1 : 1 ≤ w) (w2 : w ≤ 1024) : f_linotyperef28_Resize l w = some (rz l w) := by
 have e1 : imax 1 (imin (w : Int) 1024) = (w : Int) := by rw [imin_eq, imax_eq]; omega
 unfold f_linotyperef28_Resize
 rw [e1, rep_eq _ (by omega), show (⟨0, []⟩ : G_api_Cell) = bl from rfl, Int.toNat_natCast]
 simp only [bsm]
 obtain ⟨t, h3, h4⟩ := iter_for (σ := (List G_api_Cell) × Int) (τ := (List G_api_Cell)) (n := min w l.length) (fuel := ((w : Int) - 0).toNat + 1) (s := (List.replicate w bl, 0))
  (fun i q => q = ((List.range w).map (fun j => if j < i then rzc l w j else bl), (i : Int))) (fun t => t = rz l w)
  (step := fun s_14 =>
 (andE (decide (s_14.2 < (w : Int))) (some (decide (s_14.2 < (l.length : Int))))).bind fun d_18 =>
 if d_18 = true then
 ((orE (decide ((w64 (s_14.2 + 1)) < (w : Int))) ((idx l s_14.2).bind fun x_34 =>
 some (x_34.Kind != 2))).bind fun d_30 =>
 if d_30 = true then
 (idx l s_14.2).bind fun x_43 =>
 (idx s_14.1 s_14.2).bind fun x_45 =>
 (sets s_14.1 s_14.2 x_43).bind fun w_46 =>
 (some (w_46) : Option ((List G_api_Cell)))
 else
 (some (s_14.1) : Option ((List G_api_Cell)))).bind fun z_25 =>
 some (.inl (z_25, (w64 (s_14.2 + 1))))
 else
 some (.inr (s_14.1)))
  (fun i q hi e => by
   subst e
   refine .inl ⟨_, ?_, rfl⟩
   have e5 : w64 ((i : Int) + 1) = ((i + 1 : Nat) : Int) := by rw [w64_in (by omega)]; simp
   have hil : i < l.length := by omega
   have hd : (decide ((i : Int) < (w : Int)) && decide ((i : Int) < (l.length : Int))) = true := by simp; omega
   have hlt : i < ((List.range w).map (fun j => if j < i then rzc l w j else bl)).length := by simp; omega
   have ho : (orE (decide (((i + 1 : Nat) : Int) < (w : Int))) ((idx l (i : Int)).bind fun x_34 => some (x_34.Kind != 2))) = some (decide (i + 1 < w ∨ kd l i ≠ 2)) := by
    rw [idx_at hil]
    simp only [bsm, orE_some, ← kd_at hil, Option.some.injEq]
    rw [Bool.eq_iff_iff]
    simp only [Bool.or_eq_true, decide_eq_true_eq, bne_iff_ne]
    omega
   simp only [andE_some, bsm, hd, if_true, e5]
   rw [ho]
   simp only [bsm]
   have hnext : ∀ c : G_api_Cell, c = rzc l w i → ((List.range w).map (fun j => if j < i then rzc l w j else bl)).set i c = (List.range w).map (fun j => if j < i + 1 then rzc l w j else bl) := fun c hc => by
    refine List.ext_getElem? fun j => ?_
    rw [List.getElem?_set]
    by_cases e : i = j
    ·subst e
     rw [if_pos rfl, if_pos hlt, List.getElem?_map, List.getElem?_range (by omega), hc]
     simp
    ·rw [if_neg e, List.getElem?_map, List.getElem?_map]
     rcases Nat.lt_or_ge j w with hj | hj
     ·rw [List.getElem?_range hj]
      simp only [Option.map_some, Option.some.injEq]
      by_cases h5 : j < i
      ·rw [if_pos h5, if_pos (by omega)]
      ·rw [if_neg h5, if_neg (by omega)]
     ·rw [List.getElem?_eq_none (by simpa using hj)]
      rfl
   by_cases hc : i + 1 < w ∨ kd l i ≠ 2
   ·rw [if_pos (by simpa using hc), idx_at hil, idx_at hlt]
    simp only [bsm]
    rw [sets_nat hlt, hnext l[i] (by
     unfold rzc
     rw [if_pos ⟨hil, hc⟩, List.getD_eq_getElem?_getD, List.getElem?_eq_getElem hil]
     rfl)]
    rfl
   ·rw [if_neg (by simpa using hc)]
    simp only [bsm]
    have hb : rzc l w i = bl := by
     unfold rzc
     rw [if_neg (fun h => hc h.2)]
    have := hnext bl hb.symm
    rw [← this]
    congr 3
    refine (List.ext_getElem? fun j => ?_).symm
    rw [List.getElem?_set]
    by_cases e : i = j
    ·subst e
     rw [if_pos rfl, if_pos hlt, List.getElem?_map, List.getElem?_range (by omega)]
     simp
    ·rw [if_neg e])
  (fun q e => ⟨q.1, by
   subst e
   have hd : (decide (((min w l.length : Nat) : Int) < (w : Int)) && decide (((min w l.length : Nat) : Int) < (l.length : Int))) = false := by
    rw [Bool.eq_false_iff]
    simp only [ne_eq, Bool.and_eq_true, decide_eq_true_eq]
    omega
   simp only [andE_some, bsm, hd, Bool.false_eq_true, if_false], by
   subst e
   simp only
   unfold rz
   refine List.map_congr_left fun j hj => ?_
   rw [List.mem_range] at hj
   by_cases h5 : j < min w l.length
   ·rw [if_pos h5]
   ·rw [if_neg h5]
    unfold rzc
    rw [if_neg (by omega)]⟩)
  (by
   simp only [Nat.not_lt_zero, if_false, Prod.mk.injEq]
   refine ⟨?_, rfl⟩
   rw [List.map_const', List.length_range]) (by omega)
 subst h4
 rw [h3]
 rfl
def cs (L : List G_api_Line) (n : Nat) : List G_api_Cell := (L.getD n ⟨[], false⟩).Cells
def rs (L : List G_api_Line) (top w h : Nat) : List G_api_Line := (List.range h).map fun m => ⟨rz (cs L (top + m)) w, false⟩
def rsi (L : List G_api_Line) (top w h i : Nat) : List G_api_Line := (List.range h).map fun m => if m < i then ⟨rz (cs L (top + m)) w, false⟩ else ⟨List.replicate w bl, false⟩
theorem cs_out {L : List G_api_Line} {n : Nat} (h : L.length ≤ n) : cs L n = [] := by
 unfold cs
 rw [List.getD_eq_getElem?_getD, List.getElem?_eq_none h]
 rfl
theorem cs_at {L : List G_api_Line} {n : Nat} (h : n < L.length) : cs L n = L[n].Cells := by
 unfold cs
 rw [List.getD_eq_getElem?_getD, List.getElem?_eq_getElem h]
 rfl
theorem rsi_set (L : List G_api_Line) (top w : Nat) {h i : Nat} (hi : i < h) : (rsi L top w h i).set i ⟨rz (cs L (top + i)) w, false⟩ = rsi L top w h (i + 1) := by
 unfold rsi
 refine List.ext_getElem? fun j => ?_
 rw [List.getElem?_set, List.length_map, List.length_range]
 by_cases e : i = j
 ·subst e
  rw [if_pos rfl, if_pos hi, List.getElem?_map, List.getElem?_range hi]
  simp
 ·rw [if_neg e, List.getElem?_map, List.getElem?_map]
  rcases Nat.lt_or_ge j h with hj | hj
  ·rw [List.getElem?_range hj]
   simp only [Option.map_some, Option.some.injEq]
   by_cases h5 : j < i
   ·rw [if_pos h5, if_pos (by omega)]
   ·rw [if_neg h5, if_neg (by omega)]
  ·rw [List.getElem?_eq_none (by simpa using hj)]
   rfl
theorem rsi_skip (L : List G_api_Line) {top w h i : Nat} (ho : L.length ≤ top + i) (hi : i < h) : rsi L top w h (i + 1) = rsi L top w h i := by
 rw [← rsi_set L top w hi, cs_out ho, rz_nil]
 refine List.ext_getElem? fun j => ?_
 rw [List.getElem?_set]
 by_cases e : i = j
 ·subst e
  unfold rsi
  rw [if_pos rfl, if_pos (by simp; exact hi), List.getElem?_map, List.getElem?_range hi]
  simp
 ·rw [if_neg e]
theorem rsi_all (L : List G_api_Line) (top w h : Nat) : rsi L top w h h = rs L top w h := by
 unfold rsi rs
 refine List.map_congr_left fun m hm => ?_
 rw [List.mem_range] at hm
 rw [if_pos hm]
theorem rsi_zero (L : List G_api_Line) (top w h : Nat) : rsi L top w h 0 = bls w h := by
 unfold rsi bls
 simp only [Nat.not_lt_zero, if_false]
 rw [List.map_const', List.length_range]
theorem nd_set {xs : List Nat} (nd : xs.Nodup) {x i : Nat} (hx : x ∉ xs) : (xs.set i x).Nodup := by
 rw [List.Nodup, List.pairwise_iff_getElem] at *
 intro a b ha hb hab
 rw [List.length_set] at ha hb
 rw [List.getElem_set, List.getElem_set]
 split
 ·split
  ·omega
  ·exact fun e => hx (e ▸ List.getElem_mem hb)
 ·split
  ·exact fun e => hx (e ▸ List.getElem_mem ha)
  ·exact nd a b ha hb hab
theorem Gw.sgo {g2 : Nat} (h : Gw s g ks W) (hne : g2 ≠ g) (x : G_grid_Grid) : Gw (s.sg g2 x) g ks W :=
 ⟨by rw [← h.g]; simp [Sto.sg, List.getElem?_set_ne hne], h.r, h.h1, h.h2, h.w1, h.w2⟩
theorem Gw.addg (h : Gw s g ks W) (x : G_grid_Grid) : Gw (s.add_grid_Grid x) g ks W :=
 ⟨by rw [← h.g]; simp only [Sto.add_grid_Grid]; exact List.getElem?_append_left (get_lt h.g), h.r, h.h1, h.h2, h.w1, h.w2⟩
theorem Rf.more {s' : Sto} {g2 : Nat} {ks' : List Nat} (h : Rf s s' g ks g2 ks') (hg2 : s.grid_Grid.length ≤ g2) (xs : List G_row_Row) (x : G_grid_Grid) (i : Nat) : Rf s ((s'.addr xs).sg g2 x) g ks g2 (ks'.set i s'.row_Row.length) := by
 have e : ((s'.addr xs).sg g2 x).row_Row = s'.row_Row ++ xs := rfl
 have e2 : ((s'.addr xs).sg g2 x).grid_Grid = s'.grid_Grid.set g2 x := rfl
 have hr := h.rl
 refine ⟨by rw [e2, List.length_set]; exact h.gl, by rw [e, List.length_append]; omega, fun j a b => by rw [e2, List.getElem?_set_ne (by omega)]; exact h.gr j a b, fun j a b => by rw [e, List.getElem?_append_left (by omega)]; exact h.rw j a b, h.ng, fun r hr => ?_⟩
 rcases List.mem_or_eq_of_mem_set hr with q | rfl
 ·exact h.nr r q
 ·exact .inr h.rl
theorem Rf.begun (xs : List G_row_Row) (x : G_grid_Grid) {g2 : Nat} (hg2 : g2 = s.grid_Grid.length) (m : Nat) : Rf s ((s.addr xs).add_grid_Grid x) g ks g2 (List.range' s.row_Row.length m) := by
 subst hg2
 refine ⟨by simp [Sto.add_grid_Grid, Sto.addr], by simp [Sto.add_grid_Grid, Sto.addr], fun j hj _ => ?_, fun j hj _ => ?_, .inr (Nat.le_refl _), fun r hr => .inr (List.mem_range'_1.1 hr).1⟩
 ·simp only [Sto.add_grid_Grid, Sto.addr]; exact List.getElem?_append_left hj
 ·simp only [Sto.add_grid_Grid, Sto.addr]; exact List.getElem?_append_left hj
theorem size_loop (h : Pv C s k g W q ks) {w hh top : Nat} (w1 : 1 ≤ w) (w2 : w ≤ 1024) (h1 : 1 ≤ hh) (h2 : hh ≤ 1024) (ht : top ≤ 1024) {g2 : Nat} (hg2 : g2 = s.grid_Grid.length) :
  ∃ s' ks', iter (σ := Int × Sto) (τ := Sto) (((hh : Int) - 0).toNat + 1) (fun s_54 =>
 if (decide (s_54.1 < (hh : Int))) = true then
 ((s_54.2.place_Pen[k]?).bind fun o_64 =>
 (f_grid_Grid_Row s_54.2 o_64.G (w64 ((top : Int) + s_54.1))).bind fun x_68 =>
 if (!x_68.isNone) = true then
 (f_fit_Resize s_54.2 x_68 (w : Int)).bind fun x_78 =>
 (f_grid_Grid_Set x_78.1 (some g2) s_54.1 x_78.2).bind fun x_79 =>
 (some (x_79.1) : Option (Sto))
 else
 (some (s_54.2) : Option (Sto))).bind fun z_57 =>
 some (.inl ((w64 (s_54.1 + 1)), z_57))
 else
 some (.inr (s_54.2))) (0, (s.addr ((bls w hh).map lr)).add_grid_Grid ⟨(List.range' s.row_Row.length hh).map some⟩) = some s' ∧
  Gw s' g2 ks' w ∧ ks'.Nodup ∧ ks'.map (ln s') = rs q.L top w hh ∧ s'.rst = s.rst ∧ Rf s s' g ks g2 ks' := by
 have hb : (bls w hh).length = hh := by simp [bls]
 have h0 : ((bls w hh)[0]'(by omega)).Cells.length = w := by simp [bls]
 obtain ⟨b1, b2⟩ := gw_of (s := s) (L := bls w hh) (by omega) (by omega) (bls_ok w1 w2 h1)
 rw [h0, ← hg2] at b1
 rw [hb] at b1 b2
 have hgl := get_lt h.g.g
 obtain ⟨t, e1, e2⟩ := iter_for (σ := Int × Sto) (τ := Sto) (n := hh) (fuel := ((hh : Int) - 0).toNat + 1) (s := (0, (s.addr ((bls w hh).map lr)).add_grid_Grid ⟨(List.range' s.row_Row.length hh).map some⟩))
  (fun i q2 => q2.1 = (i : Int) ∧ q2.2.rst = s.rst ∧ Gw q2.2 g ks W ∧ ks.map (ln q2.2) = q.L ∧ ∃ ks', Gw q2.2 g2 ks' w ∧ ks'.Nodup ∧ ks'.length = hh ∧ ks'.map (ln q2.2) = rsi q.L top w hh i ∧ Rf s q2.2 g ks g2 ks')
  (fun t => t.rst = s.rst ∧ ∃ ks', Gw t g2 ks' w ∧ ks'.Nodup ∧ ks'.map (ln t) = rs q.L top w hh ∧ Rf s t g ks g2 ks')
  (step := fun s_54 =>
 if (decide (s_54.1 < (hh : Int))) = true then
 ((s_54.2.place_Pen[k]?).bind fun o_64 =>
 (f_grid_Grid_Row s_54.2 o_64.G (w64 ((top : Int) + s_54.1))).bind fun x_68 =>
 if (!x_68.isNone) = true then
 (f_fit_Resize s_54.2 x_68 (w : Int)).bind fun x_78 =>
 (f_grid_Grid_Set x_78.1 (some g2) s_54.1 x_78.2).bind fun x_79 =>
 (some (x_79.1) : Option (Sto))
 else
 (some (s_54.2) : Option (Sto))).bind fun z_57 =>
 some (.inl ((w64 (s_54.1 + 1)), z_57))
 else
 some (.inr (s_54.2)))
  (fun i q2 hi ⟨e, hp, hg, hl, ks', c1, c2, c3, c4, c5⟩ => by
   obtain ⟨j, st⟩ := q2
   simp only at e hp hg hl c1 c2 c3 c4 c5
   subst e
   have e5 : w64 ((i : Int) + 1) = ((i + 1 : Nat) : Int) := by rw [w64_in (by omega)]; simp
   have e6 : w64 ((top : Int) + (i : Int)) = ((top + i : Nat) : Int) := by rw [w64_in (by omega)]; simp
   have hd : decide ((i : Int) < (hh : Int)) = true := by simp; exact hi
   simp only [hd, if_true, rst_pen hp, h.p, bsm, e5, e6]
   have hlen := h.len
   by_cases ho : top + i < ks.length
   ·rw [grid_row hg ho]
    simp only [bsm, Option.isNone_some, Bool.not_false, if_true]
    obtain ⟨r, r1, r2, r3⟩ := hg.at ho
    have hr := fit_resize (l := r.cells) (wr := r.wrap) r1 r2 (by rw [r3]; exact hg.w1) (by rw [r3]; exact hg.w2) w1 w2
    rw [hr]
    simp only [bsm]
    have ea : st.add_row_Row ⟨rz r.cells w, false⟩ = st.addr [⟨rz r.cells w, false⟩] := by simp [Sto.add_row_Row, Sto.addr]
    rw [ea]
    have c1' := c1.addr (xs := [⟨rz r.cells w, false⟩])
    have hg' := hg.addr (xs := [⟨rz r.cells w, false⟩])
    have hnew : (st.addr [⟨rz r.cells w, false⟩]).row_Row[st.row_Row.length]? = some ⟨rz r.cells w, false⟩ := by simp [Sto.addr]
    have hrw : Rw (st.addr [⟨rz r.cells w, false⟩]) w st.row_Row.length := ⟨_, hnew, rz_snd r2 w, rz_len _ _⟩
    rw [grid_set c1' (show i < ks'.length by omega) hrw]
    simp only [bsm]
    have hL : cs q.L (top + i) = r.cells := by
     rw [cs_at (by rw [← hl]; simpa using ho)]
     have : q.L[top + i]? = (ks.map (ln st))[top + i]? := by rw [hl]
     rw [List.getElem?_eq_getElem (by rw [← hl]; simpa using ho), List.getElem?_map, List.getElem?_eq_getElem ho, Option.map_some, ln_eq r1] at this
     rw [Option.some.inj this]
    refine .inl ⟨_, rfl, rfl, hp, hg'.sgo (by omega) _, ?_, ks'.set i st.row_Row.length, c1'.set hrw, nd_set c2 fun hm => absurd (c1.r _ hm).lt (Nat.lt_irrefl _), by rw [List.length_set]; exact c3, ?_, c5.more (by omega) _ _ _⟩
    ·rw [← hl]
     refine List.map_congr_left fun x hx => ?_
     rw [ln_sg]
     exact ln_old (hg.r x hx).lt
    ·rw [← rsi_set _ _ _ hi, ← c4, hL, List.map_set, ln_sg, ln_eq hnew]
     congr 1
     refine List.map_congr_left fun x hx => ?_
     rw [ln_sg]
     exact ln_old (c1.r x hx).lt
   ·rw [grid_row_out hg (.inr (by omega))]
    simp only [bsm, Option.isNone_none, Bool.not_true, Bool.false_eq_true, if_false]
    exact .inl ⟨_, rfl, rfl, hp, hg, hl, ks', c1, c2, c3, by rw [rsi_skip _ (by omega) hi]; exact c4, c5⟩)
  (fun q2 ⟨e, hp, _, _, ks', c1, c2, _, c4, c5⟩ => ⟨q2.2, by
   have hd : decide (q2.1 < (hh : Int)) = false := by rw [e]; simp
   simp only [hd, Bool.false_eq_true, if_false], hp, ks', c1, c2, by rw [c4, rsi_all], c5⟩)
  ⟨rfl, rfl, (h.g.addr (xs := (bls w hh).map lr)).addg _, by
   rw [← h.l]
   refine List.map_congr_left fun x hx => ?_
   exact ln_old (h.g.r x hx).lt, _, b1, List.nodup_range', by simp, by rw [rsi_zero]; exact b2, Rf.begun _ _ hg2 _⟩ (by omega)
 obtain ⟨p1, ks', p2, p3, p4, p5⟩ := e2
 exact ⟨t, ks', e1, p2, p3, p4, p1, p5⟩
def tp (c : G_api_Cursor) (h : Nat) : Nat := (c.Row - h + 1).toNat
theorem ref39 (h : Pv C s k g W q ks) (a b : Int) : f_linotyperef39_Resize q a b = some ⟨rs q.L (tp (hc q.At W ks.length) (sd b)) (sd a) (sd b), ⟨(hc q.At W ks.length).Row - tp (hc q.At W ks.length) (sd b), min (hc q.At W ks.length).Col ((sd a : Int) - 1), false⟩, q.Auto⟩ := by
 have hd := hc_hd q.At h.g.w1 h.g.h1
 have hl := h.len
 have hh2 := h.g.h2
 have ha := sd_in a
 have hb := sd_in b
 have side : ∀ n : Int, f_linotyperef31_Side n = some (sd n : Int) := fun n => by
  unfold f_linotyperef31_Side
  by_cases h1 : n < 1
  ·rw [if_pos (by simpa using h1)]
   congr 1
   unfold sd
   omega
  ·rw [if_neg (by simpa using h1)]
   by_cases h2 : n > 1024
   ·rw [if_pos (by simpa using h2)]
    congr 1
    unfold sd
    omega
   ·rw [if_neg (by simpa using h2)]
    congr 1
    unfold sd
    omega
 unfold f_linotyperef39_Resize
 rw [ref_Hold h]
 generalize hc q.At W ks.length = c at *
 have hr := hd.rr
 simp only [bsm, side]
 obtain ⟨t, e1, e2⟩ := iter_for (σ := (List G_api_Line) × Int) (τ := ((List G_api_Line) × Int)) (n := tp c (sd b)) (fuel := (c.Row - (sd b : Int)).toNat + 2) (s := (q.L, c.Row))
  (fun i q2 => q2 = (q.L.drop i, c.Row - i)) (fun t => t = (q.L.drop (tp c (sd b)), c.Row - tp c (sd b)))
  (step := fun s_25 =>
 if (decide (s_25.2 ≥ (sd b : Int))) = true then
 (slc s_25.1 1 s_25.1.length).bind fun x_32 =>
 some (.inl (x_32, (w64 (s_25.2 - 1))))
 else
 some (.inr (s_25.1, s_25.2)))
  (fun i q2 hi e => by
   subst e
   refine .inl ⟨_, ?_, rfl⟩
   unfold tp at hi
   have hd : decide (c.Row - (i : Int) ≥ (sd b : Int)) = true := by simp; omega
   simp only [hd, if_true]
   rw [show (1 : Int) = ((1 : Nat) : Int) from rfl, slc_eq (by simp; omega) (Nat.le_refl _), w64_in (by omega)]
   simp only [bsm, List.drop_drop]
   rw [List.take_of_length_le (by simp; omega)]
   congr 3
   omega)
  (fun q2 e => ⟨q2, by
   subst e
   have hd : decide (c.Row - (tp c (sd b) : Int) ≥ (sd b : Int)) = false := by
    unfold tp
    simp
    omega
   simp only [hd, Bool.false_eq_true, if_false], e⟩)
  (by simp) (by unfold tp; omega)
 subst e2
 rw [e1]
 simp only [bsm]
 obtain ⟨t, e3, e4⟩ := iter_for (σ := (List G_api_Line) × Int) (τ := (List G_api_Line)) (n := sd b) (fuel := ((sd b : Int) - 0).toNat + 1) (s := (([] : List G_api_Line), 0))
  (fun i q2 => q2 = ((rs q.L (tp c (sd b)) (sd a) (sd b)).take i, (i : Int))) (fun t => t = rs q.L (tp c (sd b)) (sd a) (sd b))
  (step := fun s_45 =>
 if (decide (s_45.2 < (sd b : Int))) = true then
 (if (decide (s_45.2 < ((q.L.drop (tp c (sd b))).length : Int))) = true then
 (idx (q.L.drop (tp c (sd b))) s_45.2).bind fun x_60 =>
 (some (x_60.Cells) : Option ((List G_api_Cell)))
 else
 (some (([] : List G_api_Cell)) : Option ((List G_api_Cell)))).bind fun z_52 =>
 (f_linotyperef28_Resize z_52 (sd a : Int)).bind fun x_68 =>
 (app s_45.1 ([(⟨x_68, false⟩ : G_api_Line)] : List G_api_Line)).bind fun x_71 =>
 some (.inl (x_71, (w64 (s_45.2 + 1))))
 else
 some (.inr (s_45.1)))
  (fun i q2 hi e => by
   subst e
   refine .inl ⟨_, ?_, rfl⟩
   have e5 : w64 ((i : Int) + 1) = ((i + 1 : Nat) : Int) := by rw [w64_in (by omega)]; simp
   have hd : decide ((i : Int) < (sd b : Int)) = true := by simp; exact hi
   have hz : (if (decide ((i : Int) < ((q.L.drop (tp c (sd b))).length : Int))) = true then (idx (q.L.drop (tp c (sd b))) (i : Int)).bind fun x_60 => (some (x_60.Cells) : Option ((List G_api_Cell))) else (some (([] : List G_api_Cell)) : Option ((List G_api_Cell)))) = some (cs q.L (tp c (sd b) + i)) := by
    by_cases ho : i < (q.L.drop (tp c (sd b))).length
    ·rw [if_pos (by simpa using ho), idx_at ho]
     have ho2 : tp c (sd b) + i < q.L.length := by simp at ho; omega
     rw [cs_at ho2]
     simp only [bsm, List.getElem_drop]
    ·rw [if_neg (by simpa using ho), cs_out (by simp at ho; omega)]
   simp only [hd, if_true, e5]
   rw [hz]
   simp only [bsm]
   have hcl : (cs q.L (tp c (sd b) + i)).length ≤ 1000000 := by
    by_cases ho : tp c (sd b) + i < q.L.length
    ·rw [cs_at ho, (h.ok _ (List.getElem_mem ho)).2]
     have := h.g.w2
     omega
    ·rw [cs_out (by omega)]
     simp
   rw [ref_resize _ hcl ha.1 ha.2]
   simp only [bsm]
   have hlt : i < (rs q.L (tp c (sd b)) (sd a) (sd b)).length := by simp [rs]; exact hi
   rw [app_eq (by simp; omega), List.take_succ_eq_append_getElem hlt]
   simp [rs])
  (fun q2 e => ⟨q2.1, by subst e; simp, by subst e; simp only; rw [List.take_of_length_le (by simp [rs])]⟩)
  (by simp) (by omega)
 subst e4
 rw [e3]
 simp only [bsm]
 rw [w64_in (by omega), imin_eq]
theorem size_eq (h : Pv C s k g W q ks) (a b : Int) : ∃ s' q' g' ks', f_size_Resize s (some k) a b = some s' ∧ f_linotyperef39_Resize q a b = some q' ∧ Pv C s' k g' (sd a) q' ks' ∧ q'.L = rs q.L (tp (hc q.At W ks.length) (sd b)) (sd a) (sd b) ∧ Hd q'.At (sd a) (sd b) := by
 have hd := hc_hd q.At h.g.w1 h.g.h1
 have hh2 := h.g.h2
 have ha := sd_in a
 have hb := sd_in b
 have sdd : ∀ n : Int, imax 1 (imin n 1024) = (sd n : Int) := fun n => by
  rw [imin_eq, imax_eq]
  unfold sd
  omega
 have hc1 := cur_hold q.At h.g.w1 h.g.w2 h.g.h1 h.g.h2
 have h39 := ref39 h a b
 generalize hc q.At W ks.length = c at *
 have hr := hd.rr
 have hcc := hd.cc
 have etp : imax 0 (w64 ((w64 (c.Row - (sd b : Int))) + 1)) = (tp c (sd b) : Int) := by
  rw [w64_in (n := c.Row - (sd b : Int)) (by omega), w64_in (by omega), imax_eq]
  unfold tp
  omega
 obtain ⟨s', ks', e1, g1, g2, g3, g4, g5⟩ := size_loop h ha.1 ha.2 hb.1 hb.2 (top := tp c (sd b)) (by unfold tp; omega) rfl
 have hgn := grid_new (s := s) (sd a : Int) (sd b : Int)
 rw [sd_id ha.1 ha.2, sd_id hb.1 hb.2] at hgn
 have hp' : s'.place_Pen[k]? = some ⟨some g, q.At, q.Auto⟩ := by rw [rst_pen g4]; exact h.p
 have hmv : f_cursor_Move (c.Row - (tp c (sd b) : Int)) c.Col (sd a : Int) (sd b : Int) = some ⟨c.Row - tp c (sd b), min c.Col ((sd a : Int) - 1), false⟩ := by
  unfold f_cursor_Move
  rw [cur_hold _ ha.1 ha.2 hb.1 hb.2]
  simp only [bsm, hc, Option.some.injEq, G_api_Cursor.mk.injEq, Bool.false_and, and_true]
  unfold tp
  omega
 refine ⟨(s'.sp k ⟨some s.grid_Grid.length, q.At, q.Auto⟩).sp k ⟨some s.grid_Grid.length, ⟨c.Row - tp c (sd b), min c.Col ((sd a : Int) - 1), false⟩, q.Auto⟩, _, s.grid_Grid.length, ks', ?_, h39, ?_, rfl, ⟨by simp only; unfold tp; omega, by simp only; omega, fun e => by cases e⟩⟩
 ·unfold f_size_Resize
  simp only [Option.isNone_some, orE_false, bsm, h.p, Bool.false_eq_true, if_false]
  rw [grid_wide h.g, grid_high h.g]
  simp only [bsm, sdd]
  rw [hc1]
  simp only [bsm]
  rw [hgn]
  simp only [bsm, etp]
  rw [e1]
  simp only [bsm, hp']
  rw [set_pen (get_lt hp')]
  simp only [bsm]
  rw [w64_in (by unfold tp; omega), hmv]
  simp only [bsm]
  rw [set_pen (by simp [Sto.sp]; exact get_lt hp')]
  rfl
 ·rw [sp_sp]
  exact ⟨sp_get (get_lt hp'), g1.sp _ _, g2, g3, (rst_oth g4).trans h.o, (h.f.step g5 (rst_pen g4)).sp _⟩
end Go.Proofs.YthokmpbbkpjhbaaGreatDoor
namespace Go.Proofs.YthokmpbbkpjhbaaGreatDoor
open Go Go.Lt
variable {s C : Sto} {x f k g W H : Nat} {q P : G_linotyperef34_Pen} {ks : List Nat} {op : Option Nat}
structure Mo where
 P : G_linotyperef34_Pen
 G : List Int
 h : List Int
structure Sd (C s : Sto) (x f k : Nat) (m : Mo) (q : G_linotyperef34_Pen) : Prop where
 sc : s.screen_Screen[x]? = some ⟨some f, some k⟩
 bt : Bts m.h
 fd : ∃ g W H ks op, Fd C s f k g W H m.P m.G m.h q ks op
def lay (P : G_linotyperef34_Pen) (G : List Int) : Option G_linotyperef34_Pen := fo layc P (cls pj pr G)
def mdo (m : Mo) (o : G_api_Op) : Option Mo :=
 if o.Kind = 0 then some ⟨m.P, m.G ++ (rfeed m.h o.Bytes).1, (rfeed m.h o.Bytes).2⟩
 else if o.Kind = 1 then (lay m.P (m.G ++ (if m.h = [] then [] else [65533]))).map fun q => ⟨q, [], []⟩
 else if o.Kind = 13 then (lay m.P m.G).bind fun q => (f_linotyperef39_Resize q o.A o.B).map fun q' => ⟨q', [], m.h⟩
 else if w38 o = 0 then (lay m.P m.G).bind fun q => (f_linotyperef38_Do q o).map fun q' => ⟨q', [], m.h⟩
 else some m
def e40 (o : G_api_Op) : Er := if o.Kind = 0 ∨ o.Kind = 1 ∨ o.Kind = 13 then Er.nil else e38 o
theorem Fd.pen_work {h : List Int} (F : Fd C s f k g W H P [] h q ks none) {s' : Sto} {g' W' : Nat} {q' : G_linotyperef34_Pen} {ks' : List Nat} (v : Pv s s' k g' W' q' ks') (hh : Hd q'.At W' ks'.length) : Fd C s' f k g' W' ks'.length q' [] h q' ks' none := by
 obtain ⟨d, hd, hdv⟩ := F.d
 refine ⟨v.self, F.fr.trans F.v.oG F.v.oR v.f, F.fz.oth v.o, rfl, hh, rfl, F.gv, ⟨d, ?_, hdv⟩, fun _ => rfl, fun e => by cases e⟩
 rw [oth_fd v.o]
 exact hd
theorem screen_do {m : Mo} (S : Sd C s x f k m q) (o : G_api_Op) (hb : Bts o.Bytes) (hl : o.Bytes.length ≤ 9223372036854775807) : ∃ s' m' q', f_screen_Screen_Do s (some x) o = some (s', e40 o) ∧ mdo m o = some m' ∧ Sd C s' x f k m' q' := by
 obtain ⟨g, W, H, ks, op, F⟩ := S.fd
 have hC : C.screen_Screen[x]? = some ⟨some f, some k⟩ := by rw [← F.fz.sc]; exact S.sc
 have hs : ∀ {s' : Sto} {g W H : Nat} {P : G_linotyperef34_Pen} {G h : List Int} {q : G_linotyperef34_Pen} {ks : List Nat} {op : Option Nat}, Fd C s' f k g W H P G h q ks op → s'.screen_Screen[x]? = some ⟨some f, some k⟩ := fun F' => by rw [F'.fz.sc]; exact hC
 unfold f_screen_Screen_Do mdo e40
 simp only [Option.isNone_some, Bool.false_eq_true, if_false, bsm, beq_iff_eq, S.sc]
 by_cases k0 : o.Kind = 0
 ·obtain ⟨s', q', ks', op', b1, b2⟩ := fbytes_eq F S.bt hl hb
  rw [if_pos k0, if_pos k0, if_pos (.inl k0), b1]
  exact ⟨s', _, q', rfl, rfl, hs b2, rfeed_bts S.bt hb, ⟨_, _, _, _, _, b2⟩⟩
 rw [if_neg k0, if_neg k0]
 by_cases k1 : o.Kind = 1
 ·obtain ⟨s', q', ks', b1, b2, b3⟩ := fflush_eq F
  rw [if_pos k1, if_pos k1, if_pos (.inr (.inl k1)), b1]
  unfold lay
  rw [b3]
  exact ⟨s', _, q', rfl, rfl, hs b2, Bts.nil, ⟨_, _, _, _, _, b2⟩⟩
 rw [if_neg k1, if_neg k1]
 by_cases k13 : o.Kind = 13
 ·obtain ⟨s2, b1, b2⟩ := fclose_eq F
  obtain ⟨s', q', g', ks', c1, c2, c3, c4, c5⟩ := size_eq b2.v o.A o.B
  have hkl : ks'.length = sd o.B := by rw [← c3.len, c4]; simp [rs]
  rw [if_pos k13, if_pos k13, if_pos (.inr (.inr k13)), b1]
  have hl2 : lay m.P m.G = some q := F.l
  simp only [bsm, hs b2, hl2]
  rw [c1, c2]
  have F2 := b2.pen_work c3 (by rw [hkl]; exact c5)
  exact ⟨s', _, q', rfl, rfl, hs F2, S.bt, ⟨_, _, _, _, _, F2⟩⟩
 rw [if_neg k13, if_neg k13, if_neg (by omega), edit_wrong]
 simp only [bsm, e38_nil]
 by_cases hw : w38 o = 0
 ·rw [if_neg (by simp [hw]), if_pos hw]
  obtain ⟨s2, b1, b2⟩ := fclose_eq F
  obtain ⟨s', q', ks', c1, c2, c3, c4, c5, _⟩ := edit_eq b2.v o hw
  rw [b1]
  have hl2 : lay m.P m.G = some q := F.l
  simp only [bsm, hs b2, hl2]
  rw [c1, c2]
  have he : e38 o = Er.nil := by unfold e38; rw [hw]; rfl
  have F2 := b2.pen_work c3 (by rw [c4]; exact c5)
  exact ⟨s', _, q', by rw [he]; rfl, rfl, hs F2, S.bt, ⟨_, _, _, _, _, F2⟩⟩
 ·rw [if_pos (by simpa using hw), if_neg hw]
  exact ⟨s, m, q, rfl, rfl, S⟩
def vw (q : G_linotyperef34_Pen) : G_api_View := ⟨(q.L.getD 0 dl).Cells.length, (q.L.length : Int), q.L, q.At, q.Auto⟩
theorem screen_view {m : Mo} (S : Sd C s x f k m q) : f_screen_Screen_View s (some x) = some (vw q) := by
 obtain ⟨g, W, H, ks, op, F⟩ := S.fd
 unfold f_screen_Screen_View vw
 simp only [Option.isNone_some, Bool.false_eq_true, if_false, bsm, S.sc, F.v.p]
 rw [grid_wide F.v.g, grid_high F.v.g, grid_lines F.v.g, F.v.l]
 simp only [bsm]
 have hl := F.v.len
 have h1 := F.v.g.h1
 rw [gdl (show 0 < q.L.length by omega), (F.v.ok _ (List.getElem_mem (show 0 < q.L.length by omega))).2, hl]
theorem screen_held {m : Mo} (S : Sd C s x f k m q) : f_screen_Screen_Held s (some x) = some (m.h.length : Int) := by
 obtain ⟨g, W, H, ks, op, F⟩ := S.fd
 unfold f_screen_Screen_Held
 simp only [Option.isNone_some, Bool.false_eq_true, if_false, bsm, S.sc]
 rw [fheld_eq F]
 rfl
theorem screen_open {m : Mo} (S : Sd C s x f k m q) : f_screen_Screen_Open s (some x) = some (opn m.G) := by
 obtain ⟨g, W, H, ks, op, F⟩ := S.fd
 unfold f_screen_Screen_Open
 simp only [Option.isNone_some, Bool.false_eq_true, if_false, bsm, S.sc]
 rw [fopen_eq F]
 rfl
theorem Sd.ok {m : Mo} (S : Sd C s x f k m q) : ∃ W : Nat, 1 ≤ W ∧ W ≤ 1024 ∧ 1 ≤ q.L.length ∧ q.L.length ≤ 1024 ∧ (∀ l ∈ q.L, Okl W l) ∧ (vw q).Wide = (W : Int) ∧ Hd q.At W q.L.length := by
 obtain ⟨g, W, H, ks, op, F⟩ := S.fd
 have hl := F.v.len
 have h1 := F.v.g.h1
 have h2 := F.v.g.h2
 refine ⟨W, F.v.g.w1, F.v.g.w2, by omega, by omega, F.v.ok, ?_, by rw [hl, F.n]; exact F.hd⟩
 unfold vw
 rw [gdl (show 0 < q.L.length by omega), (F.v.ok _ (List.getElem_mem (show 0 < q.L.length by omega))).2]
theorem screen_new (s : Sto) (w h : Int) : ∃ s', f_screen_New s w h = some (s', some s.screen_Screen.length) ∧ Sd s' s' s.screen_Screen.length s.feed_Feeder.length s.place_Pen.length ⟨⟨bls (sd w) (sd h), ⟨0, 0, false⟩, true⟩, [], []⟩ ⟨bls (sd w) (sd h), ⟨0, 0, false⟩, true⟩ := by
 obtain ⟨s1, ks, h1, v1⟩ := place_new (s := s) w h
 have hks := v1.g.h1
 have hW1 := v1.g.w1
 obtain ⟨s2, h2, d2, e2⟩ := feed_new v1.self ⟨by simp only; omega, by simp only; omega, fun e => by cases e⟩
 unfold f_screen_New
 rw [h1]
 simp only [bsm]
 rw [h2]
 simp only [bsm]
 have es : s1.screen_Screen = s.screen_Screen := oth_sc v1.o
 have ef : s1.feed_Feeder = s.feed_Feeder := oth_fd v1.o
 have es2 : s2.screen_Screen = s1.screen_Screen := by rw [e2]; rfl
 rw [es2, es, ef]
 rw [ef] at d2
 refine ⟨_, rfl, ⟨?_, Bts.nil, ⟨s.grid_Grid.length, sd w, ks.length, ks, none, ?_⟩⟩⟩
 ·have : (s2.add_screen_Screen ⟨some s.feed_Feeder.length, some s.place_Pen.length⟩).screen_Screen = s2.screen_Screen ++ [⟨some s.feed_Feeder.length, some s.place_Pen.length⟩] := rfl
  rw [this, es2, es]
  simp
 ·obtain ⟨d, hd, hdv⟩ := d2.d
  refine ⟨⟨d2.v.p, ⟨d2.v.g.g, d2.v.g.r, d2.v.g.h1, d2.v.g.h2, d2.v.g.w1, d2.v.g.w2⟩, d2.v.nd, d2.v.l, rfl, d2.v.f.rgp ⟨rfl, rfl, rfl⟩ ⟨rfl, rfl, rfl⟩⟩, d2.v.f.rgp ⟨rfl, rfl, rfl⟩ ⟨rfl, rfl, rfl⟩, Fz.self _ _ _ (fun y hy => ?_) (get_lt hd), rfl, d2.hd, rfl, fun y hy => by simp at hy, ⟨d, hd, hdv⟩, fun _ => rfl, fun e => by cases e⟩
  have hy' : s2.feed_Feeder[s.feed_Feeder.length]? = some y := hy
  rw [hd] at hy'
  cases hy'
  rfl
end Go.Proofs.YthokmpbbkpjhbaaGreatDoor
namespace Go.Proofs.YthokmpbbkpjhbaaGreatDoor
open Go Go.Lt
theorem of_snd {γ : Type} {x : Option (γ × Bool)} (h : x.map (fun q => q.2) = some true) : ∃ s, x = some (s, true) := by
 cases x with
 | none => cases h
 | some q =>
  obtain ⟨a, b⟩ := q
  simp only [Option.map_some, Option.some.injEq] at h
  subst h
  exact ⟨a, rfl⟩
theorem of_two {f : Sto → Option (Sto × Bool)} {s : Sto} (h1 : (f s).map (fun q => q.2) = some true) (h2 : ((f s).bind fun q => f q.1).map (fun q => q.2) = some true) : ∃ s1 s2, f s = some (s1, true) ∧ f s1 = some (s2, true) := by
 obtain ⟨s1, e1⟩ := of_snd h1
 rw [e1] at h2
 obtain ⟨s2, e2⟩ := of_snd h2
 exact ⟨s1, s2, e1, e2⟩
theorem wf8 {n : Int} (h : (Lit.int .u8 n).wf = true) : 0 ≤ n ∧ n ≤ 255 := by
 simp only [Lit.wf, IntKind.min, IntKind.max, IntKind.signed, IntKind.bits, Bool.and_eq_true, decide_eq_true_eq, Bool.false_eq_true, if_false] at h
 omega
end Go.Proofs.YthokmpbbkpjhbaaGreatDoor
namespace Go.Proofs.YthokmpbbkpjhbaaGreatDoor
open Go Go.Lt
variable {s C : Sto} {x f k g W H : Nat} {q P : G_linotyperef34_Pen} {ks : List Nat} {op : Option Nat}
set_option maxRecDepth 100000 in
theorem works40_1 : (f_linotypelaw40_works ⟨[], [], [], [], [], []⟩).map (fun q => q.2) = some true := by kernel_rfl
set_option maxRecDepth 100000 in
theorem works40_2 : ((f_linotypelaw40_works ⟨[], [], [], [], [], []⟩).bind fun q => f_linotypelaw40_works q.1).map (fun q => q.2) = some true := by kernel_rfl
def Obs (l : List G_api_Op) : Prop := ∀ o ∈ l, Bts o.Bytes ∧ o.Bytes.length ≤ 9223372036854775807
theorem great_short (l : List G_api_Op) (hl : l.length ≤ 9223372036854775807) : ∃ t, f_linotypelaw40_Great l = some t ∧ (t = false → l.length ≤ 50) := by
 unfold f_linotypelaw40_Great
 refine iter_forE (σ := Int × Int) (τ := Bool ⊕ Unit) (n := min l.length 60) (fun i s => s.2 = (i : Int)) (fun u => match u with | .inl b => b = true | .inr _ => True) (fun i s hi e => ?_) (fun s e => ?_) rfl (by omega) (fun u hu => ?_)
 ·obtain ⟨n, i'⟩ := s
  simp only at e
  subst e
  have hil : i < l.length := by omega
  simp only [andE_some, bsm]
  rw [if_pos (by simp; omega), idx_at hil]
  simp only [bsm, andE_some, orE_some]
  split
  ·exact .inr ⟨_, rfl, rfl⟩
  ·exact .inl ⟨_, rfl, by rw [w64_in (n := (i : Int) + 1) (by omega)]; simp⟩
 ·obtain ⟨n, i'⟩ := s
  simp only at e
  subst e
  simp only [andE_some, bsm]
  rw [if_neg (by simp; omega)]
  exact ⟨_, rfl, trivial⟩
 ·cases u with
  | inl b => simp only at hu; exact ⟨b, rfl, fun h => by rw [hu] at h; cases h⟩
  | inr u => exact ⟨_, rfl, fun h => by simp at h; omega⟩
end Go.Proofs.YthokmpbbkpjhbaaGreatDoor
namespace Go.Proofs.YthokmpbbkpjhbaaGreatDoor
open Go Go.Lt
variable {s s' C : Sto} {x f k g W H x2 f2 k2 g2 W2 H2 g' : Nat} {q P q2 P2 : G_linotyperef34_Pen} {ks ks2 ks' : List Nat} {op op2 op' : Option Nat} {G h G2 h2 : List Int} {m m2 : Mo}
theorem Fd.re (F : Fd C s f k g W H P G h q ks op) : Fd s s f k g W H P G h q ks op := by
  obtain ⟨d, hd, hdv⟩ := F.d
  exact ⟨F.v, F.v.f, Fz.self s f op (fun x hx => by rw [hd] at hx; cases hx; rfl) (get_lt hd), F.n, F.hd, F.l, F.gv, ⟨d, hd, hdv⟩, F.o1, F.o2⟩
theorem Fd.keep (F : Fd s s f2 k2 g2 W2 H2 P2 G2 h2 q2 ks2 op2) (ep : s'.place_Pen[k2]? = s.place_Pen[k2]?) (eg : s'.grid_Grid[g2]? = s.grid_Grid[g2]?) (er : ∀ r ∈ ks2, s'.row_Row[r]? = s.row_Row[r]?)
    (ef : s'.feed_Feeder[f2]? = s.feed_Feeder[f2]?) (ec : ∀ j, op2 = some j → s'.widen_Cluster[j]? = s.widen_Cluster[j]?) : Fd s' s' f2 k2 g2 W2 H2 P2 G2 h2 q2 ks2 op2 := by
  have hp := ep.trans F.v.p
  have hg := eg.trans F.v.g.g
  have hv : Pv s' s' k2 g2 W2 q2 ks2 := by
    refine ⟨hp, ⟨hg, fun r hr => ?_, F.v.g.h1, F.v.g.h2, F.v.g.w1, F.v.g.w2⟩, F.v.nd, ?_, rfl, Fr.self hp rfl hg⟩
    · obtain ⟨y, hy, h3⟩ := F.v.g.r r hr
      exact ⟨y, (er r hr).trans hy, h3⟩
    · rw [← F.v.l]
      exact List.map_congr_left fun r hr => by unfold ln; rw [er r hr]
  obtain ⟨d, hd, hdv⟩ := F.d
  have hd2 := ef.trans hd
  refine ⟨hv, hv.f, Fz.self s' f2 op2 (fun x hx => by rw [hd2] at hx; cases hx; rfl) (get_lt hd2), F.n, F.hd, F.l, F.gv, ⟨d, hd2, hdv⟩, F.o1, fun e => ?_⟩
  obtain ⟨j, e1, ⟨q0, c, C0, s0, ks0, cs0, cl, a1, a2, a3, a4, a5, a6, a7, a8⟩⟩ := F.o2 e
  obtain ⟨b, b1, b2⟩ := a7.x
  exact ⟨j, e1, ⟨q0, c, C0, s0, ks0, cs0, cl, a1, a2, a3, a4, a5, a6, ⟨b, (ec j e1).trans b1, b2⟩, a8⟩⟩
theorem Sd.lay (S : Sd C s x f k m q) : lay m.P m.G = some q := by
  obtain ⟨g, W, H, ks, op, F⟩ := S.fd
  exact F.l
structure Two (s : Sto) (x f k : Nat) (m : Mo) (q : G_linotyperef34_Pen) (x2 f2 k2 : Nat) (m2 : Mo) (q2 : G_linotyperef34_Pen) : Prop where
  sa : s.screen_Screen[x]? = some ⟨some f, some k⟩
  sb : s.screen_Screen[x2]? = some ⟨some f2, some k2⟩
  ba : Bts m.h
  bb : Bts m2.h
  w : ∃ g W H ks op g2 W2 H2 ks2 op2, Fd s s f k g W H m.P m.G m.h q ks op ∧ Fd s s f2 k2 g2 W2 H2 m2.P m2.G m2.h q2 ks2 op2 ∧ k ≠ k2 ∧ f ≠ f2 ∧ g ≠ g2 ∧ (∀ r ∈ ks, r ∉ ks2) ∧ ∀ j, op = some j → op2 ≠ some j
theorem Two.swap (T : Two s x f k m q x2 f2 k2 m2 q2) : Two s x2 f2 k2 m2 q2 x f k m q := by
  obtain ⟨g, W, H, ks, op, g2, W2, H2, ks2, op2, F1, F2, n1, n2, n3, n4, n5⟩ := T.w
  exact ⟨T.sb, T.sa, T.bb, T.ba, g2, W2, H2, ks2, op2, g, W, H, ks, op, F2, F1, n1.symm, n2.symm, n3.symm, fun r a b => n4 r b a, fun j a b => n5 j b a⟩
theorem Two.a (T : Two s x f k m q x2 f2 k2 m2 q2) : Sd s s x f k m q := by
  obtain ⟨g, W, H, ks, op, g2, W2, H2, ks2, op2, F1, _⟩ := T.w
  exact ⟨T.sa, T.ba, _, _, _, _, _, F1⟩
theorem Two.b (T : Two s x f k m q x2 f2 k2 m2 q2) : Sd s s x2 f2 k2 m2 q2 := T.swap.a
theorem Two.step (T : Two s x f k m q x2 f2 k2 m2 q2) (o : G_api_Op) (hb : Bts o.Bytes) (hl : o.Bytes.length ≤ 9223372036854775807) :
    ∃ s' m' q', f_screen_Screen_Do s (some x) o = some (s', e40 o) ∧ mdo m o = some m' ∧ Two s' x f k m' q' x2 f2 k2 m2 q2 := by
  obtain ⟨s', m', q', e1, e2, S⟩ := screen_do T.a o hb hl
  obtain ⟨g, W, H, ks, op, g2, W2, H2, ks2, op2, F1, F2, n1, n2, n3, n4, n5⟩ := T.w
  obtain ⟨g', W', H', ks', op', F⟩ := S.fd
  have hoG : ∀ j, ownG s k j → j = g := fun j hj => F1.v.oG j hj
  have hoR : ∀ j, ownR s k j → j ∈ ks := fun j hj => F1.v.oR j hj
  have hoC : ∀ j, ownC s f j → op = some j := fun j hj => by
    obtain ⟨y, hy, hj⟩ := hj
    obtain ⟨d, hd, _⟩ := F1.d
    rw [hd] at hy
    cases hy
    exact hj
  have hlt : ∀ j, op2 = some j → j < s.widen_Cluster.length := fun j hj => by
    cases hG : lsil m2.G with
    | true => rw [F2.o1 hG] at hj; cases hj
    | false =>
      obtain ⟨j', e1, ⟨q0, c, C0, s0, ks0, cs0, cl, a1, a2, a3, a4, a5, a6, a7, a8⟩⟩ := F2.o2 hG
      rw [e1] at hj
      cases hj
      exact a7.lt
  have hrl : ∀ r ∈ ks2, r < s.row_Row.length := fun r hr => by
    obtain ⟨y, hy, _⟩ := F2.v.g.r r hr
    exact get_lt hy
  have hgl := get_lt F2.v.g.g
  obtain ⟨d2, hd2, _⟩ := F2.d
  have K : Fd s' s' f2 k2 g2 W2 H2 m2.P m2.G m2.h q2 ks2 op2 := F2.keep (F.fr.pn k2 (get_lt F2.v.p) n1.symm) (F.fr.gr g2 hgl fun h => n3 (hoG _ h).symm) (fun r hr => F.fr.rw r (hrl r hr) fun h => n4 r (hoR r h) hr)
    (F.fz.ff f2 (get_lt hd2) n2.symm) (fun j hj => F.fz.wc j (hlt j hj) fun h => n5 j (hoC j h) hj)
  refine ⟨s', m', q', e1, e2, ⟨S.sc, by rw [F.fz.sc]; exact T.sb, S.bt, T.bb, g', W', H', ks', op', g2, W2, H2, ks2, op2, F.re, K, n1, n2, ?_, ?_, ?_⟩⟩
  · rintro rfl
    rcases F.fr.ng with h | h
    · exact n3 (hoG _ h).symm
    · omega
  · intro r hr hr2
    rcases F.fr.nr r hr with h | h
    · exact n4 r (hoR r h) hr2
    · have := hrl r hr2
      omega
  · intro j hj hj2
    rcases F.fz.oc j hj with h | h
    · exact n5 j (hoC j h) hj2
    · have := hlt j hj2
      omega
theorem two_new (S : Sd C s x2 f2 k2 m2 q2) (w h : Int) : ∃ s', f_screen_New s w h = some (s', some s.screen_Screen.length) ∧ Two s' s.screen_Screen.length s.feed_Feeder.length s.place_Pen.length ⟨⟨bls (sd w) (sd h), ⟨0, 0, false⟩, true⟩, [], []⟩ ⟨bls (sd w) (sd h), ⟨0, 0, false⟩, true⟩ x2 f2 k2 m2 q2 := by
  obtain ⟨g2, W2, H2, ks2, op2, F2'⟩ := S.fd
  have F2 := F2'.re
  obtain ⟨s1, ks, h1, v1⟩ := place_new (s := s) w h
  have hks := v1.g.h1
  have hW1 := v1.g.w1
  obtain ⟨s2, h2, d2, e2⟩ := feed_new v1.self ⟨by simp only; omega, by simp only; omega, fun e => by cases e⟩
  unfold f_screen_New
  rw [h1]
  simp only [bsm]
  rw [h2]
  simp only [bsm]
  have es : s1.screen_Screen = s.screen_Screen := oth_sc v1.o
  have ef : s1.feed_Feeder = s.feed_Feeder := oth_fd v1.o
  have ec : s1.widen_Cluster = s.widen_Cluster := oth_cl v1.o
  have es2 : s2.screen_Screen = s1.screen_Screen := by rw [e2]; rfl
  rw [es2, es, ef]
  rw [ef] at d2
  have hscr : (s2.add_screen_Screen ⟨some s.feed_Feeder.length, some s.place_Pen.length⟩).screen_Screen = s.screen_Screen ++ [⟨some s.feed_Feeder.length, some s.place_Pen.length⟩] := by
    show s2.screen_Screen ++ _ = _
    rw [es2, es]
  have hno : ∀ j, ¬ ownG s s.place_Pen.length j := fun j hj => by
    obtain ⟨y, hy, _⟩ := hj
    exact absurd (get_lt hy) (by omega)
  have hnr : ∀ j, ¬ ownR s s.place_Pen.length j := fun j hj => by
    obtain ⟨g, y, hy, _⟩ := hj
    exact hno g hy
  have hkl := get_lt F2.v.p
  have hgl := get_lt F2.v.g.g
  have hrl : ∀ r ∈ ks2, r < s.row_Row.length := fun r hr => by
    obtain ⟨y, hy, _⟩ := F2.v.g.r r hr
    exact get_lt hy
  obtain ⟨dd, hdd, _⟩ := F2.d
  have hfl := get_lt hdd
  have e3 : s2.feed_Feeder = s.feed_Feeder ++ [⟨some s.place_Pen.length, ⟨0, 0, 0, 0, 0⟩, ⟨false, 0, 0, 0, false⟩, none⟩] := by
    rw [e2]
    show s1.feed_Feeder ++ _ = _
    rw [ef]
  have K : Fd (s2.add_screen_Screen ⟨some s.feed_Feeder.length, some s.place_Pen.length⟩) (s2.add_screen_Screen ⟨some s.feed_Feeder.length, some s.place_Pen.length⟩) f2 k2 g2 W2 H2 m2.P m2.G m2.h q2 ks2 op2 := by
    refine F2.keep ?_ ?_ (fun r hr => ?_) ?_ (fun j _ => ?_)
    · show s2.place_Pen[k2]? = _
      rw [e2]
      exact v1.f.pn k2 hkl (by omega)
    · show s2.grid_Grid[g2]? = _
      rw [e2]
      exact v1.f.gr g2 hgl (hno g2)
    · show s2.row_Row[r]? = _
      rw [e2]
      exact v1.f.rw r (hrl r hr) (hnr r)
    · show s2.feed_Feeder[f2]? = _
      rw [e3, List.getElem?_append_left hfl]
    · show s2.widen_Cluster[j]? = _
      rw [e2]
      show s1.widen_Cluster[j]? = _
      rw [ec]
  have hxl := get_lt S.sc
  obtain ⟨d, hd, hdv⟩ := d2.d
  have N : Fd (s2.add_screen_Screen ⟨some s.feed_Feeder.length, some s.place_Pen.length⟩) (s2.add_screen_Screen ⟨some s.feed_Feeder.length, some s.place_Pen.length⟩) s.feed_Feeder.length s.place_Pen.length s.grid_Grid.length (sd w) ks.length ⟨bls (sd w) (sd h), ⟨0, 0, false⟩, true⟩ [] [] ⟨bls (sd w) (sd h), ⟨0, 0, false⟩, true⟩ ks none :=
    d2.re.keep rfl rfl (fun _ _ => rfl) rfl (fun j e => by cases e)
  refine ⟨_, rfl, ⟨by rw [hscr]; simp, by rw [hscr, List.getElem?_append_left hxl]; exact S.sc, Bts.nil, S.bt, _, _, _, _, _, _, _, _, _, _, N, K, by omega, by omega, ?_, ?_, fun j e => by cases e⟩⟩
  · rcases v1.f.ng with q | q
    · exact absurd q (hno _)
    · omega
  · intro r hr hr2
    rcases v1.f.nr r hr with q | q
    · exact hnr r q
    · have := hrl r hr2
      omega
def mrun (m : Mo) (l : List G_api_Op) : Option Mo := l.foldl (fun a o => a.bind fun m => mdo m o) (some m)
theorem mrun_snoc (m : Mo) (l : List G_api_Op) (o : G_api_Op) : mrun m (l ++ [o]) = (mrun m l).bind fun m => mdo m o := by
  unfold mrun
  rw [List.foldl_append]
  rfl
theorem Two.run (T : Two s x f k m q x2 f2 k2 m2 q2) (l : List G_api_Op) (hl : l.length ≤ 9223372036854775807) (hb : Obs l) :
    ∃ s' e m' q', f_screen_Screen_Run s (some x) l = some (s', e) ∧ mrun m l = some m' ∧ Two s' x f k m' q' x2 f2 k2 m2 q2 := by
  unfold f_screen_Screen_Run
  obtain ⟨t, t1, t2⟩ := iter_forE (n := l.length) (σ := Er × Int × Sto) (τ := Er × Sto) (β := Sto × Er) (fuel := ((l.length : Int) - 0).toNat + 1) (s := (Er.nil, 0, s)) (k := fun d => some (d.2, d.1)) (p := fun r => ∃ m' q', mrun m l = some m' ∧ Two r.1 x f k m' q' x2 f2 k2 m2 q2)
    (step := fun a =>
 if (decide (a.2.1 < (l.length : Int))) = true then
 ((idx l a.2.1).bind fun f =>
 (f_screen_Screen_Do a.2.2 (some x) f).bind fun b =>
 (andE (!b.2.isNil) (some a.1.isNil)).bind fun e =>
 if e = true then
 (f_api_Wrong a.2.1 b.2).bind fun g =>
 some (g, b.1)
 else
 some (a.1, b.1)).bind fun c =>
 some (.inl (c.1, (w64 (a.2.1 + 1)), c.2))
 else
 some (.inr (a.1, a.2.2)))
    (fun i a => a.2.1 = (i : Int) ∧ ∃ m' q', mrun m (l.take i) = some m' ∧ Two a.2.2 x f k m' q' x2 f2 k2 m2 q2) (fun u => ∃ m' q', mrun m l = some m' ∧ Two u.2 x f k m' q' x2 f2 k2 m2 q2) (fun i a hi hI => by
      obtain ⟨e0, i', st⟩ := a
      obtain ⟨e, m', q', hm, T'⟩ := hI
      simp only at e T'
      subst e
      obtain ⟨hb1, hb2⟩ := hb _ (List.getElem_mem hi)
      obtain ⟨s'', m'', q'', a1, a2, T''⟩ := T'.step l[i] hb1 hb2
      simp only
      rw [if_pos (dlt hi), idx_at hi, w64_succ hi hl]
      simp only [bsm]
      rw [a1]
      simp only [bsm, andE_some]
      have hm2 : mrun m (l.take (i + 1)) = some m'' := by
        rw [List.take_succ_eq_append_getElem hi, mrun_snoc, hm]
        exact a2
      split
      · exact .inl ⟨_, rfl, rfl, m'', q'', hm2, T''⟩
      · exact .inl ⟨_, rfl, rfl, m'', q'', hm2, T''⟩)
    (fun a hI => by
      obtain ⟨e0, i', st⟩ := a
      obtain ⟨e, m', q', hm, T'⟩ := hI
      simp only at e T'
      subst e
      refine ⟨_, by simp only; rw [if_neg (by simp)], m', q', ?_, T'⟩
      rw [List.take_of_length_le (Nat.le_refl _)] at hm
      exact hm)
    ⟨rfl, m, q, rfl, T⟩ (by omega) (fun u hu => ⟨_, rfl, hu⟩)
  obtain ⟨s', e⟩ := t
  obtain ⟨m', q', h3, h4⟩ := t2
  exact ⟨s', e, m', q', t1, h3, h4⟩
theorem vw_same (S : Sd C s x f k m q) : f_linotyperef40_Same (vw q) (vw q) = some true := by
  obtain ⟨W2, w1, w2, l1, l2, hok, hwd, hhd⟩ := S.ok
  unfold f_linotyperef40_Same
  have e1 : (vw q).Lines = q.L := rfl
  rw [e1, same_lines l2 w2 hok]
  simp [andE, bsm]
end Go.Proofs.YthokmpbbkpjhbaaGreatDoor
namespace Go.Proofs.YthokmpbbkpjhbaaGreatDoor
open Go Go.Lt
variable {s C : Sto} {x f k x2 f2 k2 : Nat} {q q2 : G_linotyperef34_Pen} {m : Mo}
theorem text_self (a : List Int) (ha : a.length ≤ 9223372036854775807) : f_linotyperef01_Same a a = some true := by
 obtain ⟨t, h1, h2⟩ := same_text a ha a
 rw [h1, h2.2 rfl]
theorem opn_len (G : List Int) : (opn G).length ≤ 16 := by
 unfold opn
 split
 ·simp
 ·rw [List.length_take]; omega
theorem mrun_cut (m : Mo) (y z : List Int) : mrun m [⟨0, 0, 0, y⟩, ⟨0, 0, 0, []⟩, ⟨0, 0, 0, z⟩] = mdo m ⟨0, 0, 0, y ++ z⟩ := by
 simp only [mrun, List.foldl_cons, List.foldl_nil, bsm, mdo, if_true, rfeed_app, rfeed, List.append_nil, List.append_assoc]
theorem Bts.cut {l : List Int} (h : Bts l) (i : Nat) : Bts (l.take i) ∧ Bts (l.drop i) := ⟨fun y hy => h y (List.mem_of_mem_take hy), fun y hy => h y (List.mem_of_mem_drop hy)⟩
theorem screenCuts_true (a : List G_api_Op) (d : G_linotypelaw40_Cut) (b : List G_api_Op) (ha : Obs a) (hal : a.length ≤ 9223372036854775807) (hd : Bts d.B) (hb : Obs b) (hbl : b.length ≤ 9223372036854775807) (hdl : d.B.length ≤ 9223372036854775807) :
  ∃ st, f_linotypelaw40_ScreenCuts ⟨[], [], [], [], [], []⟩ a d b = some (st, true) := by
 unfold f_linotypelaw40_ScreenCuts
 obtain ⟨s1, s2, h1, h2⟩ := of_two works40_1 works40_2
 obtain ⟨t, ht, ht2⟩ := great_short a hal
 obtain ⟨u, hu, hu2⟩ := great_short b hbl
 rw [h1]
 simp only [bsm, Bool.not_true, orE_false, ht, hu, orE_some, Bool.false_or]
 by_cases hg : (t || u || decide ((d.B.length : Int) > 300)) = true
 ·rw [if_pos hg, h2]
  exact ⟨_, rfl⟩
 rw [if_neg hg]
 have hn : d.B.length ≤ 300 := by
  simp only [Bool.or_eq_true, decide_eq_true_eq, not_or] at hg
  omega
 rw [w64_in (n := (d.B.length : Int) + 1) (by omega), wr_u64_in (n := (d.B.length : Int) + 1) (by omega), dvg_eq (by omega)]
 obtain ⟨c, hc, hcl⟩ : ∃ c : Nat, w64 ((IntKind.u64.wrap d.At).tmod ((d.B.length : Int) + 1)) = (c : Int) ∧ c ≤ d.B.length := by
  have g1 := Int.tmod_nonneg ((d.B.length : Int) + 1) (wr_u64 d.At).1
  have g2 := Int.tmod_lt_of_pos (IntKind.u64.wrap d.At) (show (0 : Int) < (d.B.length : Int) + 1 by omega)
  generalize (IntKind.u64.wrap d.At).tmod ((d.B.length : Int) + 1) = z at *
  exact ⟨z.toNat, by rw [w64_in (by omega)]; omega, by omega⟩
 rw [hc]
 simp only [bsm]
 obtain ⟨s3, n1, S⟩ := screen_new s1 7 4
 rw [n1]
 simp only [bsm]
 obtain ⟨s4, n2, T⟩ := two_new S 7 4
 rw [n2]
 simp only [bsm]
 generalize s1.screen_Screen.length = x at *
 generalize s1.feed_Feeder.length = f at *
 generalize s1.place_Pen.length = k at *
 generalize s3.screen_Screen.length = x2 at *
 generalize s3.feed_Feeder.length = f2 at *
 generalize s3.place_Pen.length = k2 at *
 generalize (⟨⟨bls (sd 7) (sd 4), ⟨0, 0, false⟩, true⟩, [], []⟩ : Mo) = m at *
 obtain ⟨s5, e5, m5, q5, r1, r2, T5⟩ := T.swap.run a hal ha
 rw [r1]
 simp only [bsm]
 obtain ⟨s6, e6, m6, q6, r3, r4, T6⟩ := T5.swap.run a hal ha
 rw [r3]
 simp only [bsm]
 rw [r2] at r4
 cases r4
 obtain ⟨s7, m7, q7, r5, r6, T7⟩ := T6.swap.step ⟨0, 0, 0, d.B⟩ hd hdl
 rw [r5]
 simp only [bsm]
 have z1 : slc d.B 0 (c : Int) = some (d.B.take c) := by
  have := slc_eq (xs := d.B) (i := 0) (j := c) (by omega) hcl
  simpa using this
 have z2 : slc d.B (c : Int) (d.B.length : Int) = some (d.B.drop c) := by
  rw [slc_eq hcl (Nat.le_refl _), List.take_of_length_le (by simp)]
 rw [z1, z2]
 simp only [bsm]
 have hbc := hd.cut c
 obtain ⟨s8, e8, m8, q8, r7, r8, T8⟩ := T7.swap.run [⟨0, 0, 0, d.B.take c⟩, ⟨0, 0, 0, []⟩, ⟨0, 0, 0, d.B.drop c⟩] (by simp) (fun o ho => by
  simp only [List.mem_cons, List.not_mem_nil, or_false] at ho
  rcases ho with rfl | rfl | rfl
  ·exact ⟨hbc.1, by simp only [List.length_take]; omega⟩
  ·exact ⟨Bts.nil, by simp⟩
  ·exact ⟨hbc.2, by simp only [List.length_drop]; omega⟩)
 rw [r7]
 simp only [bsm]
 rw [mrun_cut, List.take_append_drop, r6] at r8
 cases r8
 have T9 := T8.swap
 have hq : q7 = q8 := by
  have h1 := T9.a.lay
  have h2 := T9.b.lay
  rw [h1] at h2
  exact Option.some.inj h2
 subst hq
 rw [screen_view T9.a, screen_view T9.b]
 simp only [bsm]
 rw [vw_same T9.a]
 simp only [bsm, Bool.not_true, orE_false]
 rw [screen_held T9.a, screen_held T9.b]
 simp only [bsm, bne_self_eq_false, orE_false]
 rw [screen_open T9.a, screen_open T9.b]
 simp only [bsm]
 rw [text_self _ (Nat.le_trans (opn_len _) (by decide))]
 simp only [bsm, Bool.not_true, Bool.false_eq_true, if_false]
 refine iter_forL (n := b.length) (fun i (st : Int × Sto) => st.1 = (i : Int) ∧ ∃ m q, Two st.2 x f k m q x2 f2 k2 m q) (fun u => (∃ st, u = .inr st) ∨ ∃ st, u = .inl (st, true)) (fun i st hi hI => ?_) (fun st hI => ?_) ⟨rfl, _, _, T9⟩ (by omega) (fun u hu => ?_)
 ·obtain ⟨i', st⟩ := st
  obtain ⟨e, m, q, T⟩ := hI
  simp only at e T
  subst e
  simp only
  rw [if_pos (dlt hi), w64_succ hi (by omega)]
  simp only [idx_at hi, bsm]
  obtain ⟨hb1, hb2⟩ := hb _ (List.getElem_mem hi)
  obtain ⟨s', m', q', a1, a2, T1⟩ := T.step b[i] hb1 hb2
  rw [a1]
  simp only [bsm]
  obtain ⟨s'', m'', q'', b1, b2, T2⟩ := T1.swap.step b[i] hb1 hb2
  rw [b1]
  simp only [bsm]
  rw [a2] at b2
  cases b2
  have T3 := T2.swap
  have hq : q' = q'' := by
   have h1 := T3.a.lay
   have h2 := T3.b.lay
   rw [h1] at h2
   exact Option.some.inj h2
  subst hq
  rw [screen_view T3.a, screen_view T3.b]
  simp only [bsm]
  rw [vw_same T3.a]
  simp only [bsm, Bool.not_true, Bool.false_eq_true, if_false]
  exact .inl ⟨_, rfl, rfl, _, _, T3⟩
 ·obtain ⟨i', st⟩ := st
  obtain ⟨e, _⟩ := hI
  simp only at e
  subst e
  exact ⟨_, by simp only; rw [if_neg (by simp)], .inl ⟨_, rfl⟩⟩
 ·rcases hu with ⟨st, rfl⟩ | ⟨st, rfl⟩
  ·exact ⟨_, rfl⟩
  ·exact ⟨_, rfl⟩
end Go.Proofs.YthokmpbbkpjhbaaGreatDoor
