/-
  Cells moved within a row, in plain Lean: what is put in and taken out is as the document says. Conditions: the row is sound and at most 1024 wide.
-/
import Derived.Test.YthokmpbbkpjhbaaGreatDoorPd
import Derived.Test.YthokmpbbkpjhbaaGreatDoorS1
namespace Go.Proofs.YthokmpbbkpjhbaaGreatDoor
open Go Go.Lt
variable {s : Sto} {k : Nat} {l p : List G_api_Cell} {w : Bool}

theorem list_eq_range {α : Type} {l : List α} {n : Nat} {f : Nat → α} (hl : l.length = n) (h : ∀ i, i < n → l[i]? = some (f i)) : l = (List.range n).map f := by
  apply List.ext_getElem?
  intro i
  rcases Nat.lt_or_ge i n with hi | hi
  · rw [h i hi]; simp [hi]
  · rw [List.getElem?_eq_none (by omega), List.getElem?_eq_none (by simp; exact hi)]
/-- A row whose halves about a column are made blank. -/
def trc (l : List G_api_Cell) (c j : Nat) : G_api_Cell := if kd l c = 3 ∧ (j = c ∨ j + 1 = c) then bl else l.getD j bl
def tr (l : List G_api_Cell) (c : Nat) : List G_api_Cell := (List.range l.length).map (trc l c)
theorem tr_len (l : List G_api_Cell) (c : Nat) : (tr l c).length = l.length := by simp [tr]
theorem tr_get {c j : Nat} (h : j < l.length) : (tr l c)[j]? = some (trc l c j) := by simp [tr, h]
theorem trc_kd (l : List G_api_Cell) (c j : Nat) : (trc l c j).Kind = if kd l c = 3 ∧ (j = c ∨ j + 1 = c) then 0 else kd l j := by
  unfold trc
  split
  · rfl
  · exact kd_getD l j
theorem kd_tr (c j : Nat) : kd (tr l c) j = if kd l c = 3 ∧ (j = c ∨ j + 1 = c) then 0 else kd l j := by
  rcases Nat.lt_or_ge j l.length with h | h
  · rw [← trc_kd]; simp [kd, tr_get h]
  · rw [kd_out (by rw [tr_len]; exact h), kd_out (l := l) h]; simp
theorem tr_no {c : Nat} (h : kd l c ≠ 3) : tr l c = l := by
  symm
  refine list_eq_range rfl fun i hi => ?_
  unfold trc
  rw [if_neg (by intro e; exact h e.1), List.getD_eq_getElem?_getD, List.getElem?_eq_getElem hi]
  rfl
theorem rgt_bl : rgt bl = true := rfl
theorem tr_snd (hs : Snd l) (c : Nat) : Snd (tr l c) := fun j hj => by
  have hj' : j < l.length := by rw [tr_len] at hj; exact hj
  have he : (tr l c)[j] = trc l c j := by
    have := tr_get (c := c) hj'
    rw [List.getElem?_eq_getElem hj] at this
    exact Option.some.inj this
  have h2 := fun (h : kd l j = 2) => hs.two h
  have h3 := fun (h : kd l j = 3) => hs.three h
  have hc := fun (h : kd l c = 3) => hs.three h
  rw [he, trc_kd, kd_tr, kd_tr]
  refine ⟨?_, ?_, ?_⟩
  · unfold trc
    split
    · rfl
    · exact hs.rg hj'
  · intro e
    split at e
    · cases e
    · rename_i hn
      have := h2 e
      rw [if_neg]
      · exact this
      · rintro ⟨q1, q2⟩
        have := hc q1
        rcases q2 with rfl | q2
        · exact hn ⟨q1, .inr rfl⟩
        · obtain rfl : c = j + 2 := by omega
          rw [show j + 2 - 1 = j + 1 by omega] at this
          omega
  · intro e
    split at e
    · cases e
    · rename_i hn
      have := h3 e
      refine ⟨this.1, ?_⟩
      rw [if_neg]
      · exact this.2
      · rintro ⟨q1, q2⟩
        have := hc q1
        rcases q2 with q2 | q2
        · rw [← q2] at q1
          omega
        · exact hn ⟨q1, .inl (by omega)⟩
theorem kd_tr_at (l : List G_api_Cell) (c : Nat) : kd (tr l c) c ≠ 3 := by
  rw [kd_tr]
  split
  · decide
  · rename_i h
    intro e
    exact h ⟨e, .inl rfl⟩

theorem tear_eq (hs : Snd l) (hl : l.length ≤ 1024) (c : Nat) : f_shift_tear l c = some (tr l c) := by
  unfold f_shift_tear
  rcases Nat.lt_or_ge c l.length with h | h
  · have hd : decide ((c : Int) < (l.length : Int)) = true := by simp; exact h
    simp only [hd, andE_true, idx_at h, bsm]
    by_cases h3 : kd l c = 3
    · have hb : (l[c].Kind == 3) = true := by rw [← kd_at h, h3]; rfl
      obtain ⟨h0, _⟩ := hs.three h3
      have e1 : w64 ((c : Int) - 1) = ((c - 1 : Nat) : Int) := by rw [w64_in (by omega)]; omega
      rw [hb, if_pos rfl, e1, idx_at (by omega : c - 1 < l.length)]
      simp only [bsm]
      rw [sets_nat (by omega)]
      simp only [bsm]
      rw [idx_at (by rw [List.length_set]; exact h)]
      simp only [bsm]
      rw [sets_nat (by rw [List.length_set]; exact h)]
      simp only [bsm]
      congr 1
      refine list_eq_range (by simp) fun i hi => ?_
      unfold trc
      by_cases q1 : c = i
      · subst q1
        rw [List.getElem?_set_self (by rw [List.length_set]; exact h), if_pos ⟨h3, .inl rfl⟩]
        rfl
      · rw [List.getElem?_set_ne q1]
        by_cases q2 : c - 1 = i
        · subst q2
          rw [List.getElem?_set_self (by omega), if_pos ⟨h3, .inr (by omega)⟩]
          rfl
        · rw [List.getElem?_set_ne q2, if_neg (by rintro ⟨_, q⟩; omega), List.getD_eq_getElem?_getD, List.getElem?_eq_getElem hi]
          rfl
    · have hb : (l[c].Kind == 3) = false := by rw [← kd_at h]; simp [h3]
      rw [hb, if_neg (by decide), tr_no h3]
  · have hd : decide ((c : Int) < (l.length : Int)) = false := by simp; exact h
    simp only [hd, andE_false, bsm]
    rw [if_neg (by decide), tr_no (by rw [kd_out h]; decide)]

theorem torn_eq (hl : l.length ≤ 1024) (c : Nat) : f_linotyperef27_torn l c = some (tr l c) := by
  unfold f_linotyperef27_torn
  refine bind_of (iter_map (n := l.length) (trc l c) (t := tr l c) (fun i hi => ?_) ?_ (by omega)) rfl
  · simp only [dlt hi, if_true, idx_at hi, bsm, w64_succ hi (by omega), orE_some]
    have hz : andE (decide ((c : Int) < (l.length : Int))) ((idx l c).bind fun x_29 => some (x_29.Kind == 3)) = some (kd l c == 3) := by
      rcases Nat.lt_or_ge c l.length with h | h
      · have hd : decide ((c : Int) < (l.length : Int)) = true := by simp; exact h
        simp only [hd, andE_true, idx_at h, bsm, ← kd_at h]
      · have hd : decide ((c : Int) < (l.length : Int)) = false := by simp; exact h
        simp only [hd, andE_false]
        rw [kd_out h]
        rfl
    simp only [hz, bsm, andE_some]
    rw [show (kd l c == 3 && ((i : Int) == (c : Int) || ((i + 1 : Nat) : Int) == (c : Int))) = decide (kd l c = 3 ∧ (i = c ∨ i + 1 = c)) by
      rw [Bool.eq_iff_iff]
      simp only [Bool.and_eq_true, Bool.or_eq_true, beq_iff_eq, decide_eq_true_eq]
      omega]
    have hx : (if decide (kd l c = 3 ∧ (i = c ∨ i + 1 = c)) = true then (some (0, ([] : List Int)) : Option (Int × (List Int))) else (some (l[i].Kind, l[i].Text) : Option (Int × (List Int)))) = some ((trc l c i).Kind, (trc l c i).Text) := by
      unfold trc
      split
      · rename_i h
        rw [if_pos (of_decide_eq_true h)]
        rfl
      · rename_i h
        rw [if_neg (by simpa using h), List.getD_eq_getElem?_getD, List.getElem?_eq_getElem hi]
        rfl
    rw [hx]
    simp only [bsm]
    rw [app_eq (by simp; omega)]
    rfl
  · simp only [dnl]
    rfl

/-! ### blanks put in -/
def inx (l : List G_api_Cell) (c n j : Nat) : G_api_Cell := if j < c then (tr l c).getD j bl else if j < c + n then bl else (tr l c).getD (j - n) bl
def ins1 (l : List G_api_Cell) (c n j : Nat) : G_api_Cell := if j + 1 = l.length ∧ (inx l c n j).Kind = 2 then bl else inx l c n j
def insl (l : List G_api_Cell) (c n : Nat) : List G_api_Cell := (List.range l.length).map (ins1 l c n)
theorem insl_len (l : List G_api_Cell) (c n : Nat) : (insl l c n).length = l.length := by simp [insl]
theorem insl_get {c n j : Nat} (h : j < l.length) : (insl l c n)[j]? = some (ins1 l c n j) := by simp [insl, h]
theorem inx_kd (l : List G_api_Cell) (c n j : Nat) : (inx l c n j).Kind = if j < c then kd (tr l c) j else if j < c + n then 0 else kd (tr l c) (j - n) := by
  unfold inx
  split
  · exact kd_getD _ _
  · split
    · rfl
    · exact kd_getD _ _
theorem kd_insl (l : List G_api_Cell) (c n j : Nat) (h : j < l.length) : kd (insl l c n) j = if j + 1 = l.length ∧ (inx l c n j).Kind = 2 then 0 else (inx l c n j).Kind := by
  rw [show kd (insl l c n) j = (ins1 l c n j).Kind by simp [kd, insl_get h]]
  unfold ins1
  split <;> rfl
theorem rgt_getD (hs : Snd l) (j : Nat) : rgt (l.getD j bl) = true := by
  rcases Nat.lt_or_ge j l.length with h | h
  · exact hs.rg h
  · rw [List.getD_eq_getElem?_getD, List.getElem?_eq_none h]
    rfl
theorem ite_two {A : Prop} [Decidable A] {X : Int} (h : (if A ∧ X = 2 then (0 : Int) else X) = 2) : X = 2 ∧ ¬ A := by
  by_cases q : A ∧ X = 2
  · rw [if_pos q] at h; omega
  · rw [if_neg q] at h; exact ⟨h, fun a => q ⟨a, h⟩⟩
theorem ite_three {A : Prop} [Decidable A] {X : Int} (h : (if A ∧ X = 2 then (0 : Int) else X) = 3) : X = 3 := by
  by_cases q : A ∧ X = 2
  · rw [if_pos q] at h; omega
  · rwa [if_neg q] at h
theorem ite_keep {A : Prop} [Decidable A] {X : Int} (h : X ≠ 2) : (if A ∧ X = 2 then (0 : Int) else X) = X := if_neg fun q => h q.2
theorem insl_snd (hs : Snd l) (c n : Nat) : Snd (insl l c n) := fun j hj => by
  have hj' : j < l.length := by rw [insl_len] at hj; exact hj
  have he : (insl l c n)[j] = ins1 l c n j := by
    have := insl_get (c := c) (n := n) hj'
    rw [List.getElem?_eq_getElem hj] at this
    exact Option.some.inj this
  have ht := tr_snd hs c
  have hlen := tr_len l c
  have hat := kd_tr_at l c
  rw [← kd_at hj, he]
  refine ⟨?_, ?_, ?_⟩
  · unfold ins1
    split
    · rfl
    · unfold inx
      split
      · exact rgt_getD ht j
      · split
        · rfl
        · exact rgt_getD ht (j - n)
  · intro e
    rw [kd_insl l c n j hj', inx_kd] at e
    obtain ⟨e, hl⟩ := ite_two e
    · rw [kd_insl l c n (j + 1) (by omega), inx_kd]
      have key : (if j + 1 < c then kd (tr l c) (j + 1) else if j + 1 < c + n then 0 else kd (tr l c) (j + 1 - n)) = 3 := by
        split at e
        · have h3 := ht.two e
          rw [if_pos]
          · exact h3
          · rcases Nat.lt_or_ge (j + 1) c with q | q
            · exact q
            · obtain rfl : c = j + 1 := by omega
              exact absurd h3 hat
        · split at e
          · cases e
          · have h3 := ht.two e
            rw [if_neg (by omega), if_neg (by omega), show j + 1 - n = j - n + 1 by omega]
            exact h3
      rw [key]
      exact ite_keep (by decide)
  · intro e
    rw [kd_insl l c n j hj', inx_kd] at e
    have e' := ite_three e
    split at e'
    · obtain ⟨h0, h2⟩ := ht.three e'
      refine ⟨h0, ?_⟩
      rw [kd_insl l c n (j - 1) (by omega), inx_kd, if_neg (by rintro ⟨q, _⟩; omega), if_pos (by omega)]
      exact h2
    · split at e'
      · cases e'
      · obtain ⟨h0, h2⟩ := ht.three e'
        have hne : j - n ≠ c := by
          intro q
          rw [q] at e'
          exact hat e'
        refine ⟨by omega, ?_⟩
        rw [kd_insl l c n (j - 1) (by omega), inx_kd, if_neg (by rintro ⟨q, _⟩; omega), if_neg (by omega), if_neg (by omega), show j - 1 - n = j - n - 1 by omega]
        exact h2

theorem ins_fn (hl : l.length ≤ 1024) {c n : Nat} (hc : c < l.length) (h1 : 1 ≤ n) (hn : c + n ≤ l.length) : f_shift_Insert_1 (tr l c) n c = some (insl l c n) := by
  unfold f_shift_Insert_1
  have htl := tr_len l c
  rw [blanks, show (max 0 (min (n : Int) 1024)).toNat = n by omega]
  simp only [bsm]
  have hi : f_slices_Insert (tr l c) c (List.replicate n bl) = some ((tr l c).take c ++ List.replicate n bl ++ (tr l c).drop c) := by
    unfold f_slices_Insert
    rw [if_pos (by rw [htl, List.length_replicate]; unfold far; omega), Int.toNat_natCast]
  rw [hi]
  simp only [bsm]
  have hO : slc ((tr l c).take c ++ List.replicate n bl ++ (tr l c).drop c) 0 ((tr l c).length : Int) = some ((List.range l.length).map (inx l c n)) := by
    have := slc_eq (xs := (tr l c).take c ++ List.replicate n bl ++ (tr l c).drop c) (i := 0) (j := (tr l c).length) (by omega) (by simp [htl]; omega)
    rw [show ((0 : Nat) : Int) = 0 by rfl] at this
    rw [this]
    congr 1
    refine list_eq_range (by simp [htl]; omega) fun i hi => ?_
    rw [List.drop_zero, List.getElem?_take, if_pos (by omega), List.append_assoc]
    unfold inx
    have htk : ((tr l c).take c).length = c := by simp [htl]; omega
    split
    · rename_i q
      rw [List.getElem?_append_left (by omega), List.getElem?_take, if_pos q, List.getD_eq_getElem?_getD, List.getElem?_eq_getElem (by omega : i < (tr l c).length)]
      rfl
    · rename_i q
      rw [List.getElem?_append_right (by omega), htk]
      split
      · rw [List.getElem?_append_left (by simp; omega), List.getElem?_replicate, if_pos (by omega)]
      · rw [List.getElem?_append_right (by simp; omega), List.length_replicate, List.getElem?_drop, show c + (i - c - n) = i - n by omega, List.getD_eq_getElem?_getD, List.getElem?_eq_getElem (by omega : i - n < (tr l c).length)]
        rfl
  rw [hO]
  simp only [bsm]
  have e1 : w64 (((tr l c).length : Int) - 1) = ((l.length - 1 : Nat) : Int) := by rw [w64_in (by omega), htl]; omega
  rw [e1, idx_at (by simp; omega)]
  simp only [bsm, List.getElem_map, List.getElem_range]
  by_cases hk : (inx l c n (l.length - 1)).Kind = 2
  · rw [if_pos (by rw [hk]; rfl), sets_nat (by simp; omega)]
    simp only [bsm]
    congr 1
    refine list_eq_range (by simp) fun i hi => ?_
    unfold ins1
    by_cases q : l.length - 1 = i
    · subst q
      rw [List.getElem?_set_self (by simp; omega), if_pos ⟨by omega, hk⟩]
      rfl
    · rw [List.getElem?_set_ne q, if_neg (by rintro ⟨q, _⟩; omega)]
      simp [hi]
  · rw [if_neg (by simp; exact hk)]
    simp only [bsm]
    congr 1
    refine list_eq_range (by simp) fun i hi => ?_
    unfold ins1
    by_cases q : l.length - 1 = i
    · subst q
      rw [if_neg (by rintro ⟨_, q⟩; exact hk q)]
      simp [hi]
    · rw [if_neg (by rintro ⟨q, _⟩; omega)]
      simp [hi]

/-! ### cells taken out -/
def tt (l : List G_api_Cell) (c n : Nat) : List G_api_Cell := tr (tr l c) (c + n)
theorem tt_len (l : List G_api_Cell) (c n : Nat) : (tt l c n).length = l.length := by simp [tt, tr_len]
def dlx (l : List G_api_Cell) (c n j : Nat) : G_api_Cell := if j < c then (tt l c n).getD j bl else if j + n < l.length then (tt l c n).getD (j + n) bl else bl
def dell (l : List G_api_Cell) (c n : Nat) : List G_api_Cell := (List.range l.length).map (dlx l c n)
theorem dell_len (l : List G_api_Cell) (c n : Nat) : (dell l c n).length = l.length := by simp [dell]
theorem dell_get {c n j : Nat} (h : j < l.length) : (dell l c n)[j]? = some (dlx l c n j) := by simp [dell, h]
theorem kd_dell (l : List G_api_Cell) (c n j : Nat) (h : j < l.length) : kd (dell l c n) j = if j < c then kd (tt l c n) j else if j + n < l.length then kd (tt l c n) (j + n) else 0 := by
  rw [show kd (dell l c n) j = (dlx l c n j).Kind by simp [kd, dell_get h]]
  unfold dlx
  split
  · exact kd_getD _ _
  · split
    · exact kd_getD _ _
    · rfl
theorem dell_snd (hs : Snd l) (c n : Nat) : Snd (dell l c n) := fun j hj => by
  have hj' : j < l.length := by rw [dell_len] at hj; exact hj
  have he : (dell l c n)[j] = dlx l c n j := by
    have := dell_get (c := c) (n := n) hj'
    rw [List.getElem?_eq_getElem hj] at this
    exact Option.some.inj this
  have ht : Snd (tt l c n) := tr_snd (tr_snd hs c) (c + n)
  have hlen := tt_len l c n
  have hat1 : kd (tt l c n) c ≠ 3 := by
    unfold tt
    rw [kd_tr]
    split
    · decide
    · exact kd_tr_at l c
  have hat2 : kd (tt l c n) (c + n) ≠ 3 := kd_tr_at _ _
  rw [← kd_at hj, he]
  refine ⟨?_, ?_, ?_⟩
  · unfold dlx
    split
    · exact rgt_getD ht j
    · split
      · exact rgt_getD ht _
      · rfl
  · intro e
    rw [kd_dell l c n j hj'] at e
    split at e
    · have h3 := ht.two e
      have hlt := kd_lt (l := tt l c n) (j := j + 1) (by omega)
      rw [kd_dell l c n (j + 1) (by omega), if_pos]
      · exact h3
      · rcases Nat.lt_or_ge (j + 1) c with q | q
        · exact q
        · obtain rfl : c = j + 1 := by omega
          exact absurd h3 hat1
    · split at e
      · have h3 := ht.two e
        have hlt := kd_lt (l := tt l c n) (j := j + n + 1) (by omega)
        rw [kd_dell l c n (j + 1) (by omega), if_neg (by omega), if_pos (by omega), show j + 1 + n = j + n + 1 by omega]
        exact h3
      · omega
  · intro e
    rw [kd_dell l c n j hj'] at e
    split at e
    · obtain ⟨h0, h2⟩ := ht.three e
      refine ⟨h0, ?_⟩
      rw [kd_dell l c n (j - 1) (by omega), if_pos (by omega)]
      exact h2
    · split at e
      · obtain ⟨h0, h2⟩ := ht.three e
        have hne : j ≠ c := by
          intro q
          rw [q] at e
          exact hat2 e
        refine ⟨by omega, ?_⟩
        rw [kd_dell l c n (j - 1) (by omega), if_neg (by omega), if_pos (by omega), show j - 1 + n = j + n - 1 by omega]
        exact h2
      · omega

theorem del_fn (hs : Snd l) (hl : l.length ≤ 1024) {c n : Nat} (hc : c < l.length) (h1 : 1 ≤ n) (hn : c + n ≤ l.length) : f_shift_Delete_1 (tr l c) n c = some (dell l c n) := by
  unfold f_shift_Delete_1
  have htl := tt_len l c n
  have e1 : w64 ((c : Int) + (n : Int)) = ((c + n : Nat) : Int) := by rw [w64_in (by omega)]; simp
  rw [e1, tear_eq (tr_snd hs c) (by rw [tr_len]; exact hl)]
  simp only [bsm]
  rw [show tr (tr l c) (c + n) = tt l c n by rfl]
  have hd : f_slices_Delete (tt l c n) c ((c + n : Nat) : Int) = some ((tt l c n).take c ++ (tt l c n).drop (c + n)) := by
    unfold f_slices_Delete
    rw [if_pos (by rw [htl]; omega), Int.toNat_natCast, Int.toNat_natCast]
  rw [hd, blanks, show (max 0 (min (n : Int) 1024)).toNat = n by omega]
  simp only [bsm]
  rw [app_eq (by simp [htl]; omega)]
  simp only [bsm]
  congr 1
  refine list_eq_range (by simp [htl]; omega) fun i hi => ?_
  unfold dlx
  have htk : ((tt l c n).take c).length = c := by simp [htl]; omega
  rw [List.append_assoc]
  split
  · rename_i q
    rw [List.getElem?_append_left (by omega), List.getElem?_take, if_pos q, List.getD_eq_getElem?_getD, List.getElem?_eq_getElem (by omega : i < (tt l c n).length)]
    rfl
  · rename_i q
    rw [List.getElem?_append_right (by omega), htk]
    split
    · rw [List.getElem?_append_left (by simp [htl]; omega), List.getElem?_drop, show c + n + (i - c) = i + n by omega, List.getD_eq_getElem?_getD, List.getElem?_eq_getElem (by omega : i + n < (tt l c n).length)]
      rfl
    · rw [List.getElem?_append_right (by simp [htl]; omega), List.getElem?_replicate, if_pos (by simp [htl]; omega)]

/-! ### the rows -/
theorem pl_whole (h : p.length = l.length) : pl l 0 p = p := by
  symm
  refine list_eq_range h fun i hi => ?_
  unfold pc
  rw [if_pos ⟨Nat.zero_le _, by omega⟩, Nat.sub_zero, List.getD_eq_getElem?_getD, List.getElem?_eq_getElem (by omega)]
  rfl
theorem pw_whole (h1 : 1 ≤ l.length) : pw l w 0 l.length = false := by
  unfold pw tch
  rw [show decide (0 < l.length) = true by simp; omega, show decide (0 ≤ l.length - 1) = true by simp, show decide (l.length - 1 < 0 + l.length) = true by simp; omega]
  simp
def mvs (col n : Int) (m : Nat) : Bool := decide (0 ≤ col) && decide (col < (m : Int)) && decide (1 ≤ n)
def ish (l : List G_api_Cell) (w : Bool) (col n : Int) : G_row_Row := if mvs col n l.length = true then ⟨insl l col.toNat (min n ((l.length : Int) - col)).toNat, false⟩ else ⟨l, w⟩
def dsh (l : List G_api_Cell) (w : Bool) (col n : Int) : G_row_Row := if mvs col n l.length = true then ⟨dell l col.toNat (min n ((l.length : Int) - col)).toNat, false⟩ else ⟨l, w⟩
theorem ish_snd (hs : Snd l) (col n : Int) : Snd (ish l w col n).cells := by
  unfold ish
  split
  · exact insl_snd hs _ _
  · exact hs
theorem dsh_snd (hs : Snd l) (col n : Int) : Snd (dsh l w col n).cells := by
  unfold dsh
  split
  · exact dell_snd hs _ _
  · exact hs
theorem ish_len (col n : Int) : (ish l w col n).cells.length = l.length := by
  unfold ish
  split
  · exact insl_len _ _ _
  · rfl
theorem dsh_len (col n : Int) : (dsh l w col n).cells.length = l.length := by
  unfold dsh
  split
  · exact dell_len _ _ _
  · rfl
theorem mvs_out {col n : Int} {m : Nat} : (decide (col < 0) || decide (col ≥ (m : Int)) || decide (n < 1)) = !mvs col n m := by
  rw [Bool.eq_iff_iff]
  simp only [mvs, Bool.or_eq_true, Bool.not_eq_true', Bool.and_eq_false_iff, decide_eq_true_eq, decide_eq_false_iff_not]
  omega
theorem mvs_in {col n : Int} {m : Nat} (h : mvs col n m = true) : ∃ c e : Nat, col = (c : Int) ∧ min n ((m : Int) - col) = (e : Int) ∧ c < m ∧ 1 ≤ e ∧ c + e ≤ m := by
  simp only [mvs, Bool.and_eq_true, decide_eq_true_eq] at h
  exact ⟨col.toNat, (min n ((m : Int) - col)).toNat, by omega, by omega, by omega, by omega, by omega⟩
theorem shift_ins (h : s.row_Row[k]? = some ⟨l, w⟩) (hs : Snd l) (hl : l.length ≤ 1024) (col n : Int) : f_shift_Insert s (some k) col n = some (s.sr k (ish l w col n)) := by
  unfold f_shift_Insert f_shift_turns__shift_Insert_1
  simp only [row_wide h, bsm, orE_some, mvs_out]
  unfold ish
  by_cases hm : mvs col n l.length = true
  · obtain ⟨c, e, rfl, he, h1, h2, h3⟩ := mvs_in hm
    rw [if_neg (by rw [hm]; decide), if_pos hm, row_cells h (by omega) hs.sht]
    simp only [bsm, tear_eq hs hl]
    have e1 : imin n (w64 ((l.length : Int) - (c : Int))) = (e : Int) := by rw [w64_in (by omega), imin_eq]; exact he
    rw [e1, ins_fn hl h1 h2 h3, he]
    simp only [bsm, Int.toNat_natCast]
    have := row_paint h hs hl (insl_snd hs c e) (a := 0) (by rw [insl_len]; omega) (by rw [insl_len]; omega)
    rw [show ((0 : Nat) : Int) = 0 by rfl] at this
    rw [this, pl_whole (insl_len l c e), insl_len, pw_whole (by omega)]
    rfl
  · rw [if_pos (by simpa using hm), if_neg hm, sr_id h]
    rfl
theorem shift_del (h : s.row_Row[k]? = some ⟨l, w⟩) (hs : Snd l) (hl : l.length ≤ 1024) (col n : Int) : f_shift_Delete s (some k) col n = some (s.sr k (dsh l w col n)) := by
  unfold f_shift_Delete f_shift_turns__shift_Delete_1
  simp only [row_wide h, bsm, orE_some, mvs_out]
  unfold dsh
  by_cases hm : mvs col n l.length = true
  · obtain ⟨c, e, rfl, he, h1, h2, h3⟩ := mvs_in hm
    rw [if_neg (by rw [hm]; decide), if_pos hm, row_cells h (by omega) hs.sht]
    simp only [bsm, tear_eq hs hl]
    have e1 : imin n (w64 ((l.length : Int) - (c : Int))) = (e : Int) := by rw [w64_in (by omega), imin_eq]; exact he
    rw [e1, del_fn hs hl h1 h2 h3, he]
    simp only [bsm, Int.toNat_natCast]
    have := row_paint h hs hl (dell_snd hs c e) (a := 0) (by rw [dell_len]; omega) (by rw [dell_len]; omega)
    rw [show ((0 : Nat) : Int) = 0 by rfl] at this
    rw [this, pl_whole (dell_len l c e), dell_len, pw_whole (by omega)]
    rfl
  · rw [if_pos (by simpa using hm), if_neg hm, sr_id h]
    rfl
theorem shift_ins0 (col n : Int) : f_shift_Insert s none col n = some s := by
  unfold f_shift_Insert f_shift_turns__shift_Insert_1
  simp only [row_wide0, bsm, orE_some]
  rw [if_pos (by simp only [Bool.or_eq_true, decide_eq_true_eq]; omega)]
  rfl
theorem shift_del0 (col n : Int) : f_shift_Delete s none col n = some s := by
  unfold f_shift_Delete f_shift_turns__shift_Delete_1
  simp only [row_wide0, bsm, orE_some]
  rw [if_pos (by simp only [Bool.or_eq_true, decide_eq_true_eq]; omega)]
  rfl

/-! ### the document's answer -/
theorem ref_ins (hl : l.length ≤ 1024) (col n : Int) (w : Bool) : f_linotyperef27_Insert l col n = some ((ish l w col n).cells, mvs col n l.length) := by
  unfold f_linotyperef27_Insert
  simp only [bsm, orE_some, mvs_out]
  unfold ish
  by_cases hm : mvs col n l.length = true
  · rw [hm]
    obtain ⟨c, e, rfl, he, h1, h2, h3⟩ := mvs_in hm
    have e1 : imin n (w64 ((l.length : Int) - (c : Int))) = (e : Int) := by rw [w64_in (by omega), imin_eq]; exact he
    rw [if_neg (by decide), if_pos rfl, torn_eq hl, e1, he]
    simp only [bsm, Int.toNat_natCast]
    refine bind_of (iter_map (n := l.length) (ins1 l c e) (t := insl l c e) (fun i hi => ?_) ?_ (by omega)) rfl
    · have e2 : w64 ((c : Int) + (e : Int)) = ((c + e : Nat) : Int) := by rw [w64_in (by omega)]; simp
      simp only [dlt hi, if_true, w64_succ hi (by omega), e2, andE_some, bsm]
      have htl := tr_len l c
      have hx : ((if decide ((i : Int) < (c : Int)) = true then (idx (tr l c) (i : Int)).bind fun x => (some (x.Kind, x.Text) : Option (Int × (List Int))) else (some (0, ([] : List Int)) : Option (Int × (List Int)))).bind fun z =>
          if decide ((i : Int) ≥ ((c + e : Nat) : Int)) = true then (idx (tr l c) (w64 ((i : Int) - (e : Int)))).bind fun x => (some (x.Kind, x.Text) : Option (Int × (List Int))) else (some (z.1, z.2) : Option (Int × (List Int)))) = some ((inx l c e i).Kind, (inx l c e i).Text) := by
        unfold inx
        by_cases q1 : i < c
        · rw [if_pos (by simp; omega), idx_at (by omega : i < (tr l c).length)]
          simp only [bsm]
          rw [if_neg (by simp; omega), if_pos q1, List.getD_eq_getElem?_getD, List.getElem?_eq_getElem (by omega : i < (tr l c).length)]
          rfl
        · rw [if_neg (by simp; omega), if_neg q1]
          simp only [bsm]
          by_cases q2 : i < c + e
          · rw [if_neg (by simp; omega), if_pos q2]
            rfl
          · have e3 : w64 ((i : Int) - (e : Int)) = ((i - e : Nat) : Int) := by rw [w64_in (by omega)]; omega
            rw [if_pos (by simp; omega), if_neg q2, e3, idx_at (by omega : i - e < (tr l c).length), List.getD_eq_getElem?_getD, List.getElem?_eq_getElem (by omega : i - e < (tr l c).length)]
            rfl
      refine (Option.bind_assoc _ _ _).symm.trans ?_
      rw [hx]
      simp only [bsm]
      have hy : (if (((i + 1 : Nat) : Int) == (l.length : Int) && (inx l c e i).Kind == 2) = true then (some (0, ([] : List Int)) : Option (Int × (List Int))) else (some ((inx l c e i).Kind, (inx l c e i).Text) : Option (Int × (List Int)))) = some ((ins1 l c e i).Kind, (ins1 l c e i).Text) := by
        unfold ins1
        by_cases q : i + 1 = l.length ∧ (inx l c e i).Kind = 2
        · rw [if_pos (by simp only [Bool.and_eq_true, beq_iff_eq]; omega), if_pos q]
          rfl
        · rw [if_neg (by simp only [Bool.and_eq_true, beq_iff_eq]; omega), if_neg q]
      rw [hy]
      simp only [bsm]
      rw [app_eq (by simp; omega)]
      rfl
    · simp only [dnl]
      rfl
  · rw [if_pos (by simpa using hm), if_neg hm]
    simp only [Bool.not_eq_true] at hm
    rw [hm]
theorem ref_del (hl : l.length ≤ 1024) (col n : Int) (w : Bool) : f_linotyperef27_Delete l col n = some ((dsh l w col n).cells, mvs col n l.length) := by
  unfold f_linotyperef27_Delete
  simp only [bsm, orE_some, mvs_out]
  unfold dsh
  by_cases hm : mvs col n l.length = true
  · rw [hm]
    obtain ⟨c, e, rfl, he, h1, h2, h3⟩ := mvs_in hm
    have e1 : imin n (w64 ((l.length : Int) - (c : Int))) = (e : Int) := by rw [w64_in (by omega), imin_eq]; exact he
    have e2 : w64 ((c : Int) + (e : Int)) = ((c + e : Nat) : Int) := by rw [w64_in (by omega)]; simp
    rw [if_neg (by decide), if_pos rfl, torn_eq hl, e1, he]
    simp only [bsm, Int.toNat_natCast, e2]
    rw [torn_eq (by rw [tr_len]; exact hl)]
    simp only [bsm]
    rw [show tr (tr l c) (c + e) = tt l c e by rfl]
    refine bind_of (iter_map (n := l.length) (dlx l c e) (t := dell l c e) (fun i hi => ?_) ?_ (by omega)) rfl
    · have htl := tt_len l c e
      have e3 : w64 ((i : Int) + (e : Int)) = ((i + e : Nat) : Int) := by rw [w64_in (by omega)]; simp
      simp only [dlt hi, if_true, w64_succ hi (by omega), e3]
      have hx : (if decide ((i : Int) < (c : Int)) = true then (idx (tt l c e) (i : Int)).bind fun x => (some (x.Kind, x.Text) : Option (Int × (List Int))) else if decide (((i + e : Nat) : Int) < (l.length : Int)) = true then (idx (tt l c e) ((i + e : Nat) : Int)).bind fun x => (some (x.Kind, x.Text) : Option (Int × (List Int))) else (some (0, ([] : List Int)) : Option (Int × (List Int)))) = some ((dlx l c e i).Kind, (dlx l c e i).Text) := by
        unfold dlx
        by_cases q1 : i < c
        · rw [if_pos (by simp; omega), idx_at (by omega : i < (tt l c e).length), if_pos q1, List.getD_eq_getElem?_getD, List.getElem?_eq_getElem (by omega : i < (tt l c e).length)]
          rfl
        · rw [if_neg (by simp; omega), if_neg q1]
          by_cases q2 : i + e < l.length
          · rw [if_pos (by simp only [decide_eq_true_eq]; omega), if_pos q2, idx_at (by omega : i + e < (tt l c e).length), List.getD_eq_getElem?_getD, List.getElem?_eq_getElem (by omega : i + e < (tt l c e).length)]
            rfl
          · rw [if_neg (by simp only [decide_eq_true_eq]; omega), if_neg q2]
            rfl
      rw [hx]
      simp only [bsm]
      rw [app_eq (by simp; omega)]
      rfl
    · simp only [dnl]
      rfl
  · rw [if_pos (by simpa using hm), if_neg hm]
    simp only [Bool.not_eq_true] at hm
    rw [hm]
end Go.Proofs.YthokmpbbkpjhbaaGreatDoor
