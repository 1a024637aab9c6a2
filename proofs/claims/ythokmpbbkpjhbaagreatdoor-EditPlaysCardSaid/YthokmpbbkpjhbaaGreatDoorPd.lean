/-
  A row is painted as the document says, in plain Lean. Conditions: the row is sound and at most 1024 wide.
-/
import Derived.Test.YthokmpbbkpjhbaaGreatDoorPc
namespace Go.Proofs.YthokmpbbkpjhbaaGreatDoor
open Go Go.Lt
variable {s : Sto} {k : Nat} {l p : List G_api_Cell} {w : Bool}

theorem kd_set_ne {i j : Nat} (h : i ≠ j) (c : G_api_Cell) : kd (l.set i c) j = kd l j := by simp [kd, List.getElem?_set_ne h]

theorem row_paint (h : s.row_Row[k]? = some ⟨l, w⟩) (hs : Snd l) (hl : l.length ≤ 1024) (hp : Snd p) {a : Nat} (hn : 1 ≤ p.length) (ha : a + p.length ≤ l.length) :
    f_row_Row_Paint s (some k) a p = some (s.sr k ⟨pl l a p, pw l w a p.length⟩, Er.nil) := by
  unfold f_row_Row_Paint
  have hk := get_lt h
  obtain ⟨b, hb1, hb2⟩ := cell_sound p (by omega)
  have hb : b = true := hb2.2 hp
  subst hb
  have e1 : w64 ((l.length : Int) - (a : Int)) = (l.length : Int) - a := w64_in (by omega)
  have e2 : w64 ((a : Int) + (p.length : Int)) = ((a + p.length : Nat) : Int) := by rw [w64_in (by omega)]; simp
  have o1 : decide ((a : Int) < 0) = false := by simp
  have o2 : decide ((a : Int) > (l.length : Int)) = false := by simp; omega
  have o3 : decide ((p.length : Int) > (l.length : Int) - (a : Int)) = false := by simp; omega
  have o4 : ((p.length : Int) == 0) = false := by rw [beq_eq_false_iff_ne]; omega
  simp only [Option.isNone_some, orE_false, o1, o2, o3, o4, h, e1, e2, hb1, bsm, Bool.false_eq_true, if_false, Bool.not_true, row_kind h a]
  -- the left end
  obtain ⟨l1, hl1⟩ : ∃ l1, l1 = if kd l a = 3 then l.set (a - 1) bl else l := ⟨_, rfl⟩
  have hlen1 : l1.length = l.length := by rw [hl1]; split <;> simp
  have left : (if (kd l a == 3) = true then (f_row_Row_put s (some k) (w64 ((a : Int) - 1)) (⟨0, ([] : List Int)⟩ : G_api_Cell)).bind fun x_60 => (some (x_60) : Option (Sto)) else (some (s) : Option (Sto))) = some (s.sr k ⟨l1, w⟩) := by
    by_cases h3 : kd l a = 3
    · have h4 := hs.three h3
      have h5 : a < l.length := kd_lt (by rw [h3]; decide)
      rw [if_pos (by simpa using h3), show w64 ((a : Int) - 1) = ((a - 1 : Nat) : Int) by rw [w64_in (by omega)]; omega, row_put h (by omega) (by omega) (by simp)]
      rw [hl1, if_pos h3]
      have : decide (a - 1 + 1 = l.length) = false := by simp; omega
      simp only [bsm, this, Bool.not_false, Bool.and_true]
      rfl
    · rw [if_neg (by simpa using h3), hl1, if_neg h3, sr_id h]
  rw [left]
  simp only [bsm]
  -- the right end
  obtain ⟨l2, hl2⟩ : ∃ l2, l2 = if kd l (a + p.length) = 3 then l1.set (a + p.length) bl else l1 := ⟨_, rfl⟩
  obtain ⟨w2, hw2⟩ : ∃ w2, w2 = (w && !(decide (kd l (a + p.length) = 3) && decide (a + p.length + 1 = l.length))) := ⟨_, rfl⟩
  have hlen2 : l2.length = l.length := by rw [hl2]; split <;> simp [hlen1]
  have hget1 : (s.sr k ⟨l1, w⟩).row_Row[k]? = some ⟨l1, w⟩ := sr_get hk
  have hkd1 : kd l1 (a + p.length) = kd l (a + p.length) := by
    rw [hl1]; split
    · exact kd_set_ne (by omega) _
    · rfl
  have right : ((f_row_Row_kind (s.sr k ⟨l1, w⟩) (some k) ((a + p.length : Nat) : Int)).bind fun x_71 =>
      if (x_71 == 3) = true then
      (f_row_Row_put (s.sr k ⟨l1, w⟩) (some k) ((a + p.length : Nat) : Int) (⟨0, ([] : List Int)⟩ : G_api_Cell)).bind fun x_77 =>
      (some (x_77) : Option (Sto))
      else
      (some (s.sr k ⟨l1, w⟩) : Option (Sto))) = some (s.sr k ⟨l2, w2⟩) := by
    rw [row_kind hget1, hkd1]
    simp only [bsm]
    by_cases h3 : kd l (a + p.length) = 3
    · have h5 : a + p.length < l.length := kd_lt (by rw [h3]; decide)
      rw [if_pos (by simpa using h3), row_put hget1 (by omega) (by omega) (by simp)]
      simp only [bsm, sr_sr]
      rw [hl2, if_pos h3, hw2, hlen1]
      simp only [h3, decide_true, Bool.true_and]
      rfl
    · rw [if_neg (by simpa using h3), hl2, if_neg h3, hw2]
      simp [h3]
  rw [right]
  simp only [bsm]
  -- the cells
  rw [iter_eq (s := ((0 : Int), s.sr k ⟨l2, w2⟩)) (t := s.sr k ⟨l2.take a ++ p ++ l2.drop (a + p.length), w2 && !decide (a + p.length = l.length)⟩)
    (fun st : Int × Sto => ∃ i : Nat, st = ((i : Int), s.sr k ⟨l2.take a ++ p.take i ++ l2.drop (a + i), w2 && !(decide (0 < i) && decide (a + i = l.length))⟩) ∧ i ≤ p.length) (fun st => p.length - st.1.toNat) ?_ ⟨0, ?_, Nat.zero_le _⟩ (by simp)]
  · simp only [bsm, Option.some.injEq, Prod.mk.injEq, and_true]
    congr 1
    congr 1
    · -- the cells are those of the document
      apply List.ext_getElem?
      intro j
      rcases Nat.lt_or_ge j l.length with hj | hj
      · rw [pl_get hj]
        have g1 : ∀ j, j < l.length → j ≠ a + p.length → l1[j]? = some (if kd l a = 3 ∧ j = a - 1 then bl else l.getD j bl) := fun j hj _ => by
          rw [hl1]
          split
          · rename_i h3
            by_cases hja : j = a - 1
            · subst hja
              rw [List.getElem?_set_self (by omega), if_pos ⟨h3, rfl⟩]
            · rw [List.getElem?_set_ne (Ne.symm hja), if_neg (fun e => hja e.2), List.getElem?_eq_getElem hj, List.getD_eq_getElem?_getD, List.getElem?_eq_getElem hj]; rfl
          · rename_i h3
            rw [if_neg (fun e => h3 e.1), List.getElem?_eq_getElem hj, List.getD_eq_getElem?_getD, List.getElem?_eq_getElem hj]; rfl
        have lw : (l2.take a).length = a := by rw [List.length_take]; omega
        rcases Nat.lt_or_ge j a with hja | hja
        · rw [List.append_assoc, List.getElem?_append_left (by omega), List.getElem?_take, if_pos hja]
          have e : l2[j]? = l1[j]? := by
            rw [hl2]; split
            · exact List.getElem?_set_ne (by omega)
            · rfl
          have hp0 : ¬ (a ≤ j ∧ j < a + p.length) := by omega
          rw [e, g1 j hj (by omega), pc, if_neg hp0]
          congr 1
          by_cases hc : kd l a = 3 ∧ j = a - 1
          · rw [if_pos hc, if_pos]
            have h4 := hs.three hc.1
            simp only [tch, Bool.or_eq_true, Bool.and_eq_true, decide_eq_true_eq]
            refine .inl (.inr ⟨⟨?_, ?_⟩, ?_⟩)
            · rw [hc.2]; exact h4.2
            · omega
            · omega
          · rw [if_neg hc, if_neg]
            simp only [tch, Bool.or_eq_true, Bool.and_eq_true, decide_eq_true_eq, not_or, not_and]
            refine ⟨⟨fun h => by omega, fun h2 => ?_⟩, fun h => by omega⟩
            have h3 := hs.two h2.1
            have : j + 1 = a := by omega
            rw [this] at h3
            exact absurd ⟨h3, by omega⟩ hc
        · rcases Nat.lt_or_ge j (a + p.length) with hjn | hjn
          · rw [List.append_assoc, List.getElem?_append_right (by omega), List.getElem?_append_left (by omega), lw, pc, if_pos ⟨hja, hjn⟩, List.getD_eq_getElem?_getD, List.getElem?_eq_getElem (by omega)]
            rfl
          · rw [List.getElem?_append_right (by rw [List.length_append]; omega), List.getElem?_drop, List.length_append, lw, show a + p.length + (j - (a + p.length)) = j by omega]
            rw [pc, if_neg (by omega)]
            by_cases hc : kd l (a + p.length) = 3 ∧ j = a + p.length
            · rw [hl2, if_pos hc.1, hc.2, List.getElem?_set_self (by omega), if_pos]
              simp only [tch, Bool.or_eq_true, Bool.and_eq_true, decide_eq_true_eq]
              exact .inr ⟨⟨hc.1, by omega⟩, by omega⟩
            · have e : l2[j]? = some (l.getD j bl) := by
                have e2 : l1[j]? = some (l.getD j bl) := by
                  rw [hl1]; split
                  · rw [List.getElem?_set_ne (by omega), List.getD_eq_getElem?_getD, List.getElem?_eq_getElem hj]; rfl
                  · rw [List.getD_eq_getElem?_getD, List.getElem?_eq_getElem hj]; rfl
                rw [hl2]; split
                · rename_i h3
                  rw [List.getElem?_set_ne (fun e => hc ⟨h3, e.symm⟩), e2]
                · exact e2
              rw [e, if_neg]
              simp only [tch, Bool.or_eq_true, Bool.and_eq_true, decide_eq_true_eq, not_or, not_and]
              refine ⟨⟨fun h => by omega, fun h => by omega⟩, fun h2 => ?_⟩
              intro h4
              have : j = a + p.length := by omega
              exact hc ⟨by rw [← this]; exact h2.1, this⟩
      · rw [List.getElem?_eq_none (l := pl l a p) (by rw [pl_len]; exact hj), List.getElem?_eq_none (by simp only [List.length_append, List.length_take, List.length_drop]; omega)]
    · -- whether it goes on
      rw [hw2, pw, Bool.and_assoc]
      congr 1
      rw [← Bool.not_or]
      congr 1
      have h2 : kd l (l.length - 1) ≠ 2 := fun h2 => by
        have := hs.two h2
        rw [show l.length - 1 + 1 = l.length by omega, kd_out (Nat.le_refl _)] at this
        cases this
      rw [Bool.eq_iff_iff]
      simp only [tch, Bool.or_eq_true, Bool.and_eq_true, decide_eq_true_eq]
      constructor
      · rintro (⟨h3, h4⟩ | h4)
        · refine ⟨by omega, .inr ⟨⟨?_, by omega⟩, by omega⟩⟩
          rw [show l.length - 1 = a + p.length by omega]; exact h3
        · exact ⟨by omega, .inl (.inl ⟨by omega, by omega⟩)⟩
      · rintro ⟨h0, (⟨h3, h4⟩ | ⟨⟨h3, _⟩, _⟩) | ⟨⟨h3, h4⟩, h5⟩⟩
        · exact .inr (by omega)
        · exact absurd h3 h2
        · by_cases hx : a + p.length = l.length
          · exact .inr hx
          · have : l.length - 1 = a + p.length := by omega
            exact .inl ⟨by rw [← this]; exact h3, by omega⟩
  · rintro st ⟨i, rfl, hi⟩
    rcases Nat.lt_or_ge i p.length with hlt | hge
    · refine .inl ⟨_, ?_, ⟨i + 1, rfl, hlt⟩, by simp; omega⟩
      have e3 : w64 ((i : Int) + 1) = ((i + 1 : Nat) : Int) := by rw [w64_in (by omega)]; simp
      have e4 : w64 ((a : Int) + (i : Int)) = ((a + i : Nat) : Int) := by rw [w64_in (by omega)]; simp
      have hd : decide ((i : Int) < (p.length : Int)) = true := by simp; exact hlt
      have hli : (l2.take a ++ p.take i ++ l2.drop (a + i)).length = l.length := by
        simp only [List.length_append, List.length_take, List.length_drop]; omega
      simp only [hd, if_true, idx_at hlt, bsm, e3, e4]
      rw [row_put (sr_get hk) (by rw [hli]; omega) (by rw [hli]; omega) (hp.sht i hlt)]
      simp only [bsm, sr_sr, hli]
      have hset : (l2.take a ++ p.take i ++ l2.drop (a + i)).set (a + i) p[i] = l2.take a ++ p.take (i + 1) ++ l2.drop (a + (i + 1)) := by
        have hx : (l2.take a ++ p.take i).length = a + i := by simp only [List.length_append, List.length_take]; omega
        rw [List.set_append_right _ _ (by omega), hx, Nat.sub_self, List.drop_eq_getElem_cons (show a + i < l2.length by omega), List.set_cons_zero, List.take_succ_eq_append_getElem hlt]
        simp only [List.append_assoc, List.cons_append, List.nil_append, Nat.add_assoc]
      rw [hset]
      have hwe : ((w2 && !(decide (0 < i) && decide (a + i = l.length))) && !decide (a + i + 1 = l.length)) = (w2 && !(decide (0 < i + 1) && decide (a + (i + 1) = l.length))) := by
        have : decide (a + i = l.length) = false := by simp; omega
        rw [this]
        simp [Nat.add_assoc]
      rw [hwe]
    · obtain rfl : i = p.length := by omega
      refine .inr ?_
      have : decide (0 < p.length) = true := by simp; omega
      simp [this]
  · simp
/-- A number between 0 and another one, or the nearer one of both. -/
def cl (n : Int) (m : Nat) : Nat := (max 0 (min n m)).toNat
theorem cl_le (n : Int) (m : Nat) : cl n m ≤ m := by unfold cl; omega
end Go.Proofs.YthokmpbbkpjhbaaGreatDoor
