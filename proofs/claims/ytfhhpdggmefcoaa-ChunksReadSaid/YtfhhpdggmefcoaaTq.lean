/-
  A row of bytes in parts, by the document, in plain Lean: the numbers told are those that a decoder tells, and one for what it holds. Conditions: bytes lie between 0 and 255; rows are short.
-/
import Derived.Test.YtfhhpdggmefcoaaTz
import Derived.Test.YtfhhpdggmefcoaaUa
namespace Go.Proofs.Ytfhhpdggmefcoaa
open Go Go.Lt

theorem Hh.nil : Hh [] := .inl rfl
theorem Bts.nil : Bts [] := fun x hx => by simp at hx
/-- The numbers told of a row of bytes, and one for what is held. -/
def told (c : List Int) : List Int := (rfeed [] c).1 ++ (if (rfeed [] c).2 = [] then [] else [65533])
theorem GK.take {c : List Int} {k : Nat} (h : GK c k) : GK (c.take k) k := by
  have hle := h.le
  refine ⟨by rw [List.length_take]; omega, fun m h1 h2 => ?_, fun hk => ?_, fun hk => ?_, fun hk _ => .inl (by rw [List.length_take]; omega)⟩
  · rw [List.take_take, Nat.min_eq_left (by omega)]
    exact h.lt m h1 h2
  · subst hk
    simp [bg]
  · rw [List.take_take, Nat.min_self]
    exact h.p hk
/-- What the first part tells, and what is left of it. -/
theorem part_feed {c : List Int} {k : Nat} (h : GK c k) (hk : 0 < k) : (bg (c.take k) = k ∧ rfeed [] (c.take k) = ([vl (c.take k)], [])) ∨ ((k : Int) < bg (c.take k) ∧ rfeed [] (c.take k) = ([], c.take k)) := by
  have hle := h.le
  have hl : (c.take k).length = k := by rw [List.length_take]; omega
  have hp := h.p hk
  have hge := bg_ge hp
  rw [hl] at hge
  have ht := h.take
  have htt : (c.take k).take k = c.take k := by rw [List.take_take, Nat.min_self]
  by_cases hw : bg (c.take k) = k
  · refine .inl ⟨hw, ?_⟩
    have := part_whole ht hk (by rw [htt]; exact hw)
    rw [htt, List.drop_of_length_le (by omega)] at this
    exact this
  · refine .inr ⟨by omega, ?_⟩
    have ht' : GK (c.take k) (c.take k).length := by rw [hl]; exact ht
    exact part_end ht' (by omega) (by rw [hl]; omega)
theorem told_part {c : List Int} {k : Nat} (h : GK c k) (hc : c ≠ []) : told c = (if 0 < k then (if bg (c.take k) = k then vl (c.take k) else 65533) else 65533) :: told (c.drop (max k 1)) := by
  by_cases hk : 0 < k
  · rw [if_pos hk, show max k 1 = k by omega]
    rcases part_feed h hk with ⟨hw, _⟩ | ⟨hw, _⟩
    · rw [if_pos hw]
      have := part_whole h hk hw
      unfold told
      rw [this]
      rfl
    · rw [if_neg (by omega)]
      by_cases hlt : k < c.length
      · have := part_torn h hk hw hlt
        unfold told
        rw [this]
        rfl
      · have hkl : k = c.length := by have := h.le; omega
        subst hkl
        rw [List.take_of_length_le (Nat.le_refl _)] at hw
        have := part_end h hk hw
        unfold told
        rw [this, if_neg hc, List.drop_of_length_le (Nat.le_refl _)]
        rfl
  · rw [if_neg hk, show max k 1 = 1 by omega]
    have := part_none hc (h.z (by omega))
    unfold told
    rw [this]
    rfl
/-- How long the first part is. -/
theorem part_loop {p : List Int} (hp : Bts p) (hl : p.length ≤ 1000000) {a : Nat} (ha : a < p.length) : ∃ k : Nat, GK (p.drop a) k ∧ iter (σ := Int) (τ := Int) (((p.length : Int) - (w64 ((a : Int) + 0))).toNat + 1) (fun s_15 =>
 (andE (decide ((w64 ((a : Int) + s_15)) < (p.length : Int))) ((slc p (a : Int) (w64 ((w64 ((a : Int) + s_15)) + 1))).bind fun x_30 =>
 (f_linotyperef03_Begins x_30).bind fun x_31 =>
 some (decide (x_31 > 0)))).bind fun d_22 =>
 if d_22 = true then
 (slc p (a : Int) (w64 ((a : Int) + (w64 (s_15 + 1))))).bind fun x_43 =>
 (f_linotyperef03_Begins x_43).bind fun x_44 =>
 if (x_44 == (w64 (s_15 + 1))) = true then
 some (.inr ((w64 (s_15 + 1))))
 else
 some (.inl ((w64 (s_15 + 1))))
 else
 some (.inr (s_15))) (0) = some (k : Int) := by
  have hcl : (p.drop a).length = p.length - a := by simp
  have hbt : ∀ i, Bts ((p.drop a).take i) := fun i x hx => hp x (List.mem_of_mem_drop (List.mem_of_mem_take hx))
  obtain ⟨t, h1, h2⟩ := iter_inv (σ := Int) (τ := Int) (step := fun s_15 =>
 (andE (decide ((w64 ((a : Int) + s_15)) < (p.length : Int))) ((slc p (a : Int) (w64 ((w64 ((a : Int) + s_15)) + 1))).bind fun x_30 =>
 (f_linotyperef03_Begins x_30).bind fun x_31 =>
 some (decide (x_31 > 0)))).bind fun d_22 =>
 if d_22 = true then
 (slc p (a : Int) (w64 ((a : Int) + (w64 (s_15 + 1))))).bind fun x_43 =>
 (f_linotyperef03_Begins x_43).bind fun x_44 =>
 if (x_44 == (w64 (s_15 + 1))) = true then
 some (.inr ((w64 (s_15 + 1))))
 else
 some (.inl ((w64 (s_15 + 1))))
 else
 some (.inr (s_15))) (fun s => ∃ k : Nat, s = (k : Int) ∧ k ≤ p.length - a ∧ ∀ m, 0 < m → m ≤ k → (m : Int) < bg ((p.drop a).take m)) (fun s => p.length - a - s.toNat) (fun t => ∃ k : Nat, t = (k : Int) ∧ GK (p.drop a) k)
    (fun s hs => by
      obtain ⟨k, rfl, hk, hI⟩ := hs
      have e1 : w64 ((a : Int) + (k : Int)) = ((a + k : Nat) : Int) := by rw [w64_in (by omega)]; simp
      have e2 : w64 (((a + k : Nat) : Int) + 1) = ((a + k + 1 : Nat) : Int) := by rw [w64_in (by omega)]; simp
      have e3 : w64 ((k : Int) + 1) = ((k + 1 : Nat) : Int) := by rw [w64_in (by omega)]; simp
      have e4 : w64 ((a : Int) + ((k + 1 : Nat) : Int)) = ((a + k + 1 : Nat) : Int) := by rw [w64_in (by omega)]; simp; omega
      simp only [e1, e2, e3, e4]
      by_cases hlt : k < p.length - a
      · have hs := slc_eq (xs := p) (i := a) (j := a + k + 1) (by omega) (by omega)
        rw [show a + k + 1 - a = k + 1 by omega] at hs
        rw [show decide (((a + k : Nat) : Int) < (p.length : Int)) = true by simp; omega, andE_true, hs]
        simp only [bsm]
        rw [begins_eq (hbt _) (by simp; omega)]
        simp only [bsm]
        have hge : 0 < bg ((p.drop a).take (k + 1)) → ((k + 1 : Nat) : Int) ≤ bg ((p.drop a).take (k + 1)) := fun h => by
          have := bg_ge h
          rw [List.length_take, hcl] at this
          omega
        by_cases hb : 0 < bg ((p.drop a).take (k + 1))
        · rw [if_pos (by simpa using hb)]
          by_cases hw : bg ((p.drop a).take (k + 1)) = ((k + 1 : Nat) : Int)
          · rw [if_pos (by simpa using hw)]
            refine .inr ⟨_, rfl, k + 1, rfl, by omega, fun m m1 m2 => hI m m1 (by omega), fun h => by omega, fun _ => hb, fun _ h => by omega⟩
          · rw [if_neg (by simpa using hw)]
            refine .inl ⟨_, rfl, ⟨k + 1, rfl, by omega, fun m m1 m2 => ?_⟩, by simp; omega⟩
            by_cases hm : m ≤ k
            · exact hI m m1 hm
            · obtain rfl : m = k + 1 := by omega
              have := hge hb
              omega
        · rw [if_neg (by simpa using hb)]
          have hz : bg ((p.drop a).take (k + 1)) = 0 := by have := bg_le ((p.drop a).take (k + 1)); omega
          refine .inr ⟨_, rfl, k, rfl, by omega, fun m m1 m2 => hI m m1 (by omega), fun h => by subst h; exact hz, fun h => by have := hI k h (Nat.le_refl _); omega, fun _ _ => .inr hz⟩
      · rw [show decide (((a + k : Nat) : Int) < (p.length : Int)) = false by simp; omega, andE_false]
        simp only [bsm, Bool.false_eq_true, if_false]
        have hkk : k = (p.drop a).length := by omega
        refine .inr ⟨_, rfl, k, rfl, by omega, fun m m1 m2 => hI m m1 (by omega), fun h => by omega, fun h => by have := hI k h (Nat.le_refl _); omega, fun _ _ => .inl hkk⟩)
    (((p.length : Int) - (w64 ((a : Int) + 0))).toNat + 1) 0 ⟨0, rfl, Nat.zero_le _, fun m m1 m2 => by omega⟩ (by rw [w64_in (by omega)]; omega)
  obtain ⟨k, rfl, hk⟩ := h2
  exact ⟨k, hk, h1⟩
theorem told_nil : told [] = [] := rfl
theorem all_eq {p : List Int} (hp : Bts p) (hl : p.length ≤ 1000000) : ∃ l, f_linotyperef04_All p = some l ∧ l.map (·.R) = told p ∧ l.length ≤ p.length := by
  unfold f_linotyperef04_All
  refine iter_invE (fun s => ∃ a : Nat, s.2 = (a : Int) ∧ a ≤ p.length ∧ s.1.length ≤ a ∧ s.1.map (·.R) ++ told (p.drop a) = told p) (fun s => p.length - s.2.toNat) (fun t => t.map (·.R) = told p ∧ t.length ≤ p.length) (fun s hs => ?_) ⟨0, rfl, Nat.zero_le _, Nat.le_refl _, rfl⟩ (by simp) (fun t ht => ⟨t, rfl, ht⟩)
  obtain ⟨out, n⟩ := s
  obtain ⟨a, e, ha, ho, hI⟩ := hs
  simp only at e ho hI
  subst e
  simp only
  by_cases hlt : a < p.length
  · rw [if_pos (dlt hlt)]
    obtain ⟨k, hk, hloop⟩ := part_loop hp hl hlt
    rw [hloop]
    simp only [bsm]
    have hcl : (p.drop a).length = p.length - a := by simp
    have hkle := hk.le
    rw [hcl] at hkle
    have htp := told_part hk (fun e => by have := congrArg List.length e; rw [hcl] at this; simp at this; omega)
    have hz : ∃ kn bad, (if (decide ((k : Int) > 0)) = true then
        (slc p (a : Int) (w64 ((a : Int) + (k : Int)))).bind fun x_66 =>
        (f_linotyperef03_Feed ([] : List Int) x_66).bind fun x_67 =>
        if ((x_67.2.length : Int) == 0) = true then
        (idx x_67.1 0).bind fun x_89 =>
        (some (x_89, (k : Int), (w64 ((a : Int) + (k : Int))), false) : Option (Int × Int × Int × Bool))
        else
        (some (65533, (imax (k : Int) 1), (imin (w64 ((w64 ((a : Int) + (k : Int))) + 1)) (p.length : Int)), true) : Option (Int × Int × Int × Bool))
        else
        (some (65533, (imax (k : Int) 1), (w64 ((a : Int) + 1)), true) : Option (Int × Int × Int × Bool))) = some ((if 0 < k then (if bg ((p.drop a).take k) = k then vl ((p.drop a).take k) else 65533) else 65533), ((max k 1 : Nat) : Int), kn, bad) := by
      by_cases h0 : 0 < k
      · rw [if_pos (by simpa using h0), if_pos h0]
        have e1 : w64 ((a : Int) + (k : Int)) = ((a + k : Nat) : Int) := by rw [w64_in (by omega)]; simp
        have hs := slc_eq (xs := p) (i := a) (j := a + k) (by omega) (by omega)
        rw [show a + k - a = k by omega] at hs
        rw [e1, hs]
        simp only [bsm]
        rw [feed_eq Hh.nil Bts.nil (fun x hx => hp x (List.mem_of_mem_drop (List.mem_of_mem_take hx))) (by simp; omega)]
        simp only [bsm]
        rcases part_feed hk h0 with ⟨hw, hf⟩ | ⟨hw, hf⟩
        · rw [hf, if_pos (by simp), if_pos hw]
          exact ⟨_, _, by rw [show max k 1 = k by omega]; rfl⟩
        · rw [hf, if_neg (by simp; omega), if_neg (by omega)]
          exact ⟨_, _, by rw [imax_eq, show max (k : Int) 1 = ((max k 1 : Nat) : Int) by omega]⟩
      · rw [if_neg (by simpa using h0), if_neg h0]
        exact ⟨_, _, by rw [imax_eq, show max (k : Int) 1 = ((max k 1 : Nat) : Int) by omega]⟩
    obtain ⟨kn, bad, hz⟩ := hz
    rw [hz]
    simp only [bsm]
    rw [app_eq (by simp; omega)]
    simp only [bsm]
    have e5 : w64 ((a : Int) + ((max k 1 : Nat) : Int)) = ((a + max k 1 : Nat) : Int) := by rw [w64_in (by omega)]; simp
    rw [e5]
    refine .inl ⟨_, rfl, ⟨a + max k 1, rfl, by omega, by simp; omega, ?_⟩, by simp only; omega⟩
    simp only [List.map_append, List.map_cons, List.map_nil, List.append_assoc, List.cons_append, List.nil_append]
    rw [← hI, htp, List.drop_drop]
  · rw [if_neg (by simp; omega)]
    refine .inr ⟨_, rfl, ?_, by omega⟩
    rw [List.drop_of_length_le (by omega), told_nil, List.append_nil] at hI
    exact hI
end Go.Proofs.Ytfhhpdggmefcoaa
