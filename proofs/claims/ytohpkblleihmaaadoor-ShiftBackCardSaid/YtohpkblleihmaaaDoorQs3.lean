/-
  What was put in is taken out, in plain Lean: ShiftBack answers true. Conditions: lists are shorter than 2^63.
-/
import Derived.Test.YtohpkblleihmaaaDoorQs2
import Derived.Test.YtohpkblleihmaaaDoorS3
namespace Go.Proofs.YtohpkblleihmaaaDoor
open Go Go.Lt
variable {s : Sto} {k : Nat} {l p : List G_api_Cell} {w : Bool}

theorem getD_lt {l : List G_api_Cell} {i : Nat} (h : i < l.length) : l.getD i bl = l[i] := by
  rw [List.getD_eq_getElem?_getD, List.getElem?_eq_getElem h]
  rfl
theorem insl_c {c e i : Nat} (hi : i < l.length) (h1 : c ≤ i) (h2 : i < c + e) : (insl l c e)[i]? = some bl := by
  have hx : inx l c e i = bl := by
    unfold inx
    rw [if_neg (by omega), if_pos h2]
  rw [insl_get hi]
  unfold ins1
  rw [hx]
  split <;> rfl
theorem back_at (hs : Snd l) {c e i : Nat} (hc : c < l.length) (h1 : 1 ≤ e) (h2 : c + e ≤ l.length) (h3 : kd l c ≠ 3) (hi : i < l.length) :
    (dell (insl l c e) c e)[i]? = some (if l.length - e ≤ i ∨ (i + 1 = l.length - e ∧ kd l i = 2) then bl else l[i]) := by
  have hml : (insl l c e).length = l.length := insl_len l c e
  have htr : tr l c = l := tr_no h3
  have hix : ∀ j, j < l.length → (inx l c e j).Kind = if j < c then kd l j else if j < c + e then 0 else kd l (j - e) := fun j hj => by rw [inx_kd, htr]
  have k1 : kd (insl l c e) c ≠ 3 := by
    have hx := hix c hc
    rw [if_neg (by omega : ¬ c < c), if_pos (by omega)] at hx
    rw [kd_insl l c e c hc, hx]
    split <;> decide
  have k2 : kd (insl l c e) (c + e) ≠ 3 := by
    rcases Nat.lt_or_ge (c + e) l.length with q | q
    · have hx := hix (c + e) q
      rw [if_neg (by omega), if_neg (by omega), show c + e - e = c by omega] at hx
      rw [kd_insl l c e (c + e) q, hx]
      split
      · decide
      · exact h3
    · rw [kd_out (by omega)]; decide
  have htt : tt (insl l c e) c e = insl l c e := by
    unfold tt
    rw [tr_no k1, tr_no k2]
  rw [dell_get (by omega)]
  unfold dlx
  rw [htt, hml]
  congr 1
  by_cases q : i < c
  · have hx : inx l c e i = l[i] := by
      unfold inx
      rw [htr, if_pos q, getD_lt hi]
    have hne : ¬ (l.length - e ≤ i ∨ (i + 1 = l.length - e ∧ kd l i = 2)) := by
      rintro (r | ⟨r1, r2⟩)
      · omega
      · have := hs.two r2
        rw [show i + 1 = c by omega] at this
        exact h3 this
    rw [if_pos q, if_neg hne, List.getD_eq_getElem?_getD, insl_get hi]
    show ins1 l c e i = _
    unfold ins1
    rw [hx, if_neg (by omega)]
  · rw [if_neg q]
    by_cases r : i + e < l.length
    · have hx : inx l c e (i + e) = l[i] := by
        unfold inx
        rw [htr, if_neg (by omega), if_neg (by omega), show i + e - e = i by omega, getD_lt hi]
      rw [if_pos r, List.getD_eq_getElem?_getD, insl_get r]
      show ins1 l c e (i + e) = _
      unfold ins1
      rw [hx, ← kd_at hi]
      by_cases hz : i + e + 1 = l.length ∧ kd l i = 2
      · rw [if_pos hz, if_pos (.inr ⟨by omega, hz.2⟩)]
      · rw [if_neg hz, if_neg (by omega)]
    · rw [if_neg r, if_pos (.inl (by omega))]

theorem shiftBack_true (s : Sto) (l : List G_api_Cell) (hl : l.length ≤ 9223372036854775807) (col n : Int) : ∃ s', f_linotypelaw27_ShiftBack s l col n = some (s', true) := by
  obtain ⟨s1, h1⟩ := works27 s
  obtain ⟨s2, h2⟩ := works27 s1
  unfold f_linotypelaw27_ShiftBack
  rw [h1]
  simp only [bsm, Bool.not_true, orE_false]
  by_cases hlen : l.length ≤ 100 ∧ 1 ≤ l.length
  · have c1 : decide ((l.length : Int) > 100) = false := by simp; omega
    have c2 : ((l.length : Int) == 0) = false := by rw [beq_eq_false_iff_ne]; omega
    obtain ⟨t, h3, h4⟩ := ref_sound l (by omega)
    simp only [c1, c2, orE_false, bsm, h3, orE_some]
    by_cases hg : t = true ∧ mvs col n l.length = true
    · obtain ⟨rfl, hm⟩ := hg
      have hm' := hm
      simp only [mvs, Bool.and_eq_true, decide_eq_true_eq] at hm'
      rw [if_neg (by simp only [Bool.or_eq_true, decide_eq_true_eq, Bool.not_true, Bool.false_eq_true, false_or]; omega)]
      have hs : Snd l := h4.1 rfl
      obtain ⟨c, e, rfl, he, g1, g2, g3⟩ := mvs_in hm
      rw [idx_at g1]
      simp only [bsm]
      by_cases hk : kd l c = 3
      · rw [if_pos (by rw [← kd_at g1, hk]; rfl)]
        exact ⟨_, rfl⟩
      · have e1 : imin n (w64 ((l.length : Int) - (c : Int))) = (e : Int) := by rw [w64_in (by omega), imin_eq]; exact he
        have e2 : w64 ((c : Int) + (e : Int)) = ((c + e : Nat) : Int) := by rw [w64_in (by omega)]; simp
        have e3 : w64 ((l.length : Int) - (e : Int)) = ((l.length - e : Nat) : Int) := by rw [w64_in (by omega)]; omega
        rw [if_neg (by rw [← kd_at g1]; simp [hk]), row_of (by omega) (by omega) hs]
        simp only [bsm, Er.isNil, Bool.not_true, Bool.false_eq_true, if_false, e1, e2, e3]
        rw [shift_ins (add_get _ _) hs (by omega), add_sr]
        simp only [bsm]
        have hmc : mvs (c : Int) (e : Int) l.length = true := by simp only [mvs, Bool.and_eq_true, decide_eq_true_eq]; omega
        have hish : ish l false (c : Int) (e : Int) = ⟨insl l c e, false⟩ := by
          unfold ish
          rw [if_pos hmc, Int.toNat_natCast, show (min (e : Int) ((l.length : Int) - (c : Int))).toNat = e by omega]
        rw [hish]
        have hms : Snd (insl l c e) := insl_snd hs c e
        have hml : (insl l c e).length = l.length := insl_len l c e
        have hrow := add_get s1 ⟨insl l c e, false⟩
        refine iter_forL (n := e) (fun i q => q = ((c + i : Nat) : Int)) (fun t => t = .inr ()) ?_ ?_ (by simp) (by omega) ?_
        · rintro i q hi rfl
          refine .inl ⟨((c + (i + 1) : Nat) : Int), ?_, rfl⟩
          have hd : decide (((c + i : Nat) : Int) < ((c + e : Nat) : Int)) = true := by simp only [decide_eq_true_eq]; omega
          have hb : (insl l c e)[c + i]'(by omega) = bl := by
            have := insl_c (c := c) (e := e) (by omega : c + i < l.length) (by omega) (by omega)
            rw [List.getElem?_eq_getElem (by omega : c + i < (insl l c e).length)] at this
            exact Option.some.inj this
          simp only [hd, if_true]
          rw [row_cell hrow (by omega) hms.sht, hb]
          simp only [bsm]
          rw [w64_in (by omega)]
          rfl
        · rintro q rfl
          refine ⟨.inr (), ?_, rfl⟩
          rw [if_neg (by simp)]
        · rintro t rfl
          simp only
          rw [shift_del hrow hms (by omega), add_sr]
          simp only [bsm]
          have hdsh : dsh (insl l c e) false (c : Int) (e : Int) = ⟨dell (insl l c e) c e, false⟩ := by
            unfold dsh
            rw [hml, if_pos hmc, Int.toNat_natCast, show (min (e : Int) ((l.length : Int) - (c : Int))).toNat = e by omega]
          rw [hdsh]
          have hds : Snd (dell (insl l c e) c e) := dell_snd hms c e
          have hdl : (dell (insl l c e) c e).length = l.length := by rw [dell_len]; exact hml
          have hrow2 := add_get s1 ⟨dell (insl l c e) c e, false⟩
          refine iter_forL (n := l.length) (fun i q => q = ((i : Nat) : Int)) (fun t => t = .inr ()) ?_ ?_ rfl (by omega) ?_
          · rintro i q hi rfl
            refine .inl ⟨((i + 1 : Nat) : Int), ?_, rfl⟩
            have hb : (dell (insl l c e) c e)[i]'(by omega) = if l.length - e ≤ i ∨ (i + 1 = l.length - e ∧ kd l i = 2) then bl else l[i] := by
              have := back_at hs g1 g2 g3 hk hi
              rw [List.getElem?_eq_getElem (by omega : i < (dell (insl l c e) c e).length)] at this
              exact Option.some.inj this
            simp only [dlt hi, if_true, w64_succ hi (by omega), idx_at hi, bsm, andE_some]
            rw [row_cell hrow2 (by omega) hds.sht, hb]
            simp only [bsm]
            have hz : ((orE (decide ((i : Int) ≥ ((l.length - e : Nat) : Int))) (some ((((i + 1 : Nat) : Int) == ((l.length - e : Nat) : Int)) && (l[i].Kind == 2)))).bind fun d => if d = true then (some (0, ([] : List Int)) : Option (Int × (List Int))) else (some (l[i].Kind, l[i].Text) : Option (Int × (List Int)))) =
                some ((if l.length - e ≤ i ∨ (i + 1 = l.length - e ∧ kd l i = 2) then bl else l[i]).Kind, (if l.length - e ≤ i ∨ (i + 1 = l.length - e ∧ kd l i = 2) then bl else l[i]).Text) := by
              rw [orE_some]
              simp only [bsm]
              by_cases hq : l.length - e ≤ i ∨ (i + 1 = l.length - e ∧ kd l i = 2)
              · rw [if_pos (by simp only [Bool.or_eq_true, Bool.and_eq_true, decide_eq_true_eq, beq_iff_eq, ← kd_at hi]; omega), if_pos hq]
                rfl
              · rw [if_neg (by simp only [Bool.or_eq_true, Bool.and_eq_true, decide_eq_true_eq, beq_iff_eq, ← kd_at hi]; omega), if_neg hq]
            rw [hz]
            simp only [bsm]
            have hsm : ∀ x : G_api_Cell, rgt x = true → f_linotyperef23_Same [x] [(⟨x.Kind, x.Text⟩ : G_api_Cell)] = some true := fun x hx => by
              refine same_self (by simp) fun j hj => ?_
              simp only [List.length_cons, List.length_nil] at hj
              obtain rfl : j = 0 := by omega
              have hx2 : x.Text.length ≤ 16 := by
                unfold rgt at hx
                split at hx
                · simp_all
                · simp only [Bool.and_eq_true, decide_eq_true_eq] at hx
                  omega
              show x.Text.length ≤ 1000000
              omega
            rw [hsm _ (by split; exact rgt_bl; exact (hs i hi).1)]
            rfl
          · rintro q rfl
            refine ⟨.inr (), ?_, rfl⟩
            rw [if_neg (by simp)]
          · rintro t rfl
            exact ⟨_, rfl⟩
    · rw [if_pos]
      · simp only [h2, bsm]
        exact ⟨s2, rfl⟩
      · by_cases ht : t = true
        · subst ht
          have hm : ¬ mvs col n l.length = true := fun h => hg ⟨rfl, h⟩
          simp only [mvs, Bool.and_eq_true, decide_eq_true_eq] at hm
          simp only [Bool.or_eq_true, decide_eq_true_eq, Bool.not_true, Bool.false_eq_true, false_or]
          omega
        · simp only [Bool.not_eq_true] at ht
          simp [ht]
  · by_cases c1 : (l.length : Int) > 100
    · simp only [c1, decide_true, orE_true, bsm, if_true, h2]
      exact ⟨s2, rfl⟩
    · have c2 : ((l.length : Int) == 0) = true := by rw [beq_iff_eq]; omega
      simp only [c1, c2, decide_false, orE_false, orE_true, bsm, if_true, h2]
      exact ⟨s2, rfl⟩
end Go.Proofs.YtohpkblleihmaaaDoor
