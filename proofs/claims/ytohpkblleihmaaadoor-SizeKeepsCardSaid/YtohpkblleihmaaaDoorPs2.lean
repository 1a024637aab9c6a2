/-
  Screens of other sizes, in plain Lean: SizeKeeps answers true. Conditions: lists are shorter than 2^63.
-/
import Derived.Test.YtohpkblleihmaaaDoorPs
import Derived.Test.YtohpkblleihmaaaDoorY1
namespace Go.Proofs.YtohpkblleihmaaaDoor
open Go Go.Lt
variable {s : Sto} {g k W : Nat} {ks : List Nat} {q : G_linotyperef34_Pen} {l : List G_api_Cell}

theorem rz_cut (l : List G_api_Cell) (hs : Snd l) {w : Nat} (h : l.length ≤ w) : (rz l w).take l.length = l := by
  refine List.ext_getElem? fun j => ?_
  rw [List.getElem?_take]
  split
  · rename_i hj
    rw [rz_get (by omega), List.getElem?_eq_getElem hj]
    unfold rzc
    rw [if_pos, List.getD_eq_getElem?_getD, List.getElem?_eq_getElem hj]
    · rfl
    · refine ⟨hj, ?_⟩
      by_cases e : j + 1 < w
      · exact .inl e
      · right
        intro h2
        have h3 := hs.two h2
        have := kd_lt (l := l) (j := j + 1) (by rw [h3]; decide)
        omega
  · rename_i hj
    rw [List.getElem?_eq_none (by omega)]
theorem u_mod (n : Int) (m : Nat) (hm : 1 ≤ m) (hm2 : m ≤ 1000) : ∃ W : Nat, w64 ((IntKind.u64.wrap n).tmod m) = (W : Int) ∧ 0 ≤ W ∧ W < m := by
  have h := wr_u64 n
  obtain ⟨u, hu⟩ : ∃ u : Nat, IntKind.u64.wrap n = (u : Int) := ⟨(IntKind.u64.wrap n).toNat, by omega⟩
  rw [hu]
  have e : (u : Int).tmod (m : Int) = ((u % m : Nat) : Int) := by rw [Int.tmod_eq_emod_of_nonneg (by omega)]; rfl
  have hlt : u % m < m := Nat.mod_lt _ (by omega)
  exact ⟨u % m, by rw [e, w64_in (by omega)], by omega, hlt⟩
theorem sizeKeeps_true (s : Sto) (x : G_linotypelaw35_Start) (hL : x.L.length ≤ 9223372036854775807) (n m : Int) : ∃ st, f_linotypelaw39_SizeKeeps s x n m = some (st, true) := by
  obtain ⟨L, c, au⟩ := x
  simp only at hL
  unfold f_linotypelaw39_SizeKeeps
  obtain ⟨t, hw, hw2⟩ := ref_wrong L hL
  obtain ⟨s1, h1⟩ := works39 s
  simp only
  rw [hw]
  simp only [bsm]
  rw [h1]
  simp only [bsm, Bool.not_true, orE_false]
  have hbig : ∀ (b : Option (Sto × Bool)), ((orE (decide ((L.length : Int) > 20)) (some ((L.length : Int) == 0))).bind fun d_31 =>
      (orE d_31 (some (decide (t.1 ≥ 0)))).bind fun d_46 => if d_46 = true then (f_linotypelaw39_works s1).bind fun x_53 => some (x_53.1, x_53.2) else b) =
      if 20 < L.length ∨ L.length = 0 ∨ 0 ≤ t.1 then (f_linotypelaw39_works s1).bind fun x_53 => some (x_53.1, x_53.2) else b := fun b => by
    simp only [orE_some, bsm]
    by_cases hC : 20 < L.length ∨ L.length = 0 ∨ 0 ≤ t.1
    · rw [if_pos hC, if_pos (by simp only [Bool.or_eq_true, decide_eq_true_eq, beq_iff_eq]; omega)]
    · rw [if_neg hC, if_neg (by simp only [Bool.or_eq_true, decide_eq_true_eq, beq_iff_eq]; omega)]
  rw [hbig]
  by_cases hC : 20 < L.length ∨ L.length = 0 ∨ 0 ≤ t.1
  · rw [if_pos hC]
    obtain ⟨s2, h2⟩ := works39 s1
    rw [h2]
    exact ⟨_, rfl⟩
  rw [if_neg hC]
  have hok : Lok L := by
    rcases hw2 with h | h
    · exact absurd h (by omega)
    · exact h.2
  obtain ⟨s2, ks, e1, v⟩ := start (by omega) (by omega) hok s1 c au
  rw [e1]
  simp only [bsm, Er.isNil, Bool.not_true, Bool.false_eq_true, if_false]
  have h0 : idx L (0 : Int) = some (L[0]'(by omega)) := idx_at (i := 0) (by omega)
  rw [h0]
  simp only [bsm]
  have hok0 := hok 0 (by omega)
  generalize hk : s2.place_Pen.length = k at *
  generalize s1.grid_Grid.length = g at *
  generalize hW : (L[0]'(by omega)).Cells.length = W at *
  rw [show (⟨c.Row, c.Col, c.Pending⟩ : G_api_Cursor) = c from rfl]
  generalize s2.add_place_Pen ⟨some g, c, au⟩ = s3 at *
  obtain ⟨a, ha, ha1, ha2⟩ := u_mod n 10 (by decide) (by decide)
  obtain ⟨b, hb, hb1, hb2⟩ := u_mod m 10 (by decide) (by decide)
  rw [show ((10 : Nat) : Int) = 10 from rfl] at ha hb
  rw [ha, hb, w64_in (by omega), w64_in (by omega)]
  obtain ⟨s4, q4, g4, ks4, b1, b2, v4, b3⟩ := size_eq v ((W : Int) + (a : Int)) ((L.length : Int) + (b : Int))
  rw [b1]
  simp only [bsm, v4.p]
  rw [grid_lines v4.g, v4.l]
  simp only [bsm]
  have hsw : W ≤ sd ((W : Int) + (a : Int)) := by unfold sd; omega
  have hsh : L.length ≤ sd ((L.length : Int) + (b : Int)) := by unfold sd; omega
  have htp : tp (hc c W ks.length) (sd ((L.length : Int) + (b : Int))) = 0 := by
    have := (hc_hd c v.g.w1 v.g.h1).rr
    have hl := v.len
    simp only at hl
    unfold tp
    omega
  have hb3 := b3
  simp only [htp] at hb3
  rw [hb3]
  have hsd := sd_in ((L.length : Int) + (b : Int))
  generalize sd ((L.length : Int) + (b : Int)) = hh at *
  generalize sd ((W : Int) + (a : Int)) = ww at *
  have hrl : (rs L 0 ww hh).length = hh := by simp [rs]
  obtain ⟨t, e1, e2⟩ := iter_for (σ := Int) (τ := (Sto × Bool) ⊕ Unit) (n := (rs L 0 ww hh).length) (fuel := (((rs L 0 ww hh).length : Int) - 0).toNat + 1) (s := 0)
    (fun i q => q = (i : Int)) (fun t => t = .inr ())
    (step := fun s_92 =>
  if (decide (s_92 < ((rs L 0 ww hh).length : Int))) = true then
  (idx (rs L 0 ww hh) s_92).bind fun x_100 =>
  (orE x_100.Wrap ((andE (decide (s_92 < (L.length : Int))) ((idx (rs L 0 ww hh) s_92).bind fun x_114 =>
  (slc x_114.Cells 0 (W : Int)).bind fun x_118 =>
  (idx L s_92).bind fun x_122 =>
  (f_linotyperef23_Same x_118 x_122.Cells).bind fun x_125 =>
  some (!x_125))).bind fun d_110 =>
  some d_110)).bind fun d_103 =>
  if d_103 = true then
  some (.inr (.inl (s4, false)))
  else
  some (.inl ((w64 (s_92 + 1))))
  else
  some (.inr (.inr ())))
    (fun i q hi e => by
      subst e
      refine .inl ⟨_, ?_, rfl⟩
      have e5 : w64 ((i : Int) + 1) = ((i + 1 : Nat) : Int) := by rw [w64_in (by omega)]; simp
      have hd : decide ((i : Int) < ((rs L 0 ww hh).length : Int)) = true := by simp; exact hi
      have hget : (rs L 0 ww hh)[i] = ⟨rz (cs L i) ww, false⟩ := by simp [rs]
      simp only [hd, if_true, idx_at hi, bsm, e5, hget, orE_false]
      by_cases hiL : i < L.length
      · have hoki := hok i hiL
        have hcw : L[i].Cells.length = W := by rw [hoki.2.2.2]; exact hW
        rw [show decide ((i : Int) < (L.length : Int)) = true by simpa using hiL, andE_true, cs_at hiL, show (0 : Int) = ((0 : Nat) : Int) from rfl, slc_eq (Nat.zero_le _) (by rw [rz_len]; exact hsw), List.drop_zero, Nat.sub_zero]
        simp only [bsm, idx_at hiL]
        rw [show (rz L[i].Cells ww).take W = L[i].Cells by rw [← hcw]; exact rz_cut _ hoki.2.2.1 (by omega), same_self (by omega) hoki.2.2.1.sht]
        rfl
      · rw [show decide ((i : Int) < (L.length : Int)) = false by simpa using hiL]
        rfl)
    (fun q e => ⟨_, by subst e; simp, rfl⟩)
    rfl (by omega)
  subst e2
  rw [e1]
  simp only [bsm]
  rw [show decide (((rs L 0 ww hh).length : Int) ≥ (L.length : Int)) = true by rw [hrl]; simp; omega]
  exact ⟨_, rfl⟩
end Go.Proofs.YtohpkblleihmaaaDoor
