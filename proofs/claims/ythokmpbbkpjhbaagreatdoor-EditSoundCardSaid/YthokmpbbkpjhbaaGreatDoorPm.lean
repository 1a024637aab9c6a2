/-
  Pens that put clusters, in plain Lean. Conditions: each lemma's own.
-/
import Derived.Test.YthokmpbbkpjhbaaGreatDoorPl
namespace Go.Proofs.YthokmpbbkpjhbaaGreatDoor
open Go Go.Lt

/-- The cursor behind a cluster. -/
def ca (c : G_api_Cursor) (d W : Nat) (au : Bool) : G_api_Cursor := if c.Col < (W : Int) - d then ⟨c.Row, c.Col + d, false⟩ else ⟨c.Row, (W : Int) - 1, au⟩
theorem cur_after (c : G_api_Cursor) {d W : Nat} (hd : d = 1 ∨ d = 2) (w1 : 1 ≤ W) (w2 : W ≤ 1024) (hc : 0 ≤ c.Col ∧ c.Col < (W : Int)) (au : Bool) : f_cursor_After c d W au = some (ca c d W au) := by
  unfold f_cursor_After ca
  rw [cur_side w1 w2]
  simp only [bsm, imax_eq, imin_eq]
  rw [show max (1 : Int) (min (d : Int) 2) = (d : Int) by omega, w64_in (by omega), w64_in (by omega), w64_in (by omega)]
  by_cases h : c.Col < (W : Int) - d
  · rw [if_pos (by simpa using h), if_pos h]
  · rw [if_neg (by simpa using h), if_neg h]
theorem ref_after (c : G_api_Cursor) {d W : Nat} (hd : d = 1 ∨ d = 2) (w1 : 1 ≤ W) (w2 : W ≤ 1024) (hc : 0 ≤ c.Col ∧ c.Col < (W : Int)) (au : Bool) : f_linotyperef31_After c d W au = some (ca c d W au) := by
  unfold f_linotyperef31_After ca
  have hz : (if decide ((d : Int) > 1) = true then (some 2 : Option Int) else some 1) = some (d : Int) := by
    rcases hd with rfl | rfl <;> rfl
  rw [hz]
  simp only [bsm]
  rw [ref_side w1 w2]
  simp only [bsm]
  rw [w64_in (by omega), w64_in (by omega), w64_in (by omega)]
  by_cases h : c.Col < (W : Int) - d
  · rw [if_neg (by simp; omega), if_pos h]
  · rw [if_pos (by simp; omega), if_neg h]
variable {s C : Sto} {g k W : Nat} {ks : List Nat} {q : G_linotyperef34_Pen}
theorem ca_hd {c : G_api_Cursor} {d h : Nat} (hd : d = 1 ∨ d = 2) (w1 : 1 ≤ W) (hc : 0 ≤ c.Col ∧ c.Col < (W : Int)) (hr : 0 ≤ c.Row ∧ c.Row < (h : Int)) (au : Bool) : Hd (ca c d W au) W h := by
  unfold ca
  by_cases h : c.Col < (W : Int) - d
  · rw [if_pos h]
    exact ⟨hr, by simp only; omega, fun e => by cases e⟩
  · rw [if_neg h]
    exact ⟨hr, by simp only; omega, fun _ => rfl⟩
theorem strip_d (d : Nat) (hd : d = 1 ∨ d = 2) (t : List Int) : (strip (d : Int) t).length = d := by
  unfold strip
  rcases hd with rfl | rfl <;> (repeat' split) <;> first | rfl | (exfalso; omega)

/-- What GoOn leaves, or what was, as fields. -/
def fld (q : G_linotyperef34_Pen) : (List G_api_Line) × Int × Int × Bool × Bool := (q.L, q.At.Row, q.At.Col, q.At.Pending, q.Auto)
def bk5 (z : (List G_api_Line) × Int × Int × Bool × Bool) : G_linotyperef34_Pen := ⟨z.1, ⟨z.2.1, z.2.2.1, z.2.2.2.1⟩, z.2.2.2.2⟩
def rp1 (q : G_linotyperef34_Pen) : Option ((List G_api_Line) × Int × Int × Bool × Bool) :=
  if q.At.Pending = true then
  (f_linotyperef34_Pen_GoOn q).bind fun x_34 =>
  (some (x_34.L, x_34.At.Row, x_34.At.Col, x_34.At.Pending, x_34.Auto) : Option ((List G_api_Line) × Int × Int × Bool × Bool))
  else
  (some (q.L, q.At.Row, q.At.Col, q.At.Pending, q.Auto) : Option ((List G_api_Line) × Int × Int × Bool × Bool))
def rp2 (d W : Int) (z_28 : (List G_api_Line) × Int × Int × Bool × Bool) : Option ((List G_api_Line) × Int × Int × Bool × Bool) :=
  (andE (d == 2) (some (z_28.2.2.1 == (w64 (W - 1))))).bind fun d_40 =>
  if d_40 = true then
  if z_28.2.2.2.2 = true then
  (rep 1 (⟨0, ([] : List Int)⟩ : G_api_Cell)).bind fun x_58 =>
  (f_linotyperef34_Pen_Paint (⟨z_28.1, (⟨z_28.2.1, z_28.2.2.1, z_28.2.2.2.1⟩ : G_api_Cursor), z_28.2.2.2.2⟩ : G_linotyperef34_Pen) z_28.2.1 (w64 (W - 1)) x_58).bind fun x_59 =>
  (f_linotyperef34_Pen_GoOn x_59).bind fun x_60 =>
  (some (x_60.L, x_60.At.Row, x_60.At.Col, x_60.At.Pending, x_60.Auto) : Option ((List G_api_Line) × Int × Int × Bool × Bool))
  else
  (some (z_28.1, z_28.2.1, (w64 (W - 2)), z_28.2.2.2.1, z_28.2.2.2.2) : Option ((List G_api_Line) × Int × Int × Bool × Bool))
  else
  (some (z_28.1, z_28.2.1, z_28.2.2.1, z_28.2.2.2.1, z_28.2.2.2.2) : Option ((List G_api_Line) × Int × Int × Bool × Bool))
def cp1 (s : Sto) (p0 : Option Nat) : Option Sto :=
  (p0).bind fun k_3 =>
  (s.place_Pen[k_3]?).bind fun o_6 =>
  if o_6.At.Pending = true then
  (f_place_Pen_goOn s p0).bind fun x_9 =>
  (some (x_9) : Option (Sto))
  else
  (some (s) : Option (Sto))
theorem room1 (h : Pv C s k g W q ks) (hd : Hd q.At W ks.length) : ∃ s' q' ks', cp1 s (some k) = some s' ∧ rp1 q = some (fld q') ∧ Pv C s' k g W q' ks' ∧ ks'.length = ks.length ∧ Hd q'.At W ks.length ∧ q'.Auto = q.Auto ∧ q'.At.Pending = false := by
  unfold cp1 rp1
  simp only [bsm, h.p]
  cases hp : q.At.Pending with
  | false =>
    simp only [Bool.false_eq_true, if_false]
    exact ⟨s, q, ks, rfl, by unfold fld; rw [hp], h, rfl, hd, rfl, hp⟩
  | true =>
    simp only [if_true]
    obtain ⟨s', q', ks', a1, a2, a3, a4, a5, a6, a7, a8⟩ := goon_eq h hd.rr
    rw [a1, a2]
    exact ⟨s', q', ks', rfl, rfl, a3, a4, a5, a8, a6⟩
theorem room_eq (h : Pv C s k g W q ks) (hd : Hd q.At W ks.length) {d : Nat} (hdd : d = 1 ∨ d = 2) (hdw : d ≤ W) :
    ∃ s' q' ks' z, f_place_Pen_room s (some k) d = some s' ∧ rp1 q = some z ∧ rp2 d W z = some (fld q') ∧ Pv C s' k g W q' ks' ∧ ks'.length = ks.length ∧ (0 ≤ q'.At.Row ∧ q'.At.Row < (ks.length : Int)) ∧ (0 ≤ q'.At.Col ∧ q'.At.Col + d ≤ (W : Int)) ∧ q'.Auto = q.Auto := by
  obtain ⟨s1, q1, ks1, a1, a2, v1, n1, hd1, au1, pe1⟩ := room1 h hd
  have w1 := h.g.w1
  have w2 := h.g.w2
  have hcc := hd1.cc
  unfold f_place_Pen_room
  change ∃ s' q' ks' z, ((cp1 s (some k)).bind _) = some s' ∧ _
  rw [a1]
  simp only [bsm, v1.p]
  rw [grid_wide v1.g]
  simp only [bsm, orE_some]
  have e1 : w64 ((W : Int) - 1) = ((W - 1 : Nat) : Int) := by rw [w64_in (by omega)]; omega
  have e2 : w64 ((W : Int) - 2) = (W : Int) - 2 := w64_in (by omega)
  rw [e1]
  unfold rp2
  by_cases hA : d = 1 ∨ q1.At.Col < (W : Int) - 1
  · rw [if_pos (by simp only [Bool.or_eq_true, beq_iff_eq, decide_eq_true_eq]; omega)]
    refine ⟨s1, q1, ks1, _, rfl, a2, ?_, v1, n1, hd1.rr, by omega, au1⟩
    simp only [fld, andE_some, bsm, e1]
    rw [if_neg (by simp only [Bool.and_eq_true, beq_iff_eq]; omega)]
  · rw [if_neg (by simp only [Bool.or_eq_true, beq_iff_eq, decide_eq_true_eq]; omega)]
    have hd2 : d = 2 := by omega
    have hcol : q1.At.Col = (W : Int) - 1 := by omega
    obtain ⟨i, hi⟩ : ∃ i : Nat, q1.At.Row = (i : Int) := ⟨q1.At.Row.toNat, by have := hd1.rr; omega⟩
    have hik : i < ks1.length := by have := hd1.rr; omega
    cases hau : q1.Auto with
    | true =>
      simp only [if_true]
      rw [hi, grid_row v1.g hik]
      simp only [bsm]
      rw [show f_cell_Blanks 1 = some [bl] from blanks 1]
      simp only [bsm]
      obtain ⟨s2, q2, b1, b2, v2, at2, au2, _⟩ := paint_eq (p := [bl]) (a := W - 1) v1 hik (snd_bl 1) (by decide) (by simp; omega)
      rw [b1]
      simp only [bsm]
      obtain ⟨s3, q3, ks3, c1, c2, v3, n3, hd3, pe3, co3, au3⟩ := goon_eq v2 (by rw [at2, n1]; exact hd1.rr)
      rw [c1]
      refine ⟨s3, q3, ks3, _, rfl, a2, ?_, v3, n3.trans n1, by rw [← n1]; exact hd3.rr, by rw [co3]; omega, by rw [au3, au2, au1]⟩
      simp only [fld, andE_some, bsm, e1]
      rw [if_pos (by simp only [Bool.and_eq_true, beq_iff_eq]; omega)]
      simp only [hau, if_true]
      rw [rep_eq _ (by decide), hi]
      simp only [bsm]
      rw [show (List.replicate (1 : Int).toNat (⟨0, []⟩ : G_api_Cell)) = [bl] from rfl]
      have b2' : f_linotyperef34_Pen_Paint ⟨q1.L, ⟨(i : Int), q1.At.Col, q1.At.Pending⟩, true⟩ i ((W - 1 : Nat) : Int) [bl] = some q2 := by rw [← hi, ← hau]; rw [← hi] at b2; exact b2
      rw [b2']
      simp only [bsm]
      rw [c2]
      rfl
    | false =>
      simp only [Bool.false_eq_true, if_false]
      rw [set_pen (get_lt v1.p)]
      simp only [bsm]
      have e3 : w64 (q1.At.Col - 1) = (W : Int) - 2 := by rw [w64_in (by omega)]; omega
      have v2 := v1.set ⟨q1.At.Row, (W : Int) - 2, q1.At.Pending⟩ q1.Auto
      rw [hau] at v2
      rw [e3]
      refine ⟨_, _, ks1, _, rfl, a2, ?_, v2, n1, hd1.rr, by simp only; omega, by simp only; rw [← hau]; exact au1⟩
      simp only [fld, andE_some, bsm, e1, e2]
      rw [if_pos (by simp only [Bool.and_eq_true, beq_iff_eq]; omega)]
      simp only [hau, Bool.false_eq_true, if_false]

/-- The cluster as it is put. -/
def cl2 (p1 : Int) (t : List Int) (W : Nat) : Nat × List Int := if max 1 (min p1 2) > (W : Int) then (1, [65533]) else ((max 1 (min p1 2)).toNat, t)
theorem cl2_d (p1 : Int) (t : List Int) (w1 : 1 ≤ W) : ((cl2 p1 t W).1 = 1 ∨ (cl2 p1 t W).1 = 2) ∧ (cl2 p1 t W).1 ≤ W := by
  unfold cl2
  split
  · exact ⟨.inl rfl, w1⟩
  · simp only
    omega
theorem cl2_eq (p1 : Int) (t : List Int) : (if (decide ((imax 1 (imin p1 2)) > (W : Int))) = true then (some (1, ([65533] : List Int)) : Option (Int × (List Int))) else (some ((imax 1 (imin p1 2)), t) : Option (Int × (List Int)))) = some (((cl2 p1 t W).1 : Int), (cl2 p1 t W).2) := by
  rw [imin_eq, imax_eq]
  unfold cl2
  by_cases h : max 1 (min p1 2) > (W : Int)
  · rw [if_pos (by simpa using h), if_pos h]
    rfl
  · rw [if_neg (by simpa using h), if_neg h]
    simp only
    rw [Int.toNat_of_nonneg (by omega)]
theorem put_eq (h : Pv C s k g W q ks) (p1 : Int) (t : List Int) (ht : t.length ≤ 1000000) : ∃ (s' : Sto) (q' : G_linotyperef34_Pen) (ks' : List Nat) (i a : Nat), i < ks.length ∧ f_place_Pen_Put s (some k) p1 t = some (s', ⟨(i : Int), (a : Int), false⟩) ∧ f_linotyperef34_Pen_Put q p1 t = some (q', ⟨(i : Int), (a : Int), false⟩) ∧
    Pv C s' k g W q' ks' ∧ ks'.length = ks.length ∧ Hd q'.At W ks.length ∧ q'.Auto = q.Auto ∧ a + (cl2 p1 t W).1 ≤ W ∧
    ∃ l0 w0, l0.length = W ∧ q'.L[i]? = some ⟨pl l0 a (strip (cl2 p1 t W).1 (fx (cl2 p1 t W).2)), w0⟩ := by
  have hl : (cl2 p1 t W).2.length ≤ 1000000 := by unfold cl2; split <;> simp; exact ht
  obtain ⟨hdd, hdw⟩ := cl2_d p1 t h.g.w1
  have hce := cl2_eq (W := W) p1 t
  have w1 := h.g.w1
  have w2 := h.g.w2
  have h1 := h.set (hc q.At W ks.length) q.Auto
  have hd := hc_hd q.At h.g.w1 h.g.h1
  unfold f_place_Pen_Put f_linotyperef34_Pen_Put
  rw [pen_ready h, ref_Hold h]
  generalize hc q.At W ks.length = c at *
  simp only [bsm, Bool.not_true, Bool.false_eq_true, if_false, h1.p]
  rw [grid_wide h1.g, ref_wide h1]
  simp only [bsm]
  rw [hce]
  generalize (cl2 p1 t W).2 = t2 at *
  generalize (cl2 p1 t W).1 = d at *
  simp only [bsm]
  obtain ⟨s2, q2, ks2, z, a1, a2, a3, v2, n2, hr, hcl, au⟩ := room_eq h1 hd hdd hdw
  rw [a1]
  obtain ⟨i, hi⟩ : ∃ i : Nat, q2.At.Row = (i : Int) := ⟨q2.At.Row.toNat, by omega⟩
  obtain ⟨a, ha⟩ : ∃ a : Nat, q2.At.Col = (a : Int) := ⟨q2.At.Col.toNat, by omega⟩
  have hik : i < ks2.length := by omega
  obtain ⟨L2, ⟨row2, col2, pd2⟩, ua2⟩ := q2
  simp only at hi ha hr hcl au
  subst hi ha
  simp only [bsm, v2.p]
  rw [grid_row v2.g hik]
  simp only [bsm]
  unfold f_mark_Put
  rw [cell_of _ _ (by omega)]
  simp only [bsm]
  have hsl := strip_d d hdd (fx t2)
  obtain ⟨s3, q3, b1, b2, v3, at3, au3, l3⟩ := paint_eq (p := strip d (fx t2)) (a := a) v2 hik (snd_fx _ _) (by rw [hsl]; omega) (by rw [hsl]; omega)
  rw [b1]
  simp only [bsm, v3.p]
  rw [grid_wide v3.g]
  simp only [bsm]
  have hc2 : 0 ≤ (⟨(i : Int), (a : Int), false⟩ : G_api_Cursor).Col ∧ (⟨(i : Int), (a : Int), false⟩ : G_api_Cursor).Col < (W : Int) := by simp only; omega
  rw [cur_after _ hdd w1 w2 hc2]
  simp only [bsm]
  rw [set_pen (get_lt v3.p)]
  simp only [bsm]
  have v4 := v3.set (ca ⟨(i : Int), (a : Int), false⟩ d W q3.Auto) q3.Auto
  change ∃ s' q' ks' i_1 a_1, _ ∧ _ ∧ ((rp1 ⟨q.L, c, q.Auto⟩).bind fun z_28 => (rp2 d W z_28).bind _) = _ ∧ _
  rw [a2]
  simp only [bsm]
  rw [a3]
  simp only [fld, bsm]
  rw [ref_of _ _ (by omega)]
  simp only [bsm]
  rw [b2]
  simp only [bsm]
  rw [ref_after _ hdd w1 w2 hc2]
  simp only [bsm]
  refine ⟨_, _, ks2, i, a, by omega, rfl, rfl, v4, n2, ca_hd hdd w1 hc2 (by simp only; omega) _, by simp only; rw [au3, au], by omega, (ln s2 ks2[i]).Cells, pw (ln s2 ks2[i]).Cells (ln s2 ks2[i]).Wrap a (strip d (fx t2)).length, ?_, ?_⟩
  · have := v2.ok _ (List.getElem_mem (show i < L2.length by have := v2.len; simp only at this; omega))
    rw [v2.at hik] at this
    exact this.2
  · simp only
    rw [l3, List.getElem?_set_self (by have := v2.len; simp only at this ⊢; omega)]
end Go.Proofs.YthokmpbbkpjhbaaGreatDoor
