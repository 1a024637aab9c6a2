/-
  Rectangles filled, in plain Lean; BlitBack answers true. Conditions: lists are shorter than 2^63.
-/
import Derived.Test.YtohpkblleihmaaaDoorBp
import Derived.Test.YtohpkblleihmaaaDoorB1
namespace Go.Proofs.YtohpkblleihmaaaDoor
open Go Go.Lt
variable {s : Sto} {g k W : Nat} {ks : List Nat} {l p : List G_api_Cell} {L P : List G_api_Line}

def rt (x : G_api_Item) : Bool := if x.Text.length = 0 then x.Wide == 1 else (x.Wide == 1 || x.Wide == 2) && rgt ⟨1, x.Text⟩
theorem items_right (x : G_api_Item) : f_items_Right x = some (rt x) := by
  unfold f_items_Right rt
  by_cases h0 : x.Text.length = 0
  · rw [if_pos (by simpa using h0), if_pos h0]
  · rw [if_neg (by simpa using h0), if_neg h0]
    simp only [andE_some, bsm]
    by_cases h1 : x.Wide = 1 ∨ x.Wide = 2
    · rw [if_neg (by simp only [Bool.and_eq_true, bne_iff_ne]; omega), cell_right]
      have : (x.Wide == 1 || x.Wide == 2) = true := by simpa using h1
      rw [this]
      rfl
    · rw [if_pos (by simp only [Bool.and_eq_true, bne_iff_ne]; omega)]
      have : (x.Wide == 1 || x.Wide == 2) = false := by simpa using h1
      rw [this]
      rfl
theorem rt_ok {x : G_api_Item} (h : rt x = true) : ∃ w : Nat, x.Wide = (w : Int) ∧ (w = 1 ∨ w = 2) ∧ x.Text.length ≤ 16 := by
  unfold rt at h
  split at h
  · rename_i h0
    exact ⟨1, by simpa using h, .inl rfl, by omega⟩
  · simp only [Bool.and_eq_true, Bool.or_eq_true, beq_iff_eq] at h
    have h2 := h.2
    unfold rgt at h2
    rw [if_neg (by simp)] at h2
    simp only [Bool.and_eq_true, decide_eq_true_eq] at h2
    exact ⟨x.Wide.toNat, by omega, by omega, h2.1.2⟩
theorem kd_app (a b : List G_api_Cell) (i : Nat) : kd (a ++ b) i = if i < a.length then kd a i else kd b (i - a.length) := by
  unfold kd
  by_cases h : i < a.length
  · rw [if_pos h, List.getElem?_append_left h]
  · rw [if_neg h, List.getElem?_append_right (by omega)]
theorem snd_app {a b : List G_api_Cell} (ha : Snd a) (hb : Snd b) : Snd (a ++ b) := fun i hi => by
  rw [List.length_append] at hi
  by_cases h : i < a.length
  · have e : (a ++ b)[i]'(by rw [List.length_append]; exact hi) = a[i] := List.getElem_append_left h
    rw [e]
    obtain ⟨h1, h2, h3⟩ := ha i h
    refine ⟨h1, fun h4 => ?_, fun h4 => ?_⟩
    · have h5 := h2 h4
      have := kd_lt (l := a) (j := i + 1) (by rw [h5]; decide)
      rw [kd_app, if_pos this]
      exact h5
    · obtain ⟨h5, h6⟩ := h3 h4
      exact ⟨h5, by rw [kd_app, if_pos (by omega)]; exact h6⟩
  · have e : (a ++ b)[i]'(by rw [List.length_append]; exact hi) = b[i - a.length]'(by omega) := List.getElem_append_right (by omega)
    rw [e]
    obtain ⟨h1, h2, h3⟩ := hb (i - a.length) (by omega)
    refine ⟨h1, fun h4 => ?_, fun h4 => ?_⟩
    · rw [kd_app, if_neg (by omega), show i + 1 - a.length = i - a.length + 1 by omega]
      exact h2 h4
    · obtain ⟨h5, h6⟩ := h3 h4
      exact ⟨by omega, by rw [kd_app, if_neg (by omega), show i - 1 - a.length = i - a.length - 1 by omega]; exact h6⟩
def rpt (st : List G_api_Cell) : Nat → List G_api_Cell
  | 0 => []
  | n + 1 => rpt st n ++ st
theorem rpt_len (st : List G_api_Cell) (n : Nat) : (rpt st n).length = n * st.length := by
  induction n with
  | zero => simp [rpt]
  | succ n ih => rw [rpt, List.length_append, ih, Nat.succ_mul]
theorem rpt_snd {st : List G_api_Cell} (h : Snd st) (n : Nat) : Snd (rpt st n) := by
  induction n with
  | zero => exact fun i hi => by simp [rpt] at hi
  | succ n ih => exact snd_app ih h
/-- What fills n cells with clusters. -/
def fl (w : Nat) (t : List Int) (n : Nat) : List G_api_Cell := rpt (strip w (fx t)) (n / w) ++ List.replicate (n % w) bl
theorem strip_w (d : Nat) (hd : d = 1 ∨ d = 2) (t : List Int) : (strip (d : Int) t).length = d := by
  unfold strip
  rcases hd with rfl | rfl <;> (repeat' split) <;> first | rfl | (exfalso; omega)
theorem fl_len {w : Nat} (hw : w = 1 ∨ w = 2) (t : List Int) (n : Nat) : (fl w t n).length = n := by
  unfold fl
  rw [List.length_append, rpt_len, strip_w w hw, List.length_replicate, Nat.mul_comm]
  exact Nat.div_add_mod n w
theorem fl_snd (w : Nat) (t : List Int) (n : Nat) : Snd (fl w t n) := snd_app (rpt_snd (snd_fx _ _) _) (snd_bl _)
/-- What is put to fill a rectangle. -/
def pf (L : List G_api_Line) (W : Nat) (R : G_blit_Rect) (x : G_api_Item) : List G_api_Line :=
  if (wi R.Col R.Wide W).1 < (wi R.Col R.Wide W).2 then List.replicate ((wi R.Row R.High L.length).2 - (wi R.Row R.High L.length).1) ⟨fl x.Wide.toNat x.Text ((wi R.Col R.Wide W).2 - (wi R.Col R.Wide W).1), false⟩ else []
theorem inr_zero (row : Int) (H j : Nat) : inr row 0 H j = false := by
  unfold inr
  rw [wi_zero]
  simp
theorem cutp_self {b1 b2 : Nat} (h : b1 < b2) (hb : b2 ≤ W) (w2 : W ≤ 1024) (hp : Snd p) (hl : p.length = b2 - b1) : good p (b1 : Int) W = true ∧ cutp p (b1 : Int) W = p ∧ wi (b1 : Int) (p.length : Int) W = (b1, b2) := by
  have e : wi (b1 : Int) (p.length : Int) W = (b1, b2) := by rw [hl]; exact wi_self h hb
  refine ⟨?_, ?_, e⟩
  · unfold good
    rw [e]
    simp only [Bool.and_eq_true, decide_eq_true_eq]
    exact ⟨h, (snb_eq (by omega)).2.2 hp⟩
  · unfold cutp
    rw [e]
    simp only
    unfold sgm
    rw [show ((b1 : Int) - (b1 : Int)).toNat = 0 by omega, List.drop_zero, List.take_of_length_le (by omega), wh_id hp]
theorem fill_list {w : Nat} (hw : w = 1 ∨ w = 2) (t : List Int) (ht : t.length ≤ 1000000) {n : Nat} (hn : n ≤ 1024) : (iter (σ := (List G_api_Cell)) (τ := (List G_api_Cell)) (((n : Int) - (w64 (0 + (w : Int)))).toNat + 2) (fun s_45 =>
  if (decide ((w64 ((s_45.length : Int) + (w : Int))) ≤ (n : Int))) = true then
  (f_cell_Of (w : Int) t).bind fun x_61 =>
  (app s_45 x_61).bind fun x_62 =>
  some (.inl (x_62))
  else
  some (.inr (s_45))) (([] : List G_api_Cell))) = some (rpt (strip w (fx t)) (n / w)) := by
  have hdm := Nat.div_add_mod n w
  have hml : n % w < w := Nat.mod_lt _ (by omega)
  have hst := strip_w w hw (fx t)
  have hq : n / w ≤ n := Nat.div_le_self n w
  obtain ⟨t2, e1, e2⟩ := iter_for (σ := (List G_api_Cell)) (τ := (List G_api_Cell)) (n := n / w) (fuel := ((n : Int) - (w64 (0 + (w : Int)))).toNat + 2) (s := ([] : List G_api_Cell))
    (fun i q => q = rpt (strip w (fx t)) i) (fun q => q = rpt (strip w (fx t)) (n / w))
    (step := fun s_45 =>
  if (decide ((w64 ((s_45.length : Int) + (w : Int))) ≤ (n : Int))) = true then
  (f_cell_Of (w : Int) t).bind fun x_61 =>
  (app s_45 x_61).bind fun x_62 =>
  some (.inl (x_62))
  else
  some (.inr (s_45)))
    (fun i q hi e => by
      subst e
      refine .inl ⟨_, ?_, rfl⟩
      have h1 : i * w + w ≤ n := by
        rcases hw with rfl | rfl <;> omega
      rw [rpt_len, hst, w64_in (by omega), if_pos (by simp; omega), cell_of _ _ (by omega)]
      simp only [bsm]
      rw [app_eq (by rw [rpt_len, hst]; omega)]
      rfl)
    (fun q e => ⟨q, by
      subst e
      have h1 : n < n / w * w + w := by
        rcases hw with rfl | rfl <;> omega
      rw [rpt_len, hst, w64_in (by rcases hw with rfl | rfl <;> omega), if_neg (by rcases hw with rfl | rfl <;> simp <;> omega)], e⟩)
    rfl (by rw [w64_in (by omega)]; rcases hw with rfl | rfl <;> omega)
  subst e2
  exact e1
theorem fill_b (h : Gv s g W L ks) (R : G_blit_Rect) (hR : Rok R) (x : G_api_Item) (hx : rt x = true) :
    ∃ s', f_blit_Fill s (some g) R x = some (s', (cni L.length W (max 0 R.Row) (max 0 R.Col) (pf L W R x) L.length : Int)) ∧ Gv s' g W (pli L W (max 0 R.Row) (max 0 R.Col) (pf L W R x) L.length) ks := by
  obtain ⟨h1, h2, h3, h4⟩ := hR
  obtain ⟨w, hw, hw2, hxt⟩ := rt_ok hx
  have w2 := h.g.w2
  have g1 := h.g.h1
  have g2 := h.g.h2
  have hl := h.len
  unfold f_blit_Fill
  rw [items_right, hx]
  simp only [bsm, Bool.not_true, Bool.false_eq_true, if_false]
  rw [grid_high h.g, ← hl]
  simp only [bsm]
  rw [within_eq _ _ (by omega) (by omega) h1 h4, grid_wide h.g]
  simp only [bsm]
  rw [within_eq _ _ h.g.w1 w2 h2 h3]
  simp only [bsm]
  have ha := wi_cs R.Row R.High (m := L.length) (by omega)
  have hb := wi_cs R.Col R.Wide h.g.w1
  have hpf : pf L W R x = if (wi R.Col R.Wide W).1 < (wi R.Col R.Wide W).2 then List.replicate ((wi R.Row R.High L.length).2 - (wi R.Row R.High L.length).1) ⟨fl w x.Text ((wi R.Col R.Wide W).2 - (wi R.Col R.Wide W).1), false⟩ else [] := by
    unfold pf
    rw [hw, Int.toNat_natCast]
  rw [hpf]
  generalize wi R.Row R.High L.length = a at *
  generalize wi R.Col R.Wide W = b at *
  obtain ⟨a1, a2⟩ := a
  obtain ⟨b1, b2⟩ := b
  simp only at ha hb ⊢
  by_cases hbb : b1 < b2
  · rw [if_neg (by simpa using hbb), if_pos hbb]
    have eb : max 0 R.Col = (b1 : Int) := by omega
    rw [eb, show w64 ((b2 : Int) - (b1 : Int)) = ((b2 - b1 : Nat) : Int) by rw [w64_in (by omega)]; omega, hw, fill_list hw2 x.Text (by omega) (by omega)]
    simp only [bsm]
    have hrl : (rpt (strip w (fx x.Text)) ((b2 - b1) / w)).length = (b2 - b1) / w * w := by rw [rpt_len, strip_w w hw2]
    have hdm := Nat.div_add_mod (b2 - b1) w
    rw [Nat.mul_comm] at hdm
    have hmod : (b2 - b1) % w < w := Nat.mod_lt _ (by omega)
    rw [hrl, show w64 (((b2 - b1 : Nat) : Int) - (((b2 - b1) / w * w : Nat) : Int)) = (((b2 - b1) % w : Nat) : Int) by rw [w64_in (by omega)]; omega, blanks]
    simp only [bsm]
    rw [show (max 0 (min (((b2 - b1) % w : Nat) : Int) 1024)).toNat = (b2 - b1) % w by omega, app_eq (by rw [hrl, List.length_replicate]; omega)]
    simp only [bsm]
    rw [show rpt (strip (w : Int) (fx x.Text)) ((b2 - b1) / w) ++ List.replicate ((b2 - b1) % w) bl = fl w x.Text (b2 - b1) from rfl]
    have hfl := fl_len hw2 x.Text (b2 - b1)
    have hfs := fl_snd w x.Text (b2 - b1)
    obtain ⟨cg, cc, cw⟩ := cutp_self (W := W) hbb (by omega) w2 hfs hfl
    generalize hf : fl w x.Text (b2 - b1) = f at *
    have hin : ∀ j, inr (max 0 R.Row) (a2 - a1) L.length j = (decide (a1 ≤ j) && decide (j < a2)) := fun j => by
      by_cases haa : a1 < a2
      · rw [show max 0 R.Row = (a1 : Int) by omega]
        unfold inr
        rw [wi_self haa (by omega)]
      · rw [show a2 - a1 = 0 by omega, inr_zero, Bool.eq_iff_iff]
        simp
        omega
    have hPl : (List.replicate (a2 - a1) (⟨f, false⟩ : G_api_Line)).length = a2 - a1 := List.length_replicate
    have hpj : ∀ i, i < a2 - a1 → pj (List.replicate (a2 - a1) ⟨f, false⟩) (max 0 R.Row) (a1 + i) = f := fun i hi => by
      unfold pj
      rw [show (((a1 + i : Nat) : Int) - max 0 R.Row).toNat = i by omega, getD_at (by rw [hPl]; exact hi), List.getElem_replicate]
    generalize hPP : List.replicate (a2 - a1) (⟨f, false⟩ : G_api_Line) = P at *
    obtain ⟨t, q1, q2⟩ := iter_for (σ := Int × Sto) (τ := Sto) (n := a2 - a1) (fuel := ((a2 : Int) - (a1 : Int)).toNat + 1) (s := ((a1 : Int), s))
      (fun i q => q.1 = ((a1 + i : Nat) : Int) ∧ Gv q.2 g W (pli L W (max 0 R.Row) (b1 : Int) P (a1 + i)) ks ∧ cni L.length W (max 0 R.Row) (b1 : Int) P (a1 + i) = i)
      (fun t => Gv t g W (pli L W (max 0 R.Row) (b1 : Int) P L.length) ks ∧ cni L.length W (max 0 R.Row) (b1 : Int) P L.length = a2 - a1)
      (step := fun s_79 =>
  if (decide (s_79.1 < (a2 : Int))) = true then
  (f_grid_Grid_Row s_79.2 (some g) s_79.1).bind fun x_86 =>
  (f_row_Row_Paint s_79.2 x_86 (b1 : Int) f).bind fun x_89 =>
  some (.inl ((w64 (s_79.1 + 1)), x_89.1))
  else
  some (.inr (s_79.2)))
      (fun i q hi ⟨f1, f2, f3⟩ => by
        obtain ⟨k0, s0⟩ := q
        simp only at f1 f2
        subst f1
        have e5 : w64 (((a1 + i : Nat) : Int) + 1) = ((a1 + (i + 1) : Nat) : Int) := by rw [w64_in (by omega)]; simp; omega
        have hd : decide (((a1 + i : Nat) : Int) < (a2 : Int)) = true := by simp; omega
        have hkL : a1 + i < L.length := by omega
        simp only [hd, if_true, e5]
        obtain ⟨kk, k1, k2, k3, k4, k5⟩ := f2.at (i := a1 + i) (by rw [pli_len]; exact hkL)
        rw [pli_at _ _ hkL] at k2 k3 k4
        rw [k1]
        simp only [bsm]
        rw [row_paint k2 k3 (by omega) hfs (by omega) (by omega)]
        have hi1 : inr (max 0 R.Row) P.length L.length (a1 + i) = true := by rw [hPl, hin]; simp; omega
        refine .inl ⟨_, rfl, rfl, ?_, ?_⟩
        · have := k5 ⟨pl L[a1 + i].Cells b1 f, pw L[a1 + i].Cells L[a1 + i].Wrap b1 f.length⟩ (k3.paint hfs (by omega)) (by rw [pl_len]; exact k4)
          rw [show a1 + (i + 1) = a1 + i + 1 by omega, pli_succ _ _ hkL hi1]
          unfold pline
          rw [hpj i hi, if_pos cg, cc, cw]
          exact this
        · rw [show a1 + (i + 1) = a1 + i + 1 by omega, cni_succ, f3, hi1, hpj i hi, cg]
          rfl)
      (fun q ⟨f1, f2, f3⟩ => ⟨q.2, by
        have hd : decide (q.1 < (a2 : Int)) = false := by rw [f1]; simp; omega
        simp only [hd, Bool.false_eq_true, if_false], by
        have c1 := cni_same L.length W (max 0 R.Row) (b1 : Int) P (k := a1 + (a2 - a1)) (k' := L.length) (by omega) (fun j h1 h2 => by rw [hPl, hin]; simp; omega)
        have c2 := pli_same (L := L) (W := W) (P := P) (max 0 R.Row) (b1 : Int) (k := a1 + (a2 - a1)) (k' := L.length) (fun j h1 h2 => by
          rw [hPl, hin] at h2
          simp at h2
          omega)
        rw [← c2, c1]
        exact ⟨f2, f3⟩⟩)
      ⟨by simp, by
        rw [Nat.add_zero, pli_none _ _ (fun j h1 => by rw [hPl, hin]; simp; omega)]
        exact h, by
        rw [Nat.add_zero, cni_same L.length W _ _ P (k := 0) (k' := a1) (Nat.zero_le _) (fun j _ h2 => by rw [hPl, hin]; simp; omega)]
        rfl⟩ (by omega)
    rw [q1, q2.2]
    simp only [bsm]
    rw [w64_in (by omega)]
    exact ⟨t, by rw [show (a2 : Int) - (a1 : Int) = ((a2 - a1 : Nat) : Int) by omega], q2.1⟩
  · rw [if_pos (by simpa using hbb), if_neg hbb]
    refine ⟨s, ?_, ?_⟩
    · rw [cni_same L.length W _ _ [] (k := 0) (k' := L.length) (Nat.zero_le _) (fun j _ _ => inr_zero _ _ _)]
      rfl
    · rw [pli_none _ _ (fun j _ => inr_zero _ _ _)]
      exact h

def Lk (L : List G_api_Line) : Prop := ∀ i (h : i < L.length), 1 ≤ L[i].Cells.length ∧ L[i].Cells.length ≤ 1024 ∧ Snd L[i].Cells ∧ L[i].Cells.length = (L[0]'(by omega)).Cells.length
theorem gv_of (h1 : 1 ≤ L.length) (h2 : L.length ≤ 1024) (hok : Lk L) (s : Sto) : ∃ s' ks, f_grid_Of s L = some (s', some s.grid_Grid.length, Er.nil) ∧ Gv s' s.grid_Grid.length (L[0]'(by omega)).Cells.length L ks := by
  obtain ⟨g1, g2⟩ := gw_of (s := s) h1 h2 hok
  exact ⟨_, _, grid_of h1 h2 hok, g1, List.nodup_range', g2⟩
theorem works59 (s : Sto) : ∃ s', f_linotypelaw59_works s = some (s', true) := by
  unfold f_linotypelaw59_works
  rw [ref_of _ _ (by decide)]
  simp only [bsm]
  rw [show strip 2 (fx [19968]) = [⟨2, [19968]⟩, ⟨3, []⟩] from rfl, app_eq (by decide), show ([⟨2, [19968]⟩, ⟨3, []⟩] ++ [⟨1, [97]⟩] : List G_api_Cell) = [⟨2, [19968]⟩, ⟨3, []⟩, ⟨1, [97]⟩] from rfl]
  simp only [bsm]
  have hs : Snd [⟨2, [19968]⟩, ⟨3, []⟩, ⟨1, [97]⟩] := by
    have h1 : Snd [⟨2, [19968]⟩, ⟨3, []⟩] := (show strip 2 (fx [19968]) = [⟨2, [19968]⟩, ⟨3, []⟩] from rfl) ▸ snd_fx 2 [19968]
    have h2 : Snd [⟨1, [97]⟩] := (show strip 1 (fx [97]) = [⟨1, [97]⟩] from rfl) ▸ snd_fx 1 [97]
    exact snd_app h1 h2
  have hk : Lk [⟨[⟨2, [19968]⟩, ⟨3, []⟩, ⟨1, [97]⟩], false⟩] := fun i hi => by
    obtain rfl : i = 0 := by simp at hi; exact hi
    exact ⟨by simp, by simp, hs, rfl⟩
  obtain ⟨s1, ks, h1, v⟩ := gv_of (by decide) (by decide) hk s
  rw [h1]
  simp only [bsm, Er.isNil, Bool.not_true, orE_false, Option.isNone_some, Bool.false_eq_true, if_false]
  rw [take_eq v _ ⟨by unfold I64; decide, by unfold I64; decide, by unfold I64; decide, by unfold I64; decide⟩]
  rw [show tk [⟨[⟨2, [19968]⟩, ⟨3, []⟩, ⟨1, [97]⟩], false⟩] ([(⟨[⟨2, [19968]⟩, ⟨3, []⟩, ⟨1, [97]⟩], false⟩ : G_api_Line)][0]'(by decide)).Cells.length (G_blit_Rect.Row ⟨0, 1, 2, 1⟩) (G_blit_Rect.Col ⟨0, 1, 2, 1⟩) (G_blit_Rect.Wide ⟨0, 1, 2, 1⟩) (G_blit_Rect.High ⟨0, 1, 2, 1⟩) = [⟨[bl, ⟨1, [97]⟩], false⟩] from rfl]
  simp only [bsm]
  obtain ⟨s2, h2, _⟩ := fill_b v ⟨0, 0, 9, 9⟩ ⟨by unfold I64; decide, by unfold I64; decide, by unfold I64; decide, by unfold I64; decide⟩ ⟨1, []⟩ rfl
  rw [h2]
  have hst : Sht [bl, ⟨1, [97]⟩] := fun i hi => by
    have : i = 0 ∨ i = 1 := by simp at hi; omega
    rcases this with rfl | rfl <;> simp [bl]
  have hi : idx [(⟨[bl, ⟨1, [97]⟩], false⟩ : G_api_Line)] (0 : Int) = some ⟨[bl, ⟨1, [97]⟩], false⟩ := rfl
  rw [hi]
  simp only [bsm]
  rw [show ([(⟨0, ([] : List Int)⟩ : G_api_Cell), (⟨1, ([97] : List Int)⟩ : G_api_Cell)]) = [bl, ⟨1, [97]⟩] from rfl, same_self (by decide) hst]
  exact ⟨_, rfl⟩

theorem tk_len_le (L : List G_api_Line) (W : Nat) (row col wide high : Int) : (tk L W row col wide high).length ≤ L.length := by
  unfold tk
  split
  · simp
    omega
  · simp
theorem tk_cells (hW : 1 ≤ W) (hok : ∀ x ∈ L, Okl W x) (row col wide high : Int) : ∀ x ∈ tk L W row col wide high, x.Cells.length ≤ W ∧ Snd x.Cells := fun x hx => by
  have hb := wi_cs col wide hW
  unfold tk at hx
  split at hx
  · obtain ⟨y, hy, rfl⟩ := List.mem_map.1 hx
    have hy2 := hok y (List.mem_of_mem_drop (List.mem_of_mem_take hy))
    have hle : (wi col wide W).1 + ((wi col wide W).2 - (wi col wide W).1) ≤ y.Cells.length := by rw [hy2.2]; omega
    simp only
    rw [wh_len, sgm_len hle]
    exact ⟨by omega, wh_snd hy2.1 hle⟩
  · cases hx
theorem pl_cut' {l p : List G_api_Cell} {a : Nat} (h : a + p.length ≤ l.length) : ((pl l a p).drop a).take p.length = p := by
  refine List.ext_getElem? fun j => ?_
  rw [List.getElem?_take]
  split
  · rename_i hj
    rw [List.getElem?_drop, pl_get (by omega), pc_in (by omega), Nat.add_sub_cancel_left, List.getElem?_eq_getElem hj, List.getD_eq_getElem?_getD, List.getElem?_eq_getElem hj]
    rfl
  · rename_i hj
    rw [List.getElem?_eq_none (by omega)]
theorem tk_back (hW : 1 ≤ W) (w2 : W ≤ 1024) (hH : 1 ≤ L.length) (hok : ∀ x ∈ L, Okl W x) {L1 : List G_api_Line} (hl1 : L1.length = L.length) (hok1 : ∀ x ∈ L1, Okl W x) (R : G_blit_Rect) :
    tk (pli L1 W (max 0 R.Row) (max 0 R.Col) (tk L W R.Row R.Col R.Wide R.High) L1.length) W R.Row R.Col R.Wide R.High = tk L W R.Row R.Col R.Wide R.High := by
  have ha := wi_cs R.Row R.High hH
  have hb := wi_cs R.Col R.Wide hW
  by_cases hbb : (wi R.Col R.Wide W).1 < (wi R.Col R.Wide W).2
  · have ht : tk L W R.Row R.Col R.Wide R.High = ((L.drop (wi R.Row R.High L.length).1).take ((wi R.Row R.High L.length).2 - (wi R.Row R.High L.length).1)).map fun x => ⟨wh (sgm x.Cells (wi R.Col R.Wide W).1 ((wi R.Col R.Wide W).2 - (wi R.Col R.Wide W).1)), false⟩ := by
      unfold tk
      rw [if_pos hbb]
    generalize hT : tk L W R.Row R.Col R.Wide R.High = T at *
    unfold tk
    rw [if_pos hbb, pli_len, hl1]
    generalize wi R.Row R.High L.length = a at *
    generalize wi R.Col R.Wide W = b at *
    obtain ⟨a1, a2⟩ := a
    obtain ⟨b1, b2⟩ := b
    simp only at ha hb ht hbb ⊢
    have hTl : T.length = a2 - a1 := by rw [ht]; simp; omega
    refine List.ext_getElem? fun j => ?_
    rcases Nat.lt_or_ge j (a2 - a1) with hj | hj
    · have hjL : a1 + j < L.length := by omega
      have hTj : T[j]? = some ⟨wh (sgm L[a1 + j].Cells b1 (b2 - b1)), false⟩ := by
        rw [ht, List.getElem?_map, List.getElem?_take, if_pos hj, List.getElem?_drop, List.getElem?_eq_getElem hjL]
        rfl
      have hokj := hok _ (List.getElem_mem hjL)
      have hle : b1 + (b2 - b1) ≤ L[a1 + j].Cells.length := by rw [hokj.2]; omega
      have hsn := wh_snd hokj.1 hle
      have hwl : (wh (sgm L[a1 + j].Cells b1 (b2 - b1))).length = b2 - b1 := by rw [wh_len, sgm_len hle]
      obtain ⟨cg, cc, cw⟩ := cutp_self (W := W) hbb (by omega) w2 hsn hwl
      rw [List.getElem?_map, List.getElem?_take, if_pos hj, List.getElem?_drop, pli_get _ _ _ (by omega), if_pos ⟨by omega, by
        rw [show max 0 R.Row = (a1 : Int) by omega, hTl, hl1]
        unfold inr
        rw [wi_self (by omega) (by omega)]
        simp
        omega⟩, hTj, Option.map_some]
      have hpj : pj T (max 0 R.Row) (a1 + j) = wh (sgm L[a1 + j].Cells b1 (b2 - b1)) := by
        unfold pj
        rw [show (((a1 + j : Nat) : Int) - max 0 R.Row).toNat = j by omega, List.getD_eq_getElem?_getD, hTj]
        rfl
      rw [hpj, show max 0 R.Col = (b1 : Int) by omega]
      have hok1j := hok1 _ (List.getElem_mem (show a1 + j < L1.length by omega))
      have hpl : (pline L1[a1 + j] (b1 : Int) W (wh (sgm L[a1 + j].Cells b1 (b2 - b1)))).Cells = pl L1[a1 + j].Cells b1 (wh (sgm L[a1 + j].Cells b1 (b2 - b1))) := by
        unfold pline
        rw [if_pos cg, cc, cw]
      rw [hpl]
      have hcut : sgm (pl L1[a1 + j].Cells b1 (wh (sgm L[a1 + j].Cells b1 (b2 - b1)))) b1 (b2 - b1) = wh (sgm L[a1 + j].Cells b1 (b2 - b1)) := by
        unfold sgm at hwl ⊢
        have hpc := pl_cut' (l := L1[a1 + j].Cells) (p := wh ((L[a1 + j].Cells.drop b1).take (b2 - b1))) (a := b1) (by rw [hwl, hok1j.2]; omega)
        rw [hwl] at hpc
        exact hpc
      rw [hcut, wh_id hsn]
    · rw [List.getElem?_eq_none (by simp; omega), List.getElem?_eq_none (by omega)]
  · unfold tk
    rw [if_neg hbb, if_neg hbb]
theorem blitBack_true (s : Sto) (L : List G_api_Line) (hL : L.length ≤ 9223372036854775807) (R : G_blit_Rect) (hR : Rok R) : ∃ st, f_linotypelaw59_BlitBack s L R = some (st, true) := by
  unfold f_linotypelaw59_BlitBack
  obtain ⟨t, hw, hw2⟩ := ref_wrong L hL
  obtain ⟨s1, h1⟩ := works59 s
  rw [hw]
  simp only [bsm]
  rw [h1]
  simp only [bsm, Bool.not_true, orE_false]
  have goes : ∃ st, ((f_linotypelaw59_works s1).bind fun x_37 => some (x_37.1, x_37.2)) = some (st, true) := by
    obtain ⟨s2, h2⟩ := works59 s1
    rw [h2]
    exact ⟨_, rfl⟩
  have hor : ((orE (decide ((L.length : Int) > 30)) (some ((L.length : Int) == 0))).bind fun d_19 => (orE d_19 (some (decide (t.1 ≥ 0)))).bind fun d_24 => (orE d_24 ((idx L 0).bind fun x_31 => some (decide ((x_31.Cells.length : Int) > 100))))) =
      some (decide (30 < L.length ∨ L.length = 0 ∨ 0 ≤ t.1 ∨ ∃ h : 0 < L.length, 100 < L[0].Cells.length)) := by
    simp only [orE_some, bsm]
    by_cases hC : 30 < L.length ∨ L.length = 0 ∨ 0 ≤ t.1
    · rw [show (decide ((L.length : Int) > 30) || (L.length : Int) == 0 || decide (t.1 ≥ 0)) = true by simp only [Bool.or_eq_true, decide_eq_true_eq, beq_iff_eq]; omega, orE_true]
      congr 1
      symm
      rw [decide_eq_true_eq]
      rcases hC with h | h | h
      · exact .inl h
      · exact .inr (.inl h)
      · exact .inr (.inr (.inl h))
    · rw [show (decide ((L.length : Int) > 30) || (L.length : Int) == 0 || decide (t.1 ≥ 0)) = false by rw [Bool.eq_false_iff]; simp only [ne_eq, Bool.or_eq_true, decide_eq_true_eq, beq_iff_eq]; omega, orE_false, show idx L (0 : Int) = some (L[0]'(by omega)) from idx_at (i := 0) (by omega)]
      simp only [bsm]
      congr 1
      rw [Bool.eq_iff_iff, decide_eq_true_eq, decide_eq_true_eq]
      constructor
      · intro h
        exact .inr (.inr (.inr ⟨by omega, by omega⟩))
      · rintro (h | h | h | ⟨h, h2⟩) <;> omega
  have hsplit : ∀ (b : Bool → Option (Sto × Bool)), ((orE (decide ((L.length : Int) > 30)) (some ((L.length : Int) == 0))).bind fun d_19 => (orE d_19 (some (decide (t.1 ≥ 0)))).bind fun d_24 => (orE d_24 ((idx L 0).bind fun x_31 => some (decide ((x_31.Cells.length : Int) > 100)))).bind b) =
      b (decide (30 < L.length ∨ L.length = 0 ∨ 0 ≤ t.1 ∨ ∃ h : 0 < L.length, 100 < L[0].Cells.length)) := fun b => by
    have := congrArg (fun o => Option.bind o b) hor
    simpa only [Option.bind_assoc, bsm] using this
  rw [hsplit]
  by_cases hC : 30 < L.length ∨ L.length = 0 ∨ 0 ≤ t.1 ∨ ∃ h : 0 < L.length, 100 < L[0].Cells.length
  · rw [if_pos (by simpa using hC)]
    exact goes
  rw [if_neg (by simpa using hC)]
  have hl30 : ¬ 30 < L.length := fun h => hC (.inl h)
  have hl0 : ¬ L.length = 0 := fun h => hC (.inr (.inl h))
  have ht0 : ¬ 0 ≤ t.1 := fun h => hC (.inr (.inr (.inl h)))
  have hok : Lk L := by
    rcases hw2 with h | h
    · exact absurd h ht0
    · exact h.2
  obtain ⟨s2, ks, e1, v⟩ := gv_of (by omega) (by omega) hok s1
  rw [e1]
  simp only [bsm, Er.isNil, Bool.not_true, Bool.false_eq_true, if_false]
  generalize hW : (L[0]'(by omega)).Cells.length = W at *
  generalize s1.grid_Grid.length = g at *
  have w1 := v.g.w1
  have w2 := v.g.w2
  obtain ⟨r1, r2, r3, r4⟩ := id hR
  rw [take_eq v R hR]
  simp only [bsm]
  obtain ⟨s3, b1, v1⟩ := fill_b v R hR ⟨1, [120]⟩ rfl
  rw [b1]
  simp only [bsm, imax_eq]
  have hi : ∀ n : Int, I64 n → I64 (max 0 n) := fun n h => by unfold I64 at *; omega
  have hok1 := v1.ok
  have hl1 := pli_len L W (max 0 R.Row) (max 0 R.Col) (pf L W R ⟨1, [120]⟩) L.length
  generalize pli L W (max 0 R.Row) (max 0 R.Col) (pf L W R ⟨1, [120]⟩) L.length = L1 at *
  have htl := tk_len_le L W R.Row R.Col R.Wide R.High
  have htc := tk_cells w1 v.ok R.Row R.Col R.Wide R.High
  obtain ⟨s4, b2, v2⟩ := put_b v1 (max 0 R.Row) (max 0 R.Col) (tk L W R.Row R.Col R.Wide R.High) (hi _ r1) (hi _ r2) (by omega) (fun x hx => by have := (htc x hx).1; omega)
  rw [b2]
  simp only [bsm]
  rw [grid_lines v2.g, v2.l]
  simp only [bsm]
  have hbk := tk_back w1 w2 (by omega) v.ok hl1 hok1 R
  have hl2 := pli_len L1 W (max 0 R.Row) (max 0 R.Col) (tk L W R.Row R.Col R.Wide R.High) L1.length
  generalize pli L1 W (max 0 R.Row) (max 0 R.Col) (tk L W R.Row R.Col R.Wide R.High) L1.length = L2 at *
  obtain ⟨t2, e2, e3⟩ := iter_for (σ := Int) (τ := (Sto × Bool) ⊕ Unit) (n := L2.length) (fuel := ((L2.length : Int) - 0).toNat + 1) (s := 0)
    (fun i q => q = (i : Int)) (fun t => t = .inr ())
    (step := fun s_80 =>
  if (decide (s_80 < (L2.length : Int))) = true then
  (idx L2 s_80).bind fun x_88 =>
  (f_linotyperef23_Sound x_88.Cells).bind fun x_91 =>
  if (!x_91) = true then
  some (.inr (.inl (s4, false)))
  else
  some (.inl ((w64 (s_80 + 1))))
  else
  some (.inr (.inr ())))
    (fun i q hi e => by
      subst e
      refine .inl ⟨_, ?_, rfl⟩
      have e5 : w64 ((i : Int) + 1) = ((i + 1 : Nat) : Int) := by rw [w64_in (by omega)]; simp
      have hd : decide ((i : Int) < (L2.length : Int)) = true := by simp; exact hi
      have hs := v2.ok _ (List.getElem_mem hi)
      simp only [hd, if_true, idx_at hi, bsm, e5]
      have hlc : L2[i].Cells.length ≤ 9223372036854775807 := by rw [hs.2]; omega
      rw [(snb_eq hlc).1, (snb_eq hlc).2.2 hs.1]
      rfl)
    (fun q e => ⟨_, by subst e; simp, rfl⟩)
    rfl (by omega)
  subst e3
  rw [e2]
  simp only [bsm]
  rw [take_eq v2 R hR, hbk]
  simp only [bsm]
  have htc2 : f_linotyperef32_Same (tk L W R.Row R.Col R.Wide R.High) (tk L W R.Row R.Col R.Wide R.High) = some true :=
    lines_self (by omega) (fun x hx => ⟨by have := (htc x hx).1; omega, (htc x hx).2.sht⟩)
  rw [htc2, show ((L2.length : Int) == (L.length : Int)) = true by rw [hl2, hl1]; simp]
  exact ⟨_, rfl⟩
end Go.Proofs.YtohpkblleihmaaaDoor
