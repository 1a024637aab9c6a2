/-
  Rectangles on grids, in plain Lean: what the functions of blit answer. Conditions: each lemma's own.
-/
import Derived.Test.YtohpkblleihmaaaDoorPh
import Derived.Test.YtohpkblleihmaaaDoorPk
import Derived.Test.YtohpkblleihmaaaDoorB0
namespace Go.Proofs.YtohpkblleihmaaaDoor
open Go Go.Lt
variable {s : Sto} {g k W : Nat} {ks : List Nat} {l p : List G_api_Cell} {L P : List G_api_Line}

def I64 (n : Int) : Prop := -9223372036854775808 ≤ n ∧ n ≤ 9223372036854775807
/-- Which numbers from f on, n of them, lie from 0 to below m. -/
def wi (f n : Int) (m : Nat) : Nat × Nat := if n < 1 ∨ (m : Int) ≤ f ∨ f + n ≤ 0 then (0, 0) else ((max 0 f).toNat, (min (f + n) m).toNat)
theorem wi_cs (f n : Int) {m : Nat} (hm : 1 ≤ m) : ((wi f n m).1 = 0 ∧ (wi f n m).2 = 0 ∧ (n < 1 ∨ (m : Int) ≤ f ∨ f + n ≤ 0)) ∨
    (((wi f n m).1 : Int) = max 0 f ∧ ((wi f n m).2 : Int) = min (f + n) m ∧ (wi f n m).1 < (wi f n m).2 ∧ (wi f n m).2 ≤ m ∧ 1 ≤ n ∧ f < (m : Int) ∧ 0 < f + n) := by
  unfold wi
  by_cases h : n < 1 ∨ (m : Int) ≤ f ∨ f + n ≤ 0
  · rw [if_pos h]
    exact .inl ⟨rfl, rfl, h⟩
  · rw [if_neg h]
    right
    simp only
    omega
theorem wi_self {a b m : Nat} (h : a < b) (hb : b ≤ m) : wi (a : Int) ((b - a : Nat) : Int) m = (a, b) := by
  unfold wi
  rw [if_neg (by omega), Prod.mk.injEq]
  omega
theorem wi_zero (f : Int) (m : Nat) : wi f ((0 : Nat) : Int) m = (0, 0) := by
  unfold wi
  rw [if_pos (by omega)]
theorem within_eq (f n : Int) {m : Nat} (hm1 : 1 ≤ m) (hm : m ≤ 1024) (hf : I64 f) (hn : I64 n) : f_blit_within f n m = some (((wi f n m).1 : Int), ((wi f n m).2 : Int)) := by
  unfold I64 at hf hn
  unfold f_blit_within
  simp only [orE_some, andE_some, bsm]
  rcases wi_cs f n hm1 with ⟨h1, h2, h3⟩ | ⟨h1, h2, h3, h4, h5, h6, h7⟩
  · rw [if_pos, h1, h2]
    · rfl
    · simp only [Bool.or_eq_true, Bool.and_eq_true, decide_eq_true_eq]
      by_cases h : n < 1 ∨ f ≥ m
      · exact .inl h
      · right
        rw [w64_in (by omega)]
        omega
  · rw [if_neg]
    · by_cases h : f < 0
      · rw [if_pos (by simpa using h), w64_in (n := n + f) (by omega)]
        simp only [bsm]
        rw [imax_eq, w64_in (n := (m : Int) - max 0 f) (by omega), imin_eq, w64_in (by omega)]
        rw [h1, h2, Option.some.injEq, Prod.mk.injEq]
        exact ⟨rfl, by omega⟩
      · rw [if_neg (by simpa using h)]
        simp only [bsm]
        rw [imax_eq, w64_in (n := (m : Int) - max 0 f) (by omega), imin_eq, w64_in (by omega)]
        rw [h1, h2, Option.some.injEq, Prod.mk.injEq]
        exact ⟨rfl, by omega⟩
    · simp only [Bool.or_eq_true, Bool.and_eq_true, decide_eq_true_eq]
      rintro (h | ⟨h, h8⟩)
      · omega
      · rw [w64_in (by omega)] at h8
        omega

/-! ### strips whose ends are torn -/
def whc (l : List G_api_Cell) (i : Nat) : G_api_Cell := if (i = 0 ∧ kd l i = 3) ∨ (i + 1 = l.length ∧ kd l i = 2) then bl else l.getD i bl
def wh (l : List G_api_Cell) : List G_api_Cell := (List.range l.length).map (whc l)
theorem wh_len (l : List G_api_Cell) : (wh l).length = l.length := by simp [wh]
theorem wh_get {i : Nat} (h : i < l.length) : (wh l)[i]? = some (whc l i) := by simp [wh, h]
theorem whc_kd (l : List G_api_Cell) (i : Nat) : (whc l i).Kind = if (i = 0 ∧ kd l i = 3) ∨ (i + 1 = l.length ∧ kd l i = 2) then 0 else kd l i := by
  unfold whc
  split
  · rfl
  · exact kd_getD l i
theorem kd_wh {i : Nat} (h : i < l.length) : kd (wh l) i = (whc l i).Kind := by simp [kd, wh_get h]
theorem wh_id (hs : Snd l) : wh l = l := by
  refine List.ext_getElem? fun i => ?_
  rcases Nat.lt_or_ge i l.length with h | h
  · rw [wh_get h, List.getElem?_eq_getElem h]
    unfold whc
    rw [if_neg, List.getD_eq_getElem?_getD, List.getElem?_eq_getElem h]
    · rfl
    · rintro (⟨rfl, h3⟩ | ⟨h1, h2⟩)
      · exact absurd (hs.three h3).1 (Nat.lt_irrefl _)
      · have h3 := hs.two h2
        have := kd_lt (l := l) (j := i + 1) (by rw [h3]; decide)
        omega
  · rw [List.getElem?_eq_none (by rw [wh_len]; exact h), List.getElem?_eq_none h]
def sgm (l : List G_api_Cell) (a n : Nat) : List G_api_Cell := (l.drop a).take n
theorem sgm_len {a n : Nat} (h : a + n ≤ l.length) : (sgm l a n).length = n := by simp [sgm]; omega
theorem kd_sgm {a n i : Nat} (h : i < n) : kd (sgm l a n) i = kd l (a + i) := by
  unfold kd sgm
  rw [List.getElem?_take, if_pos h, List.getElem?_drop]
theorem sgm_getD {a n i : Nat} (h : i < n) : (sgm l a n).getD i bl = l.getD (a + i) bl := by
  unfold sgm
  rw [List.getD_eq_getElem?_getD, List.getElem?_take, if_pos h, List.getElem?_drop, List.getD_eq_getElem?_getD]
theorem wh_snd (hs : Snd l) {a n : Nat} (h : a + n ≤ l.length) : Snd (wh (sgm l a n)) := fun i hi => by
  have hl := sgm_len h
  have hin : i < n := by rw [wh_len, hl] at hi; exact hi
  have e : (wh (sgm l a n))[i] = whc (sgm l a n) i := by
    have := wh_get (l := sgm l a n) (by rw [hl]; exact hin)
    rw [List.getElem?_eq_getElem hi] at this
    exact Option.some.inj this
  rw [e]
  refine ⟨?_, fun h2 => ?_, fun h3 => ?_⟩
  · unfold whc
    split
    · rfl
    · rw [sgm_getD hin]
      exact hs.rg (by omega)
  · rw [whc_kd, kd_sgm hin, hl] at h2
    split at h2
    · cases h2
    · rename_i hc
      have h4 := hs.two h2
      have h5 : i + 1 < n := by omega
      have e3 : a + (i + 1) = a + i + 1 := by omega
      rw [kd_wh (by rw [hl]; exact h5), whc_kd, kd_sgm h5, hl, e3, if_neg (by omega)]
      exact h4
  · rw [whc_kd, kd_sgm hin, hl] at h3
    split at h3
    · cases h3
    · rename_i hc
      obtain ⟨h4, h5⟩ := hs.three h3
      have h6 : 0 < i := by omega
      refine ⟨h6, ?_⟩
      rw [kd_wh (by rw [hl]; omega), whc_kd, kd_sgm (by omega), show a + (i - 1) = a + i - 1 by omega, h5, hl, if_neg (by omega)]
theorem whole_eq (hl : l.length ≤ 1000000) : f_blit_whole l = some (wh l) := by
  unfold f_blit_whole
  rw [app_eq (by simp; omega), List.nil_append]
  simp only [bsm]
  by_cases h0 : 0 < l.length
  · rw [if_pos (by simpa using h0)]
    have e0 : idx l (0 : Int) = some l[0] := idx_at (i := 0) h0
    have e1 : w64 ((l.length : Int) - 1) = ((l.length - 1 : Nat) : Int) := by rw [w64_in (by omega)]; omega
    obtain ⟨z, hz, hzl, hzg⟩ : ∃ z, ((idx l 0).bind fun x_18 => if (x_18.Kind == 3) = true then (idx l 0).bind fun x_25 => (sets l 0 (⟨0, ([] : List Int)⟩ : G_api_Cell)).bind fun w_26 => (some (w_26) : Option ((List G_api_Cell))) else (some (l) : Option ((List G_api_Cell)))) = some z ∧
        z.length = l.length ∧ ∀ j, j < l.length → z[j]? = some (if j = 0 ∧ kd l j = 3 then bl else l.getD j bl) := by
      have hg : ∀ j, j < l.length → l[j]? = some (l.getD j bl) := fun j hj => by rw [List.getD_eq_getElem?_getD, List.getElem?_eq_getElem hj]; rfl
      rw [e0]
      simp only [bsm]
      by_cases h3 : kd l 0 = 3
      · rw [if_pos (by rw [← kd_at h0]; simpa using h3), show (0 : Int) = ((0 : Nat) : Int) from rfl, sets_nat h0]
        refine ⟨_, rfl, List.length_set, fun j hj => ?_⟩
        rw [List.getElem?_set]
        by_cases e : 0 = j
        · subst e
          rw [if_pos rfl, if_pos h0, if_pos ⟨rfl, h3⟩]
          rfl
        · rw [if_neg e, if_neg (by omega)]
          exact hg j hj
      · rw [if_neg (by rw [← kd_at h0]; simpa using h3)]
        refine ⟨_, rfl, rfl, fun j hj => ?_⟩
        rw [if_neg]
        · exact hg j hj
        · rintro ⟨rfl, h4⟩
          exact h3 h4
    rw [hz, e1]
    have hlt : l.length - 1 < z.length := by omega
    have hk : z[l.length - 1].Kind = if l.length - 1 = 0 ∧ kd l (l.length - 1) = 3 then 0 else kd l (l.length - 1) := by
      have := hzg (l.length - 1) (by omega)
      rw [List.getElem?_eq_getElem hlt] at this
      rw [Option.some.inj this]
      split
      · rfl
      · exact kd_getD _ _
    simp only [bsm, idx_at hlt]
    by_cases h2 : z[l.length - 1].Kind = 2
    · rw [if_pos (by simpa using h2), sets_nat hlt]
      simp only [bsm, Option.some.injEq]
      refine List.ext_getElem? fun j => ?_
      rcases Nat.lt_or_ge j l.length with hj | hj
      · rw [wh_get hj, List.getElem?_set]
        unfold whc
        by_cases e : l.length - 1 = j
        · have hk2 : kd l (l.length - 1) = 2 := by
            rw [hk] at h2
            split at h2
            · cases h2
            · exact h2
          rw [if_pos e, if_pos (by omega), if_pos (.inr ⟨by omega, by rw [← e]; exact hk2⟩)]
          rfl
        · rw [if_neg e, hzg j hj]
          congr 1
          by_cases h5 : j = 0 ∧ kd l j = 3
          · rw [if_pos h5, if_pos (.inl h5)]
          · rw [if_neg h5, if_neg (fun h6 => h6.elim h5 fun h7 => by omega)]
      · rw [List.getElem?_eq_none (by rw [List.length_set]; omega), List.getElem?_eq_none (by rw [wh_len]; exact hj)]
    · rw [if_neg (by simpa using h2)]
      simp only [bsm, Option.some.injEq]
      refine List.ext_getElem? fun j => ?_
      rcases Nat.lt_or_ge j l.length with hj | hj
      · rw [wh_get hj, hzg j hj]
        congr 1
        unfold whc
        by_cases h5 : j = 0 ∧ kd l j = 3
        · rw [if_pos h5, if_pos (.inl h5)]
        · rw [if_neg h5, if_neg]
          rintro (h6 | ⟨h6, h7⟩)
          · exact h5 h6
          · have hj2 : j = l.length - 1 := by omega
            subst hj2
            rw [if_neg h5] at hk
            exact h2 (hk.trans h7)
      · rw [List.getElem?_eq_none (by omega), List.getElem?_eq_none (by rw [wh_len]; exact hj)]
  · rw [if_neg (by simpa using h0)]
    have : l = [] := List.length_eq_zero_iff.1 (by omega)
    subst this
    rfl

/-! ### grids as lines -/
structure Gv (s : Sto) (g W : Nat) (L : List G_api_Line) (ks : List Nat) : Prop where
  g : Gw s g ks W
  nd : ks.Nodup
  l : ks.map (ln s) = L
theorem Gv.len (h : Gv s g W L ks) : L.length = ks.length := by rw [← h.l, List.length_map]
theorem Gv.ok (h : Gv s g W L ks) : ∀ x ∈ L, Okl W x := by rw [← h.l]; exact grid_lines_ok h.g
theorem Gv.at (h : Gv s g W L ks) {i : Nat} (hi : i < L.length) : ∃ kk, f_grid_Grid_Row s (some g) i = some (some kk) ∧ s.row_Row[kk]? = some ⟨L[i].Cells, L[i].Wrap⟩ ∧ Snd L[i].Cells ∧ L[i].Cells.length = W ∧
    ∀ r : G_row_Row, Snd r.cells → r.cells.length = W → Gv (s.sr kk r) g W (L.set i ⟨r.cells, r.wrap⟩) ks := by
  have hik : i < ks.length := by rw [← h.len]; exact hi
  obtain ⟨r, r1, r2, r3⟩ := h.g.at hik
  have e : L[i] = ⟨r.cells, r.wrap⟩ := by
    have : L[i]? = (ks.map (ln s))[i]? := by rw [h.l]
    rw [List.getElem?_eq_getElem hi, List.getElem?_map, List.getElem?_eq_getElem hik, Option.map_some, ln_eq r1] at this
    exact Option.some.inj this
  rw [e]
  refine ⟨ks[i], grid_row h.g hik, r1, r2, r3, fun x hx hxl => ?_⟩
  have hlt := (h.g.at hik).lt
  refine ⟨⟨h.g.g, fun j hj => ?_, h.g.h1, h.g.h2, h.g.w1, h.g.w2⟩, h.nd, ?_⟩
  · by_cases e : ks[i] = j
    · subst e; exact ⟨x, sr_get hlt, hx, hxl⟩
    · obtain ⟨r0, h1, h2⟩ := h.g.r j hj
      exact ⟨r0, (sr_ne e).trans h1, h2⟩
  · rw [← h.l]
    refine List.ext_getElem? fun j => ?_
    rw [List.getElem?_map, List.getElem?_set, List.length_map]
    rcases Nat.lt_or_ge j ks.length with hj | hj
    · rw [List.getElem?_eq_getElem hj, Option.map_some]
      by_cases e : i = j
      · subst e
        rw [if_pos rfl, if_pos hik, ln_eq (sr_get hlt)]
      · have hne : ks[i] ≠ ks[j] := by
          rcases Nat.lt_or_gt_of_ne e with h1 | h1
          · exact List.pairwise_iff_getElem.1 h.nd i j _ _ h1
          · exact (List.pairwise_iff_getElem.1 h.nd j i _ _ h1).symm
        rw [if_neg e, List.getElem?_map, List.getElem?_eq_getElem hj, Option.map_some]
        unfold ln
        rw [sr_ne hne]
    · rw [List.getElem?_eq_none hj, if_neg (by omega), List.getElem?_eq_none (by simpa using hj)]
      rfl
def tk (L : List G_api_Line) (W : Nat) (row col wide high : Int) : List G_api_Line :=
  if (wi col wide W).1 < (wi col wide W).2 then
    ((L.drop (wi row high L.length).1).take ((wi row high L.length).2 - (wi row high L.length).1)).map fun x => ⟨wh (sgm x.Cells (wi col wide W).1 ((wi col wide W).2 - (wi col wide W).1)), false⟩
  else []
def Rok (R : G_blit_Rect) : Prop := I64 R.Row ∧ I64 R.Col ∧ I64 R.Wide ∧ I64 R.High
theorem take_eq (h : Gv s g W L ks) (R : G_blit_Rect) (hR : Rok R) : f_blit_Take s (some g) R = some (tk L W R.Row R.Col R.Wide R.High) := by
  obtain ⟨h1, h2, h3, h4⟩ := hR
  have w2 := h.g.w2
  have g2 := h.g.h2
  have hl := h.len
  unfold f_blit_Take tk
  rw [grid_high h.g, ← hl]
  simp only [bsm]
  rw [within_eq _ _ (by have := h.g.h1; omega) (by omega) h1 h4, grid_wide h.g]
  simp only [bsm]
  rw [within_eq _ _ h.g.w1 w2 h2 h3]
  simp only [bsm]
  have ha := wi_cs R.Row R.High (m := L.length) (by have := h.g.h1; omega)
  have hb := wi_cs R.Col R.Wide h.g.w1
  generalize wi R.Row R.High L.length = a at *
  generalize wi R.Col R.Wide W = b at *
  obtain ⟨a1, a2⟩ := a
  obtain ⟨b1, b2⟩ := b
  simp only at ha hb ⊢
  have hb2 : b2 ≤ W := by omega
  have ha2 : a2 ≤ L.length := by omega
  obtain ⟨t, e1, e2⟩ := iter_for (σ := (List G_api_Line) × Int) (τ := (List G_api_Line)) (n := if b1 < b2 then a2 - a1 else 0) (fuel := ((a2 : Int) - (a1 : Int)).toNat + 1) (s := (([] : List G_api_Line), (a1 : Int)))
    (fun i q => q = (((L.drop a1).take i).map (fun x => (⟨wh (sgm x.Cells b1 (b2 - b1)), false⟩ : G_api_Line)), ((a1 + i : Nat) : Int)))
    (fun t => t = if b1 < b2 then ((L.drop a1).take (a2 - a1)).map (fun x => (⟨wh (sgm x.Cells b1 (b2 - b1)), false⟩ : G_api_Line)) else [])
    (step := fun s_35 =>
  (andE (decide (s_35.2 < (a2 : Int))) (some (decide ((b1 : Int) < (b2 : Int))))).bind fun d_39 =>
  if d_39 = true then
  (f_grid_Grid_Row s (some g) s_35.2).bind fun x_48 =>
  (f_row_Row_Cells s x_48).bind fun x_49 =>
  (slc x_49 (b1 : Int) (b2 : Int)).bind fun x_52 =>
  (f_blit_whole x_52).bind fun x_53 =>
  (app s_35.1 ([(⟨x_53, false⟩ : G_api_Line)] : List G_api_Line)).bind fun x_56 =>
  some (.inl (x_56, (w64 (s_35.2 + 1))))
  else
  some (.inr (s_35.1)))
    (fun i q hi e => by
      subst e
      refine .inl ⟨_, ?_, rfl⟩
      split at hi
      · rename_i hbb
        have e5 : w64 (((a1 + i : Nat) : Int) + 1) = ((a1 + (i + 1) : Nat) : Int) := by rw [w64_in (by omega)]; simp; omega
        have hd : (decide (((a1 + i : Nat) : Int) < (a2 : Int)) && decide ((b1 : Int) < (b2 : Int))) = true := by simp; omega
        simp only [andE_some, bsm, hd, if_true]
        have hiL : a1 + i < L.length := by omega
        obtain ⟨kk, k1, k2, k3, k4, _⟩ := h.at hiL
        rw [k1]
        simp only [bsm]
        rw [row_cells k2 (by omega) k3.sht]
        simp only [bsm]
        rw [slc_eq (by omega) (by omega)]
        simp only [bsm]
        rw [whole_eq (by simp; omega)]
        simp only [bsm]
        rw [app_eq (by simp; omega)]
        simp only [bsm, e5]
        rw [List.take_succ_eq_append_getElem (by simp; omega), List.map_append]
        simp [sgm]
      · omega)
    (fun q e => ⟨q.1, by
      subst e
      have hd : (decide (((a1 + (if b1 < b2 then a2 - a1 else 0) : Nat) : Int) < (a2 : Int)) && decide ((b1 : Int) < (b2 : Int))) = false := by
        rw [Bool.eq_false_iff]
        simp only [ne_eq, Bool.and_eq_true, decide_eq_true_eq]
        split <;> omega
      simp only [andE_some, bsm, hd, Bool.false_eq_true, if_false], by
      subst e
      simp only
      split
      · rfl
      · simp⟩)
    (by simp) (by split <;> omega)
  subst e2
  rw [e1]
  rfl

/-! ### lines that are put -/
def snb (p : List G_api_Cell) : Bool := decide (f_linotyperef23_Sound p = some true)
theorem snb_eq (hp : p.length ≤ 9223372036854775807) : f_linotyperef23_Sound p = some (snb p) ∧ (snb p = true ↔ Snd p) := by
  obtain ⟨b, h1, h2⟩ := ref_sound p hp
  unfold snb
  rw [h1]
  cases b with
  | false => exact ⟨rfl, by simpa using h2⟩
  | true => exact ⟨rfl, by simpa using h2⟩
theorem snb_cell (hp : p.length ≤ 9223372036854775807) : f_cell_Sound p = some (snb p) := by
  obtain ⟨b, h1, h2⟩ := cell_sound p hp
  rw [h1]
  congr 1
  rw [Bool.eq_iff_iff, h2, (snb_eq hp).2]
def good (p : List G_api_Cell) (col : Int) (W : Nat) : Bool := decide ((wi col p.length W).1 < (wi col p.length W).2) && snb p
/-- What of p lies in a row W wide, when it is put at col. -/
def cutp (p : List G_api_Cell) (col : Int) (W : Nat) : List G_api_Cell := wh (sgm p (((wi col p.length W).1 : Int) - col).toNat ((wi col p.length W).2 - (wi col p.length W).1))
def pline (x : G_api_Line) (col : Int) (W : Nat) (p : List G_api_Cell) : G_api_Line :=
  if good p col W = true then ⟨pl x.Cells (wi col p.length W).1 (cutp p col W), pw x.Cells x.Wrap (wi col p.length W).1 (cutp p col W).length⟩ else x
theorem cutp_ok {col : Int} (w1 : 1 ≤ W) (hp : p.length ≤ 9223372036854775807) (hg : good p col W = true) : Snd (cutp p col W) ∧ (cutp p col W).length = (wi col p.length W).2 - (wi col p.length W).1 := by
  unfold good at hg
  simp only [Bool.and_eq_true, decide_eq_true_eq] at hg
  have hs := (snb_eq hp).2.1 hg.2
  have hw := wi_cs col (p.length : Int) w1
  have hle : (((wi col p.length W).1 : Int) - col).toNat + ((wi col p.length W).2 - (wi col p.length W).1) ≤ p.length := by omega
  exact ⟨wh_snd hs hle, by unfold cutp; rw [wh_len, sgm_len hle]⟩
theorem line_eq (h : Gv s g W L ks) {i : Nat} (hi : i < L.length) (col : Int) (hc : I64 col) (hp : p.length ≤ 9223372036854775807) :
    ∃ s', f_blit_line s (some g) i col p = some (s', good p col W) ∧ Gv s' g W (L.set i (pline L[i] col W p)) ks := by
  have w1 := h.g.w1
  have w2 := h.g.w2
  unfold f_blit_line
  rw [grid_wide h.g]
  simp only [bsm]
  rw [within_eq _ _ w1 w2 hc (by unfold I64; omega), snb_cell hp]
  simp only [bsm, orE_some]
  have hw := wi_cs col (p.length : Int) w1
  by_cases hg : good p col W = true
  · obtain ⟨c1, c2⟩ := cutp_ok w1 hp hg
    have hg2 := hg
    unfold good at hg2
    simp only [Bool.and_eq_true, decide_eq_true_eq] at hg2
    rw [if_neg (by rw [hg2.2]; simp; omega)]
    unfold I64 at hc
    have hle : (((wi col p.length W).1 : Int) - col).toNat + ((wi col p.length W).2 - (wi col p.length W).1) ≤ p.length := by omega
    have hnn : 0 ≤ ((wi col p.length W).1 : Int) - col := by omega
    have e1 : w64 (((wi col p.length W).1 : Int) - col) = (((((wi col p.length W).1 : Int) - col).toNat : Nat) : Int) := by rw [w64_in (by omega)]; omega
    rw [e1]
    have e2 : w64 (w64 ((((((wi col p.length W).1 : Int) - col).toNat : Nat) : Int) + ((wi col p.length W).2 : Int)) - ((wi col p.length W).1 : Int)) = ((((((wi col p.length W).1 : Int) - col).toNat + ((wi col p.length W).2 - (wi col p.length W).1)) : Nat) : Int) := by
      rw [w64_in (n := (((((wi col p.length W).1 : Int) - col).toNat : Nat) : Int) + ((wi col p.length W).2 : Int)) (by omega), w64_in (by omega)]
      omega
    rw [e2, slc_eq (by omega) hle, Nat.add_sub_cancel_left]
    simp only [bsm]
    obtain ⟨kk, k1, k2, k3, k4, k5⟩ := h.at hi
    rw [k1]
    simp only [bsm]
    rw [whole_eq (by simp; omega)]
    simp only [bsm]
    change ∃ s', ((f_row_Row_Paint s (some kk) _ (cutp p col W)).bind _) = _ ∧ _
    rw [row_paint k2 k3 (by omega) c1 (by omega) (by omega)]
    refine ⟨_, by rw [hg]; rfl, ?_⟩
    have := k5 ⟨pl L[i].Cells (wi col p.length W).1 (cutp p col W), pw L[i].Cells L[i].Wrap (wi col p.length W).1 (cutp p col W).length⟩ (k3.paint c1 (by omega)) (by rw [pl_len]; exact k4)
    unfold pline
    rw [if_pos hg]
    exact this
  · have hf : good p col W = false := by simpa using hg
    rw [if_pos (by
      unfold good at hf
      simp only [Bool.or_eq_true, decide_eq_true_eq, Bool.not_eq_true']
      by_cases h5 : (wi col p.length W).1 < (wi col p.length W).2
      · right
        simpa [h5] using hf
      · left
        omega)]
    refine ⟨s, by rw [hf], ?_⟩
    unfold pline
    rw [if_neg hg, List.set_getElem_self]
    exact h

def zl : G_api_Line := ⟨[], false⟩
def inr (row : Int) (n H j : Nat) : Bool := decide ((wi row n H).1 ≤ j) && decide (j < (wi row n H).2)
def pj (P : List G_api_Line) (row : Int) (j : Nat) : List G_api_Cell := (P.getD ((j : Int) - row).toNat zl).Cells
/-- The lines when the first k of them have had P put over them. -/
def pli (L : List G_api_Line) (W : Nat) (row col : Int) (P : List G_api_Line) (k : Nat) : List G_api_Line :=
  (List.range L.length).map fun j => if j < k ∧ inr row P.length L.length j = true then pline (L.getD j zl) col W (pj P row j) else L.getD j zl
def cni (H W : Nat) (row col : Int) (P : List G_api_Line) (k : Nat) : Nat := ((List.range k).filter fun j => inr row P.length H j && good (pj P row j) col W).length
theorem pli_len (L : List G_api_Line) (W : Nat) (row col : Int) (P : List G_api_Line) (k : Nat) : (pli L W row col P k).length = L.length := by simp [pli]
theorem getD_at {j : Nat} (h : j < L.length) : L.getD j zl = L[j] := by rw [List.getD_eq_getElem?_getD, List.getElem?_eq_getElem h]; rfl
theorem pli_get (row col : Int) (k : Nat) {j : Nat} (hj : j < L.length) : (pli L W row col P k)[j]? = some (if j < k ∧ inr row P.length L.length j = true then pline L[j] col W (pj P row j) else L[j]) := by
  unfold pli
  rw [List.getElem?_map, List.getElem?_range hj, Option.map_some, getD_at hj]
theorem pli_none (row col : Int) {k : Nat} (h : ∀ j, j < k → inr row P.length L.length j = false) : pli L W row col P k = L := by
  refine List.ext_getElem? fun j => ?_
  rcases Nat.lt_or_ge j L.length with hj | hj
  · rw [pli_get row col k hj, if_neg, List.getElem?_eq_getElem hj]
    rintro ⟨h1, h2⟩
    rw [h j h1] at h2
    cases h2
  · rw [List.getElem?_eq_none (by rw [pli_len]; exact hj), List.getElem?_eq_none hj]
theorem pli_same (row col : Int) {k k' : Nat} (h : ∀ j, j < L.length → inr row P.length L.length j = true → (j < k ↔ j < k')) : pli L W row col P k = pli L W row col P k' := by
  refine List.ext_getElem? fun j => ?_
  rcases Nat.lt_or_ge j L.length with hj | hj
  · rw [pli_get row col k hj, pli_get row col k' hj]
    congr 1
    by_cases h1 : inr row P.length L.length j = true
    · have := h j hj h1
      by_cases h2 : j < k
      · rw [if_pos ⟨h2, h1⟩, if_pos ⟨this.1 h2, h1⟩]
      · rw [if_neg (fun e => h2 e.1), if_neg (fun e => h2 (this.2 e.1))]
    · rw [if_neg (fun e => h1 e.2), if_neg (fun e => h1 e.2)]
  · rw [List.getElem?_eq_none (by rw [pli_len]; exact hj), List.getElem?_eq_none (by rw [pli_len]; exact hj)]
theorem pli_succ (row col : Int) {k : Nat} (hk : k < L.length) (hi : inr row P.length L.length k = true) : pli L W row col P (k + 1) = (pli L W row col P k).set k (pline L[k] col W (pj P row k)) := by
  refine List.ext_getElem? fun j => ?_
  rw [List.getElem?_set, pli_len]
  by_cases e : k = j
  · subst e
    rw [if_pos rfl, if_pos hk, pli_get row col _ hk, if_pos ⟨by omega, hi⟩]
  · rw [if_neg e]
    rcases Nat.lt_or_ge j L.length with hj | hj
    · rw [pli_get row col _ hj, pli_get row col _ hj]
      congr 1
      by_cases h5 : j < k ∧ inr row P.length L.length j = true
      · rw [if_pos h5, if_pos ⟨by omega, h5.2⟩]
      · rw [if_neg h5, if_neg (fun h6 => h5 ⟨by omega, h6.2⟩)]
    · rw [List.getElem?_eq_none (by rw [pli_len]; exact hj), List.getElem?_eq_none (by rw [pli_len]; exact hj)]
theorem pli_at (row col : Int) {k : Nat} (hk : k < L.length) : (pli L W row col P k)[k]'(by rw [pli_len]; exact hk) = L[k] := by
  have := pli_get (W := W) (P := P) row col k hk
  rw [List.getElem?_eq_getElem (by rw [pli_len]; exact hk), if_neg (by omega)] at this
  exact Option.some.inj this
theorem cni_succ (H W : Nat) (row col : Int) (P : List G_api_Line) (k : Nat) : cni H W row col P (k + 1) = cni H W row col P k + (if (inr row P.length H k && good (pj P row k) col W) = true then 1 else 0) := by
  unfold cni
  rw [List.range_succ, List.filter_append, List.length_append]
  congr 1
  cases hb : (inr row P.length H k && good (pj P row k) col W) <;> simp [hb]
theorem cni_le (H W : Nat) (row col : Int) (P : List G_api_Line) (k : Nat) : cni H W row col P k ≤ k := by
  unfold cni
  exact Nat.le_trans (List.length_filter_le _ _) (by simp)
theorem cni_same (H W : Nat) (row col : Int) (P : List G_api_Line) {k k' : Nat} (hle : k ≤ k') (h : ∀ j, k ≤ j → j < k' → inr row P.length H j = false) : cni H W row col P k' = cni H W row col P k := by
  induction k' with
  | zero => rw [show k = 0 by omega]
  | succ n ih =>
    by_cases e : k = n + 1
    · rw [e]
    · rw [cni_succ, ih (by omega) (fun j h1 h2 => h j h1 (by omega)), h n (by omega) (by omega)]
      rfl
theorem put_b (h : Gv s g W L ks) (row col : Int) (P : List G_api_Line) (hr : I64 row) (hc : I64 col) (hP : P.length ≤ 9223372036854775807) (hPc : ∀ x ∈ P, x.Cells.length ≤ 9223372036854775807) :
    ∃ s', f_blit_Put s (some g) row col P = some (s', (cni L.length W row col P L.length : Int)) ∧ Gv s' g W (pli L W row col P L.length) ks := by
  have g1 := h.g.h1
  have g2 := h.g.h2
  have hl := h.len
  have hr2 := hr
  unfold I64 at hr2
  unfold f_blit_Put
  rw [grid_high h.g, ← hl]
  simp only [bsm]
  rw [within_eq _ _ (by omega) (by omega) hr (by unfold I64; omega)]
  simp only [bsm]
  have ha := wi_cs row (P.length : Int) (m := L.length) (by omega)
  have hin : ∀ j, inr row P.length L.length j = (decide ((wi row P.length L.length).1 ≤ j) && decide (j < (wi row P.length L.length).2)) := fun _ => rfl
  generalize wi row (P.length : Int) L.length = a at ha hin ⊢
  obtain ⟨a1, a2⟩ := a
  simp only at ha hin ⊢
  have hin1 : ∀ j, a1 ≤ j → j < a2 → inr row P.length L.length j = true := fun j h1 h2 => by rw [hin]; simp [h1, h2]
  have hin0 : ∀ j, j < a1 ∨ a2 ≤ j → inr row P.length L.length j = false := fun j h1 => by
    rw [hin, Bool.eq_false_iff]
    simp only [ne_eq, Bool.and_eq_true, decide_eq_true_eq]
    omega
  obtain ⟨t, q1, q2⟩ := iter_for (σ := Int × Int × Sto) (τ := (Int × Sto)) (n := a2 - a1) (fuel := ((a2 : Int) - (a1 : Int)).toNat + 1) (s := (0, (a1 : Int), s))
    (fun i q => q.1 = (cni L.length W row col P (a1 + i) : Int) ∧ q.2.1 = ((a1 + i : Nat) : Int) ∧ Gv q.2.2 g W (pli L W row col P (a1 + i)) ks)
    (fun t => t.1 = (cni L.length W row col P L.length : Int) ∧ Gv t.2 g W (pli L W row col P L.length) ks)
    (step := fun s_20 =>
  if (decide (s_20.2.1 < (a2 : Int))) = true then
  ((idx P (w64 (s_20.2.1 - row))).bind fun x_33 =>
  (f_blit_line s_20.2.2 (some g) s_20.2.1 col x_33.Cells).bind fun x_36 =>
  if x_36.2 = true then
  (some ((w64 (s_20.1 + 1)), x_36.1) : Option (Int × Sto))
  else
  (some (s_20.1, x_36.1) : Option (Int × Sto))).bind fun z_25 =>
  some (.inl (z_25.1, (w64 (s_20.2.1 + 1)), z_25.2))
  else
  some (.inr (s_20.1, s_20.2.2)))
    (fun i q hi ⟨f1, f2, f3⟩ => by
      obtain ⟨n0, k0, s0⟩ := q
      simp only at f1 f2 f3
      subst f1 f2
      have e5 : w64 (((a1 + i : Nat) : Int) + 1) = ((a1 + (i + 1) : Nat) : Int) := by rw [w64_in (by omega)]; simp; omega
      have hd : decide (((a1 + i : Nat) : Int) < (a2 : Int)) = true := by simp; omega
      have hkL : a1 + i < L.length := by omega
      have e6 : w64 (((a1 + i : Nat) : Int) - row) = (((((a1 + i : Nat) : Int) - row).toNat : Nat) : Int) := by rw [w64_in (by omega)]; omega
      have hjP : (((a1 + i : Nat) : Int) - row).toNat < P.length := by omega
      have hpj : pj P row (a1 + i) = P[(((a1 + i : Nat) : Int) - row).toNat].Cells := by
        unfold pj
        rw [getD_at hjP]
      simp only [hd, if_true, e5]
      rw [e6, idx_at hjP]
      simp only [bsm]
      rw [← hpj]
      have hlp : (pj P row (a1 + i)).length ≤ 9223372036854775807 := by rw [hpj]; exact hPc _ (List.getElem_mem hjP)
      obtain ⟨s', r1, r2⟩ := line_eq f3 (i := a1 + i) (by rw [pli_len]; exact hkL) col hc hlp
      rw [pli_at row col hkL, ← pli_succ row col hkL (hin1 _ (by omega) (by omega))] at r2
      rw [r1]
      simp only [bsm]
      have hcs := cni_succ L.length W row col P (a1 + i)
      rw [hin1 _ (by omega) (by omega), Bool.true_and] at hcs
      have hcl := cni_le L.length W row col P (a1 + i)
      cases hg : good (pj P row (a1 + i)) col W with
      | true =>
        rw [hg, if_pos rfl] at hcs
        rw [if_pos rfl]
        refine .inl ⟨_, rfl, ?_, rfl, r2⟩
        simp only
        rw [w64_in (by omega), show a1 + (i + 1) = a1 + i + 1 by omega, hcs]
        simp
      | false =>
        rw [hg, if_neg (by decide)] at hcs
        rw [if_neg (by decide)]
        exact .inl ⟨_, rfl, by simp only; rw [show a1 + (i + 1) = a1 + i + 1 by omega, hcs]; rfl, rfl, r2⟩)
    (fun q ⟨f1, f2, f3⟩ => ⟨(q.1, q.2.2), by
      have hd : decide (q.2.1 < (a2 : Int)) = false := by rw [f2]; simp; omega
      simp only [hd, Bool.false_eq_true, if_false], by
      have c1 := cni_same L.length W row col P (k := a1 + (a2 - a1)) (k' := L.length) (by omega) (fun j h1 h2 => hin0 j (by omega))
      have c2 := pli_same (L := L) (W := W) (P := P) row col (k := a1 + (a2 - a1)) (k' := L.length) (fun j h1 h2 => by
        by_cases h3 : j < a1 ∨ a2 ≤ j
        · rw [hin0 j h3] at h2; cases h2
        · omega)
      simp only
      rw [c1, ← c2]
      exact ⟨f1, f3⟩⟩)
    ⟨by
      rw [Nat.add_zero, cni_same L.length W row col P (k := 0) (k' := a1) (Nat.zero_le _) (fun j _ h2 => hin0 j (.inl h2))]
      rfl, by simp, by
      rw [Nat.add_zero, pli_none row col (fun j h1 => hin0 j (.inl h1))]
      exact h⟩ (by omega)
  rw [q1]
  obtain ⟨t1, t2⟩ := t
  simp only at q2
  obtain ⟨q2, q3⟩ := q2
  subst q2
  exact ⟨t2, rfl, q3⟩
end Go.Proofs.YtohpkblleihmaaaDoor
