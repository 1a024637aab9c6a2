/-
  Pens, in plain Lean: they do as the document's. Conditions: each lemma's own.
-/
import Derived.Test.YthokmpbbkpjhbaaGreatDoorPj
import Derived.Test.YthokmpbbkpjhbaaGreatDoorPk
import Derived.Test.YthokmpbbkpjhbaaGreatDoorN1
namespace Go.Proofs.YthokmpbbkpjhbaaGreatDoor
open Go Go.Lt
variable {s C : Sto} {g k W : Nat} {ks : List Nat} {l p : List G_api_Cell} {w : Bool} {q : G_linotyperef34_Pen}

def Sto.sp (s : Sto) (k : Nat) (x : G_place_Pen) : Sto := { s with place_Pen := s.place_Pen.set k x }
theorem set_pen {x : G_place_Pen} (h : k < s.place_Pen.length) : s.set_place_Pen k x = some (s.sp k x) := by
  simp only [Sto.set_place_Pen, h, if_true]
  rfl
theorem sp_get {x : G_place_Pen} (h : k < s.place_Pen.length) : (s.sp k x).place_Pen[k]? = some x := by simp [Sto.sp, h]
theorem sp_sp (s : Sto) (k : Nat) (x y : G_place_Pen) : (s.sp k x).sp k y = s.sp k y := by simp [Sto.sp]
theorem Gw.sp (h : Gw s g ks W) (k : Nat) (x : G_place_Pen) : Gw (s.sp k x) g ks W := ⟨h.g, h.r, h.h1, h.h2, h.w1, h.w2⟩
theorem ln_sp (k : Nat) (x : G_place_Pen) (j : Nat) : ln (s.sp k x) j = ln s j := rfl

/-- The grid of the pen k, and the rows of that grid. -/
def ownG (C : Sto) (k g : Nat) : Prop := ∃ x, C.place_Pen[k]? = some x ∧ x.G = some g
def ownR (C : Sto) (k r : Nat) : Prop := ∃ g y, ownG C k g ∧ C.grid_Grid[g]? = some y ∧ some r ∈ y.rows
/-- What the pen k's work leaves of the store C: all other pens, grids and rows. -/
structure Fr (C s : Sto) (k g : Nat) (ks : List Nat) : Prop where
  pl : C.place_Pen.length ≤ s.place_Pen.length
  gl : C.grid_Grid.length ≤ s.grid_Grid.length
  rl : C.row_Row.length ≤ s.row_Row.length
  pn : ∀ j, j < C.place_Pen.length → j ≠ k → s.place_Pen[j]? = C.place_Pen[j]?
  gr : ∀ j, j < C.grid_Grid.length → ¬ ownG C k j → s.grid_Grid[j]? = C.grid_Grid[j]?
  rw : ∀ j, j < C.row_Row.length → ¬ ownR C k j → s.row_Row[j]? = C.row_Row[j]?
  ng : ownG C k g ∨ C.grid_Grid.length ≤ g
  nr : ∀ r ∈ ks, ownR C k r ∨ C.row_Row.length ≤ r
theorem Fr.self {p : G_place_Pen} (h : s.place_Pen[k]? = some p) (hg : p.G = some g) (hk : s.grid_Grid[g]? = some ⟨ks.map some⟩) : Fr s s k g ks :=
  ⟨Nat.le_refl _, Nat.le_refl _, Nat.le_refl _, fun _ _ _ => rfl, fun _ _ _ => rfl, fun _ _ _ => rfl, .inl ⟨p, h, hg⟩, fun r hr => .inl ⟨g, _, ⟨p, h, hg⟩, hk, List.mem_map.2 ⟨r, hr, rfl⟩⟩⟩
theorem Fr.new (h1 : C.place_Pen.length ≤ s.place_Pen.length) (h2 : C.grid_Grid.length ≤ s.grid_Grid.length) (h3 : C.row_Row.length ≤ s.row_Row.length) (h4 : ∀ j, j < C.place_Pen.length → s.place_Pen[j]? = C.place_Pen[j]?)
    (h5 : ∀ j, j < C.grid_Grid.length → s.grid_Grid[j]? = C.grid_Grid[j]?) (h6 : ∀ j, j < C.row_Row.length → s.row_Row[j]? = C.row_Row[j]?) (h7 : C.grid_Grid.length ≤ g) (h8 : ∀ r ∈ ks, C.row_Row.length ≤ r) : Fr C s k g ks :=
  ⟨h1, h2, h3, fun j a _ => h4 j a, fun j a _ => h5 j a, fun j a _ => h6 j a, .inr h7, fun r hr => .inr (h8 r hr)⟩
theorem Fr.step {s' : Sto} {g' : Nat} {ks' : List Nat} (h : Fr C s k g ks) (f : Rf s s' g ks g' ks') (hp : s'.place_Pen = s.place_Pen) : Fr C s' k g' ks' := by
  refine ⟨by rw [hp]; exact h.pl, Nat.le_trans h.gl f.gl, Nat.le_trans h.rl f.rl, fun j a b => by rw [hp]; exact h.pn j a b, fun j a b => ?_, fun j a b => ?_, ?_, fun r hr => ?_⟩
  · have := h.gl
    rw [f.gr j (by omega) ?_, h.gr j a b]
    rintro rfl
    rcases h.ng with q | q
    · exact b q
    · omega
  · have := h.rl
    rw [f.rw j (by omega) ?_, h.rw j a b]
    intro hj
    rcases h.nr j hj with q | q
    · exact b q
    · omega
  · rcases f.ng with rfl | q
    · exact h.ng
    · exact .inr (Nat.le_trans h.gl q)
  · rcases f.nr r hr with q | q
    · exact h.nr r q
    · exact .inr (Nat.le_trans h.rl q)
theorem Fr.sp (h : Fr C s k g ks) (x : G_place_Pen) : Fr C (s.sp k x) k g ks :=
  ⟨by simp only [Sto.sp, List.length_set]; exact h.pl, h.gl, h.rl, fun j a b => by simp only [Sto.sp]; rw [List.getElem?_set_ne (Ne.symm b)]; exact h.pn j a b, h.gr, h.rw, h.ng, h.nr⟩
theorem Fr.sr (h : Fr C s k g ks) {i : Nat} (hi : i ∈ ks) (r : G_row_Row) : Fr C (s.sr i r) k g ks := by
  refine h.step (s' := s.sr i r) ⟨Nat.le_refl _, by simp [Sto.sr], fun _ _ _ => rfl, fun j _ b => ?_, .inl rfl, fun r hr => .inl hr⟩ rfl
  exact sr_ne (fun e => b (e ▸ hi))
theorem Fr.addp (h : Fr C s k g ks) (x : G_place_Pen) : Fr C (s.add_place_Pen x) k g ks :=
  ⟨by have := h.pl; simp only [Sto.add_place_Pen, List.length_append]; omega, h.gl, h.rl, fun j a b => by have := h.pl; simp only [Sto.add_place_Pen]; rw [List.getElem?_append_left (by omega)]; exact h.pn j a b, h.gr, h.rw, h.ng, h.nr⟩
/-- Stores that have the same rows, grids and pens. -/
structure Rgp (s s' : Sto) : Prop where
  r : s'.row_Row = s.row_Row
  g : s'.grid_Grid = s.grid_Grid
  p : s'.place_Pen = s.place_Pen
theorem Rgp.self (s : Sto) : Rgp s s := ⟨rfl, rfl, rfl⟩
theorem Rgp.symm {s s' : Sto} (h : Rgp s s') : Rgp s' s := ⟨h.r.symm, h.g.symm, h.p.symm⟩
theorem Rgp.trans {s s' s'' : Sto} (h : Rgp s s') (h' : Rgp s' s'') : Rgp s s'' := ⟨h'.r.trans h.r, h'.g.trans h.g, h'.p.trans h.p⟩
theorem Rgp.ownG {s s' : Sto} (h : Rgp s s') (k g : Nat) : ownG s' k g ↔ ownG s k g := by unfold Go.Proofs.YthokmpbbkpjhbaaGreatDoor.ownG; rw [h.p]
theorem Rgp.ownR {s s' : Sto} (h : Rgp s s') (k r : Nat) : ownR s' k r ↔ ownR s k r := by unfold Go.Proofs.YthokmpbbkpjhbaaGreatDoor.ownR; rw [h.g]; simp only [h.ownG]
theorem Fr.rgp {C' s' : Sto} (h : Fr C s k g ks) (hC : Rgp C C') (hs : Rgp s s') : Fr C' s' k g ks := by
  refine ⟨by rw [hC.p, hs.p]; exact h.pl, by rw [hC.g, hs.g]; exact h.gl, by rw [hC.r, hs.r]; exact h.rl, ?_, ?_, ?_, ?_, ?_⟩
  · rw [hC.p, hs.p]; exact h.pn
  · rw [hC.g, hs.g]; simp only [hC.ownG]; exact h.gr
  · rw [hC.r, hs.r]; simp only [hC.ownR]; exact h.rw
  · rw [hC.g, hC.ownG]; exact h.ng
  · rw [hC.r]; simp only [hC.ownR]; exact h.nr
/-- One piece of work behind the other. -/
theorem Fr.trans {B : Sto} {g0 : Nat} {ks0 : List Nat} (h : Fr B C k g0 ks0) (hg : ∀ j, ownG C k j → j = g0) (hr : ∀ j, ownR C k j → j ∈ ks0) (h' : Fr C s k g ks) : Fr B s k g ks := by
  have hl := h.gl
  have hl2 := h.rl
  have hl3 := h.pl
  refine ⟨Nat.le_trans h.pl h'.pl, Nat.le_trans h.gl h'.gl, Nat.le_trans h.rl h'.rl, fun j a b => ?_, fun j a b => ?_, fun j a b => ?_, ?_, fun r hr' => ?_⟩
  · rw [h'.pn j (by omega) b, h.pn j a b]
  · rw [h'.gr j (by omega) ?_, h.gr j a b]
    intro q
    obtain rfl := hg j q
    rcases h.ng with q | q
    · exact b q
    · omega
  · rw [h'.rw j (by omega) ?_, h.rw j a b]
    intro q
    rcases h.nr j (hr j q) with q | q
    · exact b q
    · omega
  · rcases h'.ng with q | q
    · obtain rfl := hg g q; exact h.ng
    · exact .inr (by omega)
  · rcases h'.nr r hr' with q | q
    · exact h.nr r (hr r q)
    · exact .inr (by omega)

/-- The pen k, over the grid g that is W wide, is as the document's q. -/
structure Pv (C s : Sto) (k g_ W : Nat) (q : G_linotyperef34_Pen) (ks : List Nat) : Prop where
  p : s.place_Pen[k]? = some ⟨some g_, q.At, q.Auto⟩
  g : Gw s g_ ks W
  nd : ks.Nodup
  l : ks.map (ln s) = q.L
  o : s.oth = C.oth
  f : Fr C s k g_ ks
theorem Pv.self (h : Pv C s k g W q ks) : Pv s s k g W q ks := ⟨h.p, h.g, h.nd, h.l, rfl, Fr.self h.p rfl h.g.g⟩
/-- The pen's own grid, and its rows. -/
theorem Pv.oG (h : Pv C s k g W q ks) (j : Nat) (hj : ownG s k j) : j = g := by
  obtain ⟨x, h1, h2⟩ := hj
  rw [h.p] at h1
  cases h1
  exact (Option.some.inj h2).symm
theorem Pv.oR (h : Pv C s k g W q ks) (j : Nat) (hj : ownR s k j) : j ∈ ks := by
  obtain ⟨g', y, h1, h2, h3⟩ := hj
  obtain rfl := h.oG g' h1
  rw [h.g.g] at h2
  cases h2
  obtain ⟨r, h4, h5⟩ := List.mem_map.1 h3
  cases h5
  exact h4
theorem Pv.len (h : Pv C s k g W q ks) : q.L.length = ks.length := by rw [← h.l, List.length_map]
theorem Pv.ok (h : Pv C s k g W q ks) : ∀ x ∈ q.L, Okl W x := by rw [← h.l]; exact grid_lines_ok h.g
theorem Pv.at (h : Pv C s k g W q ks) {i : Nat} (hi : i < ks.length) : q.L[i]'(by rw [h.len]; exact hi) = ln s ks[i] := by
  have := h.l
  have e : q.L[i]? = (ks.map (ln s))[i]? := by rw [this]
  rw [List.getElem?_eq_getElem (by rw [h.len]; exact hi), List.getElem?_map, List.getElem?_eq_getElem hi] at e
  exact Option.some.inj e
/-- The pen's own fields set. -/
theorem Pv.set (h : Pv C s k g W q ks) (c : G_api_Cursor) (a : Bool) : Pv C (s.sp k ⟨some g, c, a⟩) k g W ⟨q.L, c, a⟩ ks :=
  ⟨sp_get (get_lt h.p), h.g.sp _ _, h.nd, h.l, h.o, h.f.sp _⟩
/-- A row of the pen's grid set. -/
theorem Pv.row (h : Pv C s k g W q ks) {i : Nat} (hi : i < ks.length) {r : G_row_Row} (hr : Snd r.cells) (hl : r.cells.length = W) : Pv C (s.sr ks[i] r) k g W ⟨q.L.set i ⟨r.cells, r.wrap⟩, q.At, q.Auto⟩ ks := by
  have hlt := (h.g.at hi).lt
  refine ⟨h.p, ⟨h.g.g, fun j hj => ?_, h.g.h1, h.g.h2, h.g.w1, h.g.w2⟩, h.nd, ?_, h.o, h.f.sr (List.getElem_mem hi) _⟩
  · by_cases e : ks[i] = j
    · subst e; exact ⟨r, sr_get hlt, hr, hl⟩
    · obtain ⟨r0, h1, h2⟩ := h.g.r j hj
      exact ⟨r0, (sr_ne e).trans h1, h2⟩
  · refine List.ext_getElem? fun j => ?_
    rw [List.getElem?_map, List.getElem?_set]
    rcases Nat.lt_or_ge j ks.length with hj | hj
    · rw [List.getElem?_eq_getElem hj, Option.map_some]
      by_cases e : i = j
      · subst e
        rw [if_pos rfl, if_pos (by rw [h.len]; exact hi), ln_eq (sr_get hlt)]
      · have hne : ks[i] ≠ ks[j] := by
          rcases Nat.lt_or_gt_of_ne e with h1 | h1
          · exact List.pairwise_iff_getElem.1 h.nd i j _ _ h1
          · exact (List.pairwise_iff_getElem.1 h.nd j i _ _ h1).symm
        rw [if_neg e, List.getElem?_eq_getElem (by rw [h.len]; exact hj), h.at hj]
        unfold ln
        rw [sr_ne hne]
    · rw [List.getElem?_eq_none hj, if_neg (by omega), List.getElem?_eq_none (by rw [h.len]; exact hj)]
      rfl

/-! ### cursors -/
def hc (c : G_api_Cursor) (W h : Nat) : G_api_Cursor := ⟨max 0 (min c.Row ((h : Int) - 1)), max 0 (min c.Col ((W : Int) - 1)), c.Pending && (c.Col == (W : Int) - 1)⟩
theorem cur_side {n : Nat} (h1 : 1 ≤ n) (h2 : n ≤ 1024) : f_cursor_side n = some (n : Int) := by
  unfold f_cursor_side
  rw [imax_eq, imin_eq]
  congr 1
  omega
theorem ref_side {n : Nat} (h1 : 1 ≤ n) (h2 : n ≤ 1024) : f_linotyperef31_Side n = some (n : Int) := by
  unfold f_linotyperef31_Side
  rw [if_neg (by simp; omega), if_neg (by simp; omega)]
theorem cur_hold (c : G_api_Cursor) {W h : Nat} (w1 : 1 ≤ W) (w2 : W ≤ 1024) (h1 : 1 ≤ h) (h2 : h ≤ 1024) : f_cursor_Hold c W h = some (hc c W h) := by
  unfold f_cursor_Hold f_cursor_held
  rw [cur_side w1 w2, cur_side h1 h2]
  simp only [bsm, andE_some]
  rw [w64_in (by omega), w64_in (by omega), imax_eq, imin_eq, imax_eq, imin_eq]
  rfl
theorem ref_within (n : Int) {m : Nat} (h1 : 1 ≤ m) (h2 : m ≤ 1024) : f_linotyperef31_within n m = some (max 0 (min n ((m : Int) - 1))) := by
  unfold f_linotyperef31_within
  rw [w64_in (by omega)]
  by_cases a : n < 0
  · rw [if_pos (by simpa using a)]
    congr 1
    omega
  · rw [if_neg (by simpa using a)]
    by_cases b : (m : Int) ≤ n
    · rw [if_pos (by simpa using b)]
      congr 1
      omega
    · rw [if_neg (by simpa using b)]
      congr 1
      omega
theorem ref_hold (c : G_api_Cursor) {W h : Nat} (w1 : 1 ≤ W) (w2 : W ≤ 1024) (h1 : 1 ≤ h) (h2 : h ≤ 1024) : f_linotyperef31_Hold c W h = some (hc c W h) := by
  unfold f_linotyperef31_Hold
  rw [ref_side h1 h2, ref_side w1 w2]
  simp only [bsm, andE_some]
  rw [ref_within _ h1 h2, ref_within _ w1 w2, w64_in (by omega)]
  rfl

/-- The cursor may be. -/
structure Hd (c : G_api_Cursor) (W h : Nat) : Prop where
  rr : 0 ≤ c.Row ∧ c.Row < (h : Int)
  cc : 0 ≤ c.Col ∧ c.Col < (W : Int)
  pp : c.Pending = true → c.Col = (W : Int) - 1
theorem hc_hd (c : G_api_Cursor) {W h : Nat} (w1 : 1 ≤ W) (h1 : 1 ≤ h) : Hd (hc c W h) W h := by
  refine ⟨by simp only [hc]; omega, by simp only [hc]; omega, fun hp => ?_⟩
  simp only [hc, Bool.and_eq_true, beq_iff_eq] at hp ⊢
  omega
theorem hc_id {c : G_api_Cursor} {W h : Nat} (hd : Hd c W h) : hc c W h = c := by
  obtain ⟨h1, h2, h3⟩ := hd
  obtain ⟨a, b, d⟩ := c
  simp only at h1 h2 h3
  unfold hc
  simp only [G_api_Cursor.mk.injEq]
  refine ⟨by omega, by omega, ?_⟩
  cases d with
  | false => rfl
  | true => rw [h3 rfl]; simp

/-! ### the pen's steps -/
theorem pen_ready (h : Pv C s k g W q ks) : f_place_Pen_ready s (some k) = some (s.sp k ⟨some g, hc q.At W ks.length, q.Auto⟩, true) := by
  unfold f_place_Pen_ready
  simp only [Option.isNone_some, orE_false, bsm, h.p, Bool.false_eq_true, if_false]
  rw [grid_wide h.g, grid_high h.g]
  simp only [bsm]
  rw [cur_hold _ h.g.w1 h.g.w2 h.g.h1 h.g.h2]
  simp only [bsm]
  rw [set_pen (get_lt h.p)]
  rfl
theorem ref_wide (h : Pv C s k g W q ks) : f_linotyperef34_Pen_Wide q = some (W : Int) := by
  have hl := h.len
  have h1 := h.g.h1
  have h0 : idx q.L (0 : Int) = some (q.L[0]'(by omega)) := idx_at (i := 0) (by omega)
  unfold f_linotyperef34_Pen_Wide
  rw [h0]
  simp only [bsm]
  rw [(h.ok _ (List.getElem_mem _)).2]
theorem ref_Hold (h : Pv C s k g W q ks) : f_linotyperef34_Pen_Hold q = some ⟨q.L, hc q.At W ks.length, q.Auto⟩ := by
  unfold f_linotyperef34_Pen_Hold
  rw [ref_wide h]
  simp only [bsm]
  rw [h.len, ref_hold _ h.g.w1 h.g.w2 h.g.h1 h.g.h2]
  rfl
theorem newline_eq (h : Pv C s k g W q ks) : ∃ s' q' ks', f_place_Pen_NewLine s (some k) = some s' ∧ f_linotyperef34_Pen_NewLine q = some q' ∧ Pv C s' k g W q' ks' ∧ ks'.length = ks.length ∧
    Hd q'.At W ks.length ∧ q'.At.Pending = false ∧ q'.At.Col = (hc q.At W ks.length).Col ∧ q'.Auto = q.Auto := by
  have h1 := h.set (hc q.At W ks.length) q.Auto
  have hd := hc_hd q.At h.g.w1 h.g.h1
  have hh := h.g.h2
  unfold f_place_Pen_NewLine f_linotyperef34_Pen_NewLine
  rw [pen_ready h, ref_Hold h]
  generalize hc q.At W ks.length = c at *
  simp only [bsm, Bool.not_true, Bool.false_eq_true, if_false]
  rw [h1.p]
  simp only [bsm]
  rw [grid_high h1.g]
  simp only [bsm]
  unfold f_cursor_Down
  rw [cur_side h.g.h1 h.g.h2]
  simp only [bsm]
  rw [w64_in (by omega), w64_in (by have := hd.rr; omega), h.len]
  have hr := hd.rr
  by_cases he : (ks.length : Int) - 1 ≤ c.Row
  · rw [if_pos (by simpa using he), if_neg (by simp; omega)]
    have h2 := h1.set ⟨c.Row, c.Col, false⟩ q.Auto
    rw [sp_sp] at h2
    simp only [bsm]
    rw [set_pen (by rw [show (s.sp k ⟨some g, c, q.Auto⟩).place_Pen.length = s.place_Pen.length by simp [Sto.sp]]; exact get_lt h.p), sp_sp]
    simp only [bsm, if_true]
    rw [grid_high h2.g]
    simp only [bsm]
    obtain ⟨s', ks', u1, ⟨u2, u3, u4, u5⟩, u6, u7⟩ := up_eq2 h2.g h2.nd 0 (ks.length : Int) 1
    have hm := ref_move (W := W) (L := q.L) (by rw [h.len]; exact hh) h.g.w2 (fun x hx => (h.ok x hx).2) 0 (ks.length : Int) 1 true
    rw [h.len] at hm
    rw [u1, hm]
    refine ⟨s', _, ks', rfl, rfl, ⟨?_, u2, u3, ?_, (rst_oth u6).trans h2.o, h2.f.step u7 (rst_pen u6)⟩, u4, ⟨hr, hd.cc, fun e => by cases e⟩, rfl, rfl, rfl⟩
    · rw [rst_pen u6]; exact h2.p
    · rw [u5, h2.l]
  · rw [if_neg (by simpa using he), if_pos (by simp; omega)]
    have h2 := h1.set ⟨c.Row + 1, c.Col, false⟩ q.Auto
    rw [sp_sp] at h2
    simp only [bsm]
    rw [set_pen (by rw [show (s.sp k ⟨some g, c, q.Auto⟩).place_Pen.length = s.place_Pen.length by simp [Sto.sp]]; exact get_lt h.p), sp_sp]
    simp only [bsm, Bool.false_eq_true, if_false]
    exact ⟨_, _, ks, rfl, rfl, h2, rfl, ⟨by simp only; omega, hd.cc, fun e => by cases e⟩, rfl, rfl, rfl⟩

/-- A line of the document's pen set. -/
theorem ref_with (h : Pv C s k g W q ks) {i : Nat} (hi : i < ks.length) (x : G_api_Line) : f_linotyperef34_Pen_With q i x = some ⟨q.L.set i x, q.At, q.Auto⟩ := by
  have hl := h.len
  have hh := h.g.h2
  unfold f_linotyperef34_Pen_With
  rw [app_eq (by simp; omega), List.nil_append]
  simp only [bsm]
  rw [idx_at (show i < q.L.length by omega), sets_nat (show i < q.L.length by omega)]
  rfl
theorem goon_eq (h : Pv C s k g W q ks) (hd : 0 ≤ q.At.Row ∧ q.At.Row < (ks.length : Int)) : ∃ s' q' ks', f_place_Pen_goOn s (some k) = some s' ∧ f_linotyperef34_Pen_GoOn q = some q' ∧ Pv C s' k g W q' ks' ∧ ks'.length = ks.length ∧
    Hd q'.At W ks.length ∧ q'.At.Pending = false ∧ q'.At.Col = 0 ∧ q'.Auto = q.Auto := by
  obtain ⟨i, hi⟩ : ∃ i : Nat, q.At.Row = (i : Int) := ⟨q.At.Row.toNat, by omega⟩
  have hik : i < ks.length := by omega
  have hl := h.len
  obtain ⟨r, r1, r2, r3⟩ := h.g.at hik
  have hrow := h.row hik (r := ⟨r.cells, true⟩) r2 r3
  have h2 := hrow.set ⟨q.At.Row, 0, false⟩ q.Auto
  have w1 := h.g.w1
  unfold f_place_Pen_goOn f_linotyperef34_Pen_GoOn
  simp only [bsm, h.p, hi]
  rw [grid_row h.g hik]
  simp only [bsm]
  rw [row_goon (l := r.cells) (w := r.wrap) r1]
  simp only [bsm]
  rw [hrow.p]
  simp only [bsm, f_cursor_Return]
  rw [set_pen (get_lt hrow.p)]
  simp only [bsm]
  rw [idx_at (show i < q.L.length by omega), h.at hik, ln_eq r1]
  simp only [bsm]
  rw [ref_with h hik]
  simp only [bsm, hi]
  obtain ⟨s', q', ks', n1, n2, n3, n4, n5, n6, n7, n8⟩ := newline_eq h2
  rw [hi] at n1 n2
  rw [n1, n2]
  refine ⟨s', q', ks', rfl, rfl, n3, n4, n5, n6, ?_, n8⟩
  rw [n7]
  simp only [hc]
  omega
/-- A strip painted into a row of the pen's grid. -/
theorem paint_eq (h : Pv C s k g W q ks) {i a : Nat} (hi : i < ks.length) (hp : Snd p) (hn : 1 ≤ p.length) (ha : a + p.length ≤ W) : ∃ s' q', f_row_Row_Paint s (some ks[i]) a p = some (s', Er.nil) ∧ f_linotyperef34_Pen_Paint q i a p = some q' ∧
    Pv C s' k g W q' ks ∧ q'.At = q.At ∧ q'.Auto = q.Auto ∧ q'.L = q.L.set i ⟨pl (ln s ks[i]).Cells a p, pw (ln s ks[i]).Cells (ln s ks[i]).Wrap a p.length⟩ := by
  obtain ⟨r, r1, r2, r3⟩ := h.g.at hi
  have w2 := h.g.w2
  have hl := h.len
  have hrow := h.row hi (r := ⟨pl r.cells a p, pw r.cells r.wrap a p.length⟩) (r2.paint hp (by rw [r3]; exact ha)) (by rw [pl_len]; exact r3)
  refine ⟨_, _, row_paint (l := r.cells) (w := r.wrap) r1 r2 (by omega) hp hn (by omega), ?_, hrow, rfl, rfl, by rw [ln_eq r1]⟩
  unfold f_linotyperef34_Pen_Paint
  rw [idx_at (show i < q.L.length by omega), h.at hi, ln_eq r1]
  simp only [bsm]
  rw [ref_paint _ _ _ _ (by omega) (by omega) (by omega)]
  simp only [bsm]
  rw [ref_with h hi]
  rfl
end Go.Proofs.YthokmpbbkpjhbaaGreatDoor
