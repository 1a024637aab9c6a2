/-
  Clusters that grow number by number, in plain Lean: WidenGrows answers true. Conditions: lists are shorter than 2^63.
-/
import Derived.Test.YthokmpbbkpjhbaaGreatDoorWk
import Derived.Test.YthokmpbbkpjhbaaGreatDoorPr
import Derived.Test.YthokmpbbkpjhbaaGreatDoorLa
import Derived.KernelRfl
namespace Go.Proofs.YthokmpbbkpjhbaaGreatDoor
open Go Go.Lt
variable {s C : Sto} {k g W j : Nat} {w : Bool} {q : G_linotyperef34_Pen} {ks : List Nat}

theorem of_snd {γ : Type} {x : Option (γ × Bool)} (h : x.map (fun q => q.2) = some true) : ∃ s, x = some (s, true) := by
  cases x with
  | none => cases h
  | some q =>
    obtain ⟨a, b⟩ := q
    simp only [Option.map_some, Option.some.injEq] at h
    subst h
    exact ⟨a, rfl⟩
/-- What is done twice, one behind the other. -/
theorem of_two {f : Sto → Option (Sto × Bool)} {s : Sto} (h1 : (f s).map (fun q => q.2) = some true) (h2 : ((f s).bind fun q => f q.1).map (fun q => q.2) = some true) : ∃ s1 s2, f s = some (s1, true) ∧ f s1 = some (s2, true) := by
  obtain ⟨s1, e1⟩ := of_snd h1
  rw [e1] at h2
  obtain ⟨s2, e2⟩ := of_snd h2
  exact ⟨s1, s2, e1, e2⟩
set_option maxRecDepth 100000 in
theorem works35_1 : (f_linotypelaw35_works ⟨[], [], [], [], [], []⟩).map (fun q => q.2) = some true := by kernel_rfl
set_option maxRecDepth 100000 in
theorem works35_2 : ((f_linotypelaw35_works ⟨[], [], [], [], [], []⟩).bind fun q => f_linotypelaw35_works q.1).map (fun q => q.2) = some true := by kernel_rfl

theorem wc_at {c : G_api_Cursor} {y : G_cwidth_Gauge} {t : List Int} {n : Int} (h : Wc s j c y t n) : f_widen_Cluster_At s (some j) = some c := by
  obtain ⟨b, hb, _⟩ := h.x
  simp [f_widen_Cluster_At, hb]
theorem wc_wide {c : G_api_Cursor} {y : G_cwidth_Gauge} {t : List Int} {n : Int} (h : Wc s j c y t n) : f_widen_Cluster_Wide s (some j) = some n := by
  obtain ⟨b, hb, _⟩ := h.x
  simp [f_widen_Cluster_Wide, hb]
theorem wc_text {c : G_api_Cursor} {y : G_cwidth_Gauge} {t : List Int} {n : Int} (h : Wc s j c y t n) : f_widen_Cluster_Text s (some j) = some t := by
  obtain ⟨b, hb, hv⟩ := h.x
  simp [f_widen_Cluster_Text, hb, cl_text hv]
theorem fx_take_succ {l : List Int} {i : Nat} (hi : i < l.length) (h : i < 16) : fx (l.take (i + 1)) = fx (l.take i) ++ [fixv l[i]] := by
  unfold fx
  rw [List.take_take, List.take_take, Nat.min_eq_right (by omega), Nat.min_eq_right (by omega), List.take_succ_eq_append_getElem hi, List.map_append]
  rfl
theorem fx_take_full {l : List Int} {i : Nat} (h : 16 ≤ i) : fx (l.take i) = fx l := by
  unfold fx
  rw [List.take_take, Nat.min_eq_left h]
/-- The properties made as many as the numbers. -/
theorem props_of (l : List Int) (hl : l.length ≤ 1000) (h32 : ∀ i (h : i < l.length), ∃ p, f_linotyperef13_Of l[i] = some p) (x : List G_api_Prop) (hx : x.length ≤ 9223372036854775807) : ∃ y, l.length ≤ y.length ∧ iter (σ := (List G_api_Prop)) (τ := (List G_api_Prop)) (((l.length : Int) - (x.length : Int)).toNat + 1) (fun s_45 =>
  if (decide ((s_45.length : Int) < (l.length : Int))) = true then
  (idx l (s_45.length : Int)).bind fun x_56 =>
  (app ([] : List G_api_Prop) s_45).bind fun x_59 =>
  (f_linotyperef13_Of x_56).bind fun x_60 =>
  (app x_59 ([x_60] : List G_api_Prop)).bind fun x_62 =>
  some (.inl (x_62))
  else
  some (.inr (s_45))) x = some y := by
  obtain ⟨t, h1, h2⟩ := iter_inv (σ := List G_api_Prop) (τ := List G_api_Prop) (step := fun s_45 =>
  if (decide ((s_45.length : Int) < (l.length : Int))) = true then
  (idx l (s_45.length : Int)).bind fun x_56 =>
  (app ([] : List G_api_Prop) s_45).bind fun x_59 =>
  (f_linotyperef13_Of x_56).bind fun x_60 =>
  (app x_59 ([x_60] : List G_api_Prop)).bind fun x_62 =>
  some (.inl (x_62))
  else
  some (.inr (s_45))) (fun _ => True) (fun s => l.length - s.length) (fun t => l.length ≤ t.length) (fun s _ => by
    by_cases h : s.length < l.length
    · obtain ⟨p, hp⟩ := h32 s.length h
      refine .inl ⟨s ++ [p], ?_, trivial, by simp; omega⟩
      rw [if_pos (dlt h), idx_at h]
      simp only [bsm]
      rw [app_eq (by simp; omega), List.nil_append]
      simp only [bsm, hp]
      rw [app_eq (by simp; omega)]
      rfl
    · refine .inr ⟨s, ?_, by omega⟩
      rw [if_neg (by simp; omega)]) (((l.length : Int) - (x.length : Int)).toNat + 1) x trivial (by omega)
  exact ⟨t, h2, h1⟩
theorem widenGrows_true (p0 : G_linotypelaw35_Start) (l : List Int) (x : List G_api_Prop) (hL : p0.L.length ≤ 9223372036854775807) (hl : l.length ≤ 9223372036854775807) (hx : x.length ≤ 9223372036854775807) (h32 : ∀ i (h : i < l.length), ∃ p, f_linotyperef13_Of l[i] = some p) :
    ∃ st, f_linotypelaw35_WidenGrows ⟨[], [], [], [], [], []⟩ p0 l x = some (st, true) := by
  unfold f_linotypelaw35_WidenGrows
  obtain ⟨t, hw, hw2⟩ := ref_wrong p0.L hL
  obtain ⟨s1, s2, h1, h2⟩ := of_two works35_1 works35_2
  rw [hw]
  simp only [bsm]
  rw [h1]
  simp only [bsm, Bool.not_true, orE_false, orE_some, Bool.false_or]
  by_cases hC : 20 < p0.L.length ∨ p0.L.length = 0 ∨ 0 ≤ t.1 ∨ 40 < l.length ∨ l.length = 0
  · rw [if_pos (by simp only [Bool.or_eq_true, decide_eq_true_eq, beq_iff_eq]; omega), h2]
    exact ⟨_, rfl⟩
  rw [if_neg (by simp only [Bool.or_eq_true, decide_eq_true_eq, beq_iff_eq]; omega)]
  have hok : Lok p0.L := by
    rcases hw2 with h | h
    · exact absurd h (by omega)
    · exact h.2
  obtain ⟨y, hy, hy2⟩ := props_of l (by omega) h32 x hx
  rw [hy2]
  simp only [bsm]
  obtain ⟨s3, ks, e1, v⟩ := start (by omega) (by omega) hok s1 p0.At p0.Auto
  rw [e1]
  simp only [bsm, Er.isNil, Bool.not_true, Bool.false_eq_true, if_false]
  have hi0 : idx l (0 : Int) = some (l[0]'(by omega)) := idx_at (i := 0) (by omega)
  have hy0 : idx y (0 : Int) = some (y[0]'(by omega)) := idx_at (i := 0) (by omega)
  rw [hi0, hy0]
  simp only [bsm]
  generalize hW : (p0.L[0]'(by omega)).Cells.length = W at *
  obtain ⟨s4, q4, c4, ks4, b1, on4, z4, hz4⟩ := begin_eq v (l[0]'(by omega)) (y[0]'(by omega))
  rw [b1]
  simp only [bsm]
  generalize (s3.add_place_Pen ⟨some s1.grid_Grid.length, p0.At, p0.Auto⟩).widen_Cluster.length = j at *
  have t1 : fx (l.take 1) = [fixv (l[0]'(by omega))] := by
    rw [fx_take_succ (i := 0) (by omega) (by omega)]
    rfl
  have g1 : gz ⟨false, false, false⟩ (fixv (l[0]'(by omega))) (y[0]'(by omega)) = gf [fixv (l[0]'(by omega))] y := by
    have := gf_snoc (t := []) (x := y) (by simp; omega) (fixv (l[0]'(by omega)))
    simp only [List.nil_append, List.length_nil] at this
    rw [this]
    rfl
  rw [g1, ← t1] at on4
  refine iter_forL (n := l.length) (fun i st => st.1 = (i : Int) ∧ ∃ q c ks', On s1 st.2 s3.place_Pen.length s1.grid_Grid.length W ks.length j ⟨p0.L, p0.At, p0.Auto⟩ (gf (fx (l.take (max i 1))) y) (fx (l.take (max i 1))) q c ks') (fun u => ∃ st, u = .inr st) (fun i st hi hI => ?_) (fun st hI => ?_) ⟨rfl, q4, c4, ks4, on4⟩ (by omega) (fun u hu => ?_)
  · obtain ⟨i', st⟩ := st
    obtain ⟨hi', q, c, ks', on⟩ := hI
    simp only at hi' on
    subst hi'
    have step : ∃ st' q' c' ks'', (if (decide ((i : Int) > 0)) = true then (idx l (i : Int)).bind fun x_124 =>
        (idx y (i : Int)).bind fun x_128 =>
        (f_widen_Cluster_Join st (some j) (some s3.place_Pen.length) x_124 x_128).bind fun x_132 =>
        some (!(x_132.2 == (decide ((i : Int) < 16))), x_132.1) else some (false, st)) = some (false, st') ∧
        On s1 st' s3.place_Pen.length s1.grid_Grid.length W ks.length j ⟨p0.L, p0.At, p0.Auto⟩ (gf (fx (l.take (i + 1))) y) (fx (l.take (i + 1))) q' c' ks'' := by
      by_cases h0 : i = 0
      · subst h0
        rw [if_neg (by simp)]
        exact ⟨st, q, c, ks', rfl, on⟩
      · rw [if_pos (by simp; omega), idx_at hi, idx_at (show i < y.length by omega)]
        simp only [bsm]
        rw [show max i 1 = i by omega] at on
        have hlen : (fx (l.take i)).length = min 16 i := by rw [fx_len', List.length_take]; omega
        by_cases h16 : i < 16
        · obtain ⟨st', q', c', ks'', j1, j2, _⟩ := join_eq v rfl on (by omega) (by omega) (fx_vld _) l[i] (y[i]'(by omega))
          rw [j1]
          simp only [bsm]
          refine ⟨st', q', c', ks'', by rw [show decide ((i : Int) < 16) = true by simp; omega]; rfl, ?_⟩
          rw [fx_take_succ hi h16, gf_snoc (by omega)]
          have e : (fx (l.take i)).length = i := by omega
          simp only [e]
          exact j2
        · rw [join_full on (by omega)]
          simp only [bsm]
          refine ⟨st, q, c, ks', by rw [show decide ((i : Int) < 16) = false by simp; omega]; rfl, ?_⟩
          rw [fx_take_full (by omega), ← fx_take_full (l := l) (i := i) (by omega)]
          exact on
    obtain ⟨st', q', c', ks'', j1, on'⟩ := step
    simp only
    rw [if_pos (dlt hi), j1]
    simp only [bsm, Bool.false_eq_true, if_false]
    rw [w64_succ hi (by omega)]
    have e1 := slc_eq (xs := l) (i := 0) (j := i + 1) (Nat.zero_le _) (by omega)
    have e2 := slc_eq (xs := y) (i := 0) (j := i + 1) (Nat.zero_le _) (by omega)
    rw [show ((0 : Nat) : Int) = 0 from rfl] at e1 e2
    rw [e1, e2]
    simp only [bsm, List.drop_zero, Nat.sub_zero]
    have hp := on'.p
    have hlen : (fx (l.take (i + 1))).length ≤ i + 1 := by rw [fx_len', List.length_take]; omega
    rw [ref35 (l.take (i + 1)) (y.take (i + 1)) (by simp; omega) (by simp; omega) (by rw [gf_take _ _ hlen]; exact hp), gf_take _ _ hlen]
    simp only [bsm]
    rw [alike_true on'.v]
    simp only [bsm, Bool.not_true, orE_false]
    rw [wc_at on'.w]
    simp only [bsm, beq_self_eq_true, Bool.and_self, Bool.not_true, orE_false]
    rw [wc_wide on'.w]
    simp only [bsm, bne_self_eq_false, orE_false]
    rw [wc_text on'.w]
    simp only [bsm]
    obtain ⟨b, hb1, hb2⟩ := same_text (fx (l.take (i + 1))) (by omega) (fx (l.take (i + 1)))
    rw [hb1, hb2.2 rfl]
    simp only [bsm, Bool.not_true, Bool.false_eq_true, if_false]
    refine .inl ⟨_, rfl, rfl, q', c', ks'', ?_⟩
    rw [show max (i + 1) 1 = i + 1 by omega]
    exact on'
  · obtain ⟨i', st⟩ := st
    obtain ⟨hi', _⟩ := hI
    simp only at hi'
    subst hi'
    exact ⟨.inr st, by simp, st, rfl⟩
  · obtain ⟨st, rfl⟩ := hu
    exact ⟨_, rfl⟩
end Go.Proofs.YthokmpbbkpjhbaaGreatDoor
