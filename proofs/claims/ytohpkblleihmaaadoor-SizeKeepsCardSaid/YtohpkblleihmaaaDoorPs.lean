/-
  Screens of other sizes, in plain Lean: SizeTurns and SizeKeeps answer true. Conditions: lists are shorter than 2^63.
-/
import Derived.Test.YtohpkblleihmaaaDoorPr
import Derived.Test.YtohpkblleihmaaaDoorZ1
namespace Go.Proofs.YtohpkblleihmaaaDoor
open Go Go.Lt
variable {s : Sto} {g k W : Nat} {ks : List Nat} {q : G_linotyperef34_Pen} {l : List G_api_Cell}

/-- A strip's cell j, when it is w wide. -/
def rzc (l : List G_api_Cell) (w j : Nat) : G_api_Cell := if j < l.length ∧ (j + 1 < w ∨ kd l j ≠ 2) then l.getD j bl else bl
def rz (l : List G_api_Cell) (w : Nat) : List G_api_Cell := (List.range w).map (rzc l w)
theorem rz_len (l : List G_api_Cell) (w : Nat) : (rz l w).length = w := by simp [rz]
theorem rz_get {w j : Nat} (h : j < w) : (rz l w)[j]? = some (rzc l w j) := by simp [rz, h]
theorem kd_rz {w j : Nat} (h : j < w) : kd (rz l w) j = (rzc l w j).Kind := by simp [kd, rz_get h]
theorem rzc_kd (l : List G_api_Cell) (w j : Nat) : (rzc l w j).Kind = if j < l.length ∧ (j + 1 < w ∨ kd l j ≠ 2) then kd l j else 0 := by
  unfold rzc
  split
  · exact kd_getD l j
  · rfl
theorem rz_snd (hs : Snd l) (w : Nat) : Snd (rz l w) := fun j hj => by
  have hjw : j < w := by rw [rz_len] at hj; exact hj
  have e : (rz l w)[j] = rzc l w j := by
    have := rz_get (l := l) hjw
    rw [List.getElem?_eq_getElem hj] at this
    exact Option.some.inj this
  rw [e]
  refine ⟨?_, fun h2 => ?_, fun h3 => ?_⟩
  · unfold rzc
    split
    · rename_i h; exact hs.rg h.1
    · rfl
  · rw [rzc_kd] at h2
    split at h2
    · rename_i h
      have h4 := hs.two h2
      have h5 : j + 1 < l.length := kd_lt (by rw [h4]; decide)
      have h6 : j + 1 < w := by omega
      rw [kd_rz h6, rzc_kd, if_pos ⟨h5, .inr (by rw [h4]; decide)⟩, h4]
    · cases h2
  · rw [rzc_kd] at h3
    split at h3
    · rename_i h
      obtain ⟨h4, h5⟩ := hs.three h3
      have h6 : j - 1 < l.length := by omega
      refine ⟨h4, ?_⟩
      rw [kd_rz (by omega), rzc_kd, if_pos ⟨h6, .inl (by omega)⟩, h5]
    · cases h3
theorem rz_nil (w : Nat) : rz [] w = List.replicate w bl := by
  refine List.ext_getElem? fun j => ?_
  rcases Nat.lt_or_ge j w with h | h
  · rw [rz_get h, List.getElem?_replicate, if_pos h]
    unfold rzc
    rw [if_neg (by simp)]
  · rw [List.getElem?_eq_none (by rw [rz_len]; exact h), List.getElem?_eq_none (by simpa using h)]

theorem fit_cut {n : Nat} (hn : n ≤ l.length) (hl : l.length ≤ 1024) : f_fit_cut l n = some (if 0 < n ∧ kd l (n - 1) = 2 then (l.take n).set (n - 1) bl else l.take n) := by
  unfold f_fit_cut
  rw [show (0 : Int) = ((0 : Nat) : Int) from rfl, slc_eq (Nat.zero_le _) hn, List.drop_zero, Nat.sub_zero]
  simp only [bsm]
  by_cases h0 : 0 < n
  · have e : w64 ((n : Int) - 1) = ((n - 1 : Nat) : Int) := by rw [w64_in (by omega)]; omega
    have hlt : n - 1 < (l.take n).length := by simp; omega
    have hk : (l.take n)[n - 1].Kind = kd l (n - 1) := by rw [List.getElem_take, kd_at (by omega)]
    rw [show decide ((n : Int) > ((0 : Nat) : Int)) = true by simpa using h0, e, idx_at hlt]
    simp only [andE_true, bsm, hk]
    by_cases h2 : kd l (n - 1) = 2
    · rw [if_pos (by simpa using h2), if_pos ⟨h0, h2⟩, sets_nat hlt]
      rfl
    · rw [if_neg (by simpa using h2), if_neg (fun h => h2 h.2)]
      rfl
  · rw [show decide ((n : Int) > ((0 : Nat) : Int)) = false by simpa using h0, if_neg (fun h => h0 h.1)]
    simp only [andE_false, bsm, Bool.false_eq_true, if_false]
theorem cut_rz (hs : Snd l) {w n : Nat} (hn : n = min w l.length) (w1 : 1 ≤ w) (l1 : 1 ≤ l.length) : (if 0 < n ∧ kd l (n - 1) = 2 then (l.take n).set (n - 1) bl else l.take n) ++ List.replicate (w - n) bl = rz l w := by
  have hlen : (if 0 < n ∧ kd l (n - 1) = 2 then (l.take n).set (n - 1) bl else l.take n).length = n := by split <;> simp <;> omega
  refine List.ext_getElem? fun j => ?_
  rcases Nat.lt_or_ge j w with h | h
  · rw [rz_get h]
    rcases Nat.lt_or_ge j n with hj | hj
    · rw [List.getElem?_append_left (by omega)]
      have hjl : j < l.length := by omega
      have g : l.getD j bl = l[j] := by rw [List.getD_eq_getElem?_getD, List.getElem?_eq_getElem hjl]; rfl
      unfold rzc
      split
      · rename_i h2
        rw [List.getElem?_set]
        by_cases e : n - 1 = j
        · subst e
          rw [if_pos rfl, if_pos (by simp; omega), if_neg]
          rintro ⟨_, h5 | h5⟩
          · have := hs.two h2.2
            have := kd_lt (l := l) (j := n - 1 + 1) (by omega)
            omega
          · exact h5 h2.2
        · rw [if_neg e, List.getElem?_take, if_pos hj, List.getElem?_eq_getElem hjl, if_pos ⟨hjl, by omega⟩, g]
      · rename_i h2
        rw [List.getElem?_take, if_pos hj, List.getElem?_eq_getElem hjl, if_pos, g]
        refine ⟨hjl, ?_⟩
        by_cases e : j + 1 < w
        · exact .inl e
        · right
          intro h3
          exact h2 ⟨by omega, by rw [show n - 1 = j by omega]; exact h3⟩
    · rw [List.getElem?_append_right (by omega), hlen, List.getElem?_replicate, if_pos (by omega)]
      unfold rzc
      rw [if_neg (by omega)]
  · rw [List.getElem?_eq_none (by rw [List.length_append, hlen, List.length_replicate]; omega), List.getElem?_eq_none (by rw [rz_len]; exact h)]
theorem fit_resize {wr : Bool} (h : s.row_Row[k]? = some ⟨l, wr⟩) (hs : Snd l) (l1 : 1 ≤ l.length) (l2 : l.length ≤ 1024) {w : Nat} (w1 : 1 ≤ w) (w2 : w ≤ 1024) :
    f_fit_Resize s (some k) w = some (s.add_row_Row ⟨rz l w, false⟩, some s.row_Row.length) := by
  have e1 : imax 1 (imin (w : Int) 1024) = (w : Int) := by rw [imin_eq, imax_eq]; omega
  unfold f_fit_Resize
  rw [e1]
  simp only [Option.isNone_some, Bool.false_eq_true, if_false, row_cells h (by omega) hs.sht, row_wide h, bsm]
  obtain ⟨n, hn⟩ : ∃ n, n = min w l.length := ⟨_, rfl⟩
  rw [show imin (w : Int) (l.length : Int) = (n : Int) by rw [imin_eq]; omega, fit_cut (by omega) l2]
  have hlen : (if 0 < n ∧ kd l (n - 1) = 2 then (l.take n).set (n - 1) bl else l.take n).length = n := by split <;> simp <;> omega
  have hcr := cut_rz hs hn w1 l1
  generalize (if 0 < n ∧ kd l (n - 1) = 2 then (l.take n).set (n - 1) bl else l.take n) = c at *
  simp only [bsm]
  rw [hlen, w64_in (by omega), blanks]
  simp only [bsm]
  rw [show (max 0 (min ((w : Int) - (n : Int)) 1024)).toNat = w - n by omega, app_eq (by simp; omega), hcr]
  simp only [bsm]
  unfold f_fit_of
  rw [row_of (by rw [rz_len]; exact w1) (by rw [rz_len]; exact w2) (rz_snd hs w)]
  rfl
theorem ref_resize (l : List G_api_Cell) (hl : l.length ≤ 1000000) {w : Nat} (w1 : 1 ≤ w) (w2 : w ≤ 1024) : f_linotyperef28_Resize l w = some (rz l w) := by
  have e1 : imax 1 (imin (w : Int) 1024) = (w : Int) := by rw [imin_eq, imax_eq]; omega
  unfold f_linotyperef28_Resize
  rw [e1, rep_eq _ (by omega), show (⟨0, []⟩ : G_api_Cell) = bl from rfl, Int.toNat_natCast]
  simp only [bsm]
  obtain ⟨t, h3, h4⟩ := iter_for (σ := (List G_api_Cell) × Int) (τ := (List G_api_Cell)) (n := min w l.length) (fuel := ((w : Int) - 0).toNat + 1) (s := (List.replicate w bl, 0))
    (fun i q => q = ((List.range w).map (fun j => if j < i then rzc l w j else bl), (i : Int))) (fun t => t = rz l w)
    (step := fun s_14 =>
  (andE (decide (s_14.2 < (w : Int))) (some (decide (s_14.2 < (l.length : Int))))).bind fun d_18 =>
  if d_18 = true then
  ((orE (decide ((w64 (s_14.2 + 1)) < (w : Int))) ((idx l s_14.2).bind fun x_34 =>
  some (x_34.Kind != 2))).bind fun d_30 =>
  if d_30 = true then
  (idx l s_14.2).bind fun x_43 =>
  (idx s_14.1 s_14.2).bind fun x_45 =>
  (sets s_14.1 s_14.2 x_43).bind fun w_46 =>
  (some (w_46) : Option ((List G_api_Cell)))
  else
  (some (s_14.1) : Option ((List G_api_Cell)))).bind fun z_25 =>
  some (.inl (z_25, (w64 (s_14.2 + 1))))
  else
  some (.inr (s_14.1)))
    (fun i q hi e => by
      subst e
      refine .inl ⟨_, ?_, rfl⟩
      have e5 : w64 ((i : Int) + 1) = ((i + 1 : Nat) : Int) := by rw [w64_in (by omega)]; simp
      have hil : i < l.length := by omega
      have hd : (decide ((i : Int) < (w : Int)) && decide ((i : Int) < (l.length : Int))) = true := by simp; omega
      have hlt : i < ((List.range w).map (fun j => if j < i then rzc l w j else bl)).length := by simp; omega
      have ho : (orE (decide (((i + 1 : Nat) : Int) < (w : Int))) ((idx l (i : Int)).bind fun x_34 => some (x_34.Kind != 2))) = some (decide (i + 1 < w ∨ kd l i ≠ 2)) := by
        rw [idx_at hil]
        simp only [bsm, orE_some, ← kd_at hil, Option.some.injEq]
        rw [Bool.eq_iff_iff]
        simp only [Bool.or_eq_true, decide_eq_true_eq, bne_iff_ne]
        omega
      simp only [andE_some, bsm, hd, if_true, e5]
      rw [ho]
      simp only [bsm]
      have hnext : ∀ c : G_api_Cell, c = rzc l w i → ((List.range w).map (fun j => if j < i then rzc l w j else bl)).set i c = (List.range w).map (fun j => if j < i + 1 then rzc l w j else bl) := fun c hc => by
        refine List.ext_getElem? fun j => ?_
        rw [List.getElem?_set]
        by_cases e : i = j
        · subst e
          rw [if_pos rfl, if_pos hlt, List.getElem?_map, List.getElem?_range (by omega), hc]
          simp
        · rw [if_neg e, List.getElem?_map, List.getElem?_map]
          rcases Nat.lt_or_ge j w with hj | hj
          · rw [List.getElem?_range hj]
            simp only [Option.map_some, Option.some.injEq]
            by_cases h5 : j < i
            · rw [if_pos h5, if_pos (by omega)]
            · rw [if_neg h5, if_neg (by omega)]
          · rw [List.getElem?_eq_none (by simpa using hj)]
            rfl
      by_cases hc : i + 1 < w ∨ kd l i ≠ 2
      · rw [if_pos (by simpa using hc), idx_at hil, idx_at hlt]
        simp only [bsm]
        rw [sets_nat hlt, hnext l[i] (by
          unfold rzc
          rw [if_pos ⟨hil, hc⟩, List.getD_eq_getElem?_getD, List.getElem?_eq_getElem hil]
          rfl)]
        rfl
      · rw [if_neg (by simpa using hc)]
        simp only [bsm]
        have hb : rzc l w i = bl := by
          unfold rzc
          rw [if_neg (fun h => hc h.2)]
        have := hnext bl hb.symm
        rw [← this]
        congr 3
        refine (List.ext_getElem? fun j => ?_).symm
        rw [List.getElem?_set]
        by_cases e : i = j
        · subst e
          rw [if_pos rfl, if_pos hlt, List.getElem?_map, List.getElem?_range (by omega)]
          simp
        · rw [if_neg e])
    (fun q e => ⟨q.1, by
      subst e
      have hd : (decide (((min w l.length : Nat) : Int) < (w : Int)) && decide (((min w l.length : Nat) : Int) < (l.length : Int))) = false := by
        rw [Bool.eq_false_iff]
        simp only [ne_eq, Bool.and_eq_true, decide_eq_true_eq]
        omega
      simp only [andE_some, bsm, hd, Bool.false_eq_true, if_false], by
      subst e
      simp only
      unfold rz
      refine List.map_congr_left fun j hj => ?_
      rw [List.mem_range] at hj
      by_cases h5 : j < min w l.length
      · rw [if_pos h5]
      · rw [if_neg h5]
        unfold rzc
        rw [if_neg (by omega)]⟩)
    (by
      simp only [Nat.not_lt_zero, if_false, Prod.mk.injEq]
      refine ⟨?_, rfl⟩
      rw [List.map_const', List.length_range]) (by omega)
  subst h4
  rw [h3]
  rfl

/-! ### screens -/
def cs (L : List G_api_Line) (n : Nat) : List G_api_Cell := (L.getD n ⟨[], false⟩).Cells
/-- The lines of L from top on, w wide, h of them. -/
def rs (L : List G_api_Line) (top w h : Nat) : List G_api_Line := (List.range h).map fun m => ⟨rz (cs L (top + m)) w, false⟩
def rsi (L : List G_api_Line) (top w h i : Nat) : List G_api_Line := (List.range h).map fun m => if m < i then ⟨rz (cs L (top + m)) w, false⟩ else ⟨List.replicate w bl, false⟩
theorem cs_out {L : List G_api_Line} {n : Nat} (h : L.length ≤ n) : cs L n = [] := by
  unfold cs
  rw [List.getD_eq_getElem?_getD, List.getElem?_eq_none h]
  rfl
theorem cs_at {L : List G_api_Line} {n : Nat} (h : n < L.length) : cs L n = L[n].Cells := by
  unfold cs
  rw [List.getD_eq_getElem?_getD, List.getElem?_eq_getElem h]
  rfl
theorem rsi_set (L : List G_api_Line) (top w : Nat) {h i : Nat} (hi : i < h) : (rsi L top w h i).set i ⟨rz (cs L (top + i)) w, false⟩ = rsi L top w h (i + 1) := by
  unfold rsi
  refine List.ext_getElem? fun j => ?_
  rw [List.getElem?_set, List.length_map, List.length_range]
  by_cases e : i = j
  · subst e
    rw [if_pos rfl, if_pos hi, List.getElem?_map, List.getElem?_range hi]
    simp
  · rw [if_neg e, List.getElem?_map, List.getElem?_map]
    rcases Nat.lt_or_ge j h with hj | hj
    · rw [List.getElem?_range hj]
      simp only [Option.map_some, Option.some.injEq]
      by_cases h5 : j < i
      · rw [if_pos h5, if_pos (by omega)]
      · rw [if_neg h5, if_neg (by omega)]
    · rw [List.getElem?_eq_none (by simpa using hj)]
      rfl
theorem rsi_skip (L : List G_api_Line) {top w h i : Nat} (ho : L.length ≤ top + i) (hi : i < h) : rsi L top w h (i + 1) = rsi L top w h i := by
  rw [← rsi_set L top w hi, cs_out ho, rz_nil]
  refine List.ext_getElem? fun j => ?_
  rw [List.getElem?_set]
  by_cases e : i = j
  · subst e
    unfold rsi
    rw [if_pos rfl, if_pos (by simp; exact hi), List.getElem?_map, List.getElem?_range hi]
    simp
  · rw [if_neg e]
theorem rsi_all (L : List G_api_Line) (top w h : Nat) : rsi L top w h h = rs L top w h := by
  unfold rsi rs
  refine List.map_congr_left fun m hm => ?_
  rw [List.mem_range] at hm
  rw [if_pos hm]
theorem rsi_zero (L : List G_api_Line) (top w h : Nat) : rsi L top w h 0 = bls w h := by
  unfold rsi bls
  simp only [Nat.not_lt_zero, if_false]
  rw [List.map_const', List.length_range]
theorem nd_set {xs : List Nat} (nd : xs.Nodup) {x i : Nat} (hx : x ∉ xs) : (xs.set i x).Nodup := by
  rw [List.Nodup, List.pairwise_iff_getElem] at *
  intro a b ha hb hab
  rw [List.length_set] at ha hb
  rw [List.getElem_set, List.getElem_set]
  split
  · split
    · omega
    · exact fun e => hx (e ▸ List.getElem_mem hb)
  · split
    · exact fun e => hx (e ▸ List.getElem_mem ha)
    · exact nd a b ha hb hab
theorem Gw.sgo {g2 : Nat} (h : Gw s g ks W) (hne : g2 ≠ g) (x : G_grid_Grid) : Gw (s.sg g2 x) g ks W :=
  ⟨by rw [← h.g]; simp [Sto.sg, List.getElem?_set_ne hne], h.r, h.h1, h.h2, h.w1, h.w2⟩
theorem Gw.addg (h : Gw s g ks W) (x : G_grid_Grid) : Gw (s.add_grid_Grid x) g ks W :=
  ⟨by rw [← h.g]; simp only [Sto.add_grid_Grid]; exact List.getElem?_append_left (get_lt h.g), h.r, h.h1, h.h2, h.w1, h.w2⟩
theorem size_loop (h : Pv s k g W q ks) {w hh top : Nat} (w1 : 1 ≤ w) (w2 : w ≤ 1024) (h1 : 1 ≤ hh) (h2 : hh ≤ 1024) (ht : top ≤ 1024) {g2 : Nat} (hg2 : g2 = s.grid_Grid.length) :
    ∃ s' ks', iter (σ := Int × Sto) (τ := Sto) (((hh : Int) - 0).toNat + 1) (fun s_54 =>
  if (decide (s_54.1 < (hh : Int))) = true then
  ((s_54.2.place_Pen[k]?).bind fun o_64 =>
  (f_grid_Grid_Row s_54.2 o_64.G (w64 ((top : Int) + s_54.1))).bind fun x_68 =>
  if (!x_68.isNone) = true then
  (f_fit_Resize s_54.2 x_68 (w : Int)).bind fun x_78 =>
  (f_grid_Grid_Set x_78.1 (some g2) s_54.1 x_78.2).bind fun x_79 =>
  (some (x_79.1) : Option (Sto))
  else
  (some (s_54.2) : Option (Sto))).bind fun z_57 =>
  some (.inl ((w64 (s_54.1 + 1)), z_57))
  else
  some (.inr (s_54.2))) (0, (s.addr ((bls w hh).map lr)).add_grid_Grid ⟨(List.range' s.row_Row.length hh).map some⟩) = some s' ∧
    Gw s' g2 ks' w ∧ ks'.Nodup ∧ ks'.map (ln s') = rs q.L top w hh ∧ s'.place_Pen = s.place_Pen := by
  have hb : (bls w hh).length = hh := by simp [bls]
  have h0 : ((bls w hh)[0]'(by omega)).Cells.length = w := by simp [bls]
  obtain ⟨b1, b2⟩ := gw_of (s := s) (L := bls w hh) (by omega) (by omega) (bls_ok w1 w2 h1)
  rw [h0, ← hg2] at b1
  rw [hb] at b1 b2
  have hgl := get_lt h.g.g
  obtain ⟨t, e1, e2⟩ := iter_for (σ := Int × Sto) (τ := Sto) (n := hh) (fuel := ((hh : Int) - 0).toNat + 1) (s := (0, (s.addr ((bls w hh).map lr)).add_grid_Grid ⟨(List.range' s.row_Row.length hh).map some⟩))
    (fun i q2 => q2.1 = (i : Int) ∧ q2.2.place_Pen = s.place_Pen ∧ Gw q2.2 g ks W ∧ ks.map (ln q2.2) = q.L ∧ ∃ ks', Gw q2.2 g2 ks' w ∧ ks'.Nodup ∧ ks'.length = hh ∧ ks'.map (ln q2.2) = rsi q.L top w hh i)
    (fun t => t.place_Pen = s.place_Pen ∧ ∃ ks', Gw t g2 ks' w ∧ ks'.Nodup ∧ ks'.map (ln t) = rs q.L top w hh)
    (step := fun s_54 =>
  if (decide (s_54.1 < (hh : Int))) = true then
  ((s_54.2.place_Pen[k]?).bind fun o_64 =>
  (f_grid_Grid_Row s_54.2 o_64.G (w64 ((top : Int) + s_54.1))).bind fun x_68 =>
  if (!x_68.isNone) = true then
  (f_fit_Resize s_54.2 x_68 (w : Int)).bind fun x_78 =>
  (f_grid_Grid_Set x_78.1 (some g2) s_54.1 x_78.2).bind fun x_79 =>
  (some (x_79.1) : Option (Sto))
  else
  (some (s_54.2) : Option (Sto))).bind fun z_57 =>
  some (.inl ((w64 (s_54.1 + 1)), z_57))
  else
  some (.inr (s_54.2)))
    (fun i q2 hi ⟨e, hp, hg, hl, ks', c1, c2, c3, c4⟩ => by
      obtain ⟨j, st⟩ := q2
      simp only at e hp hg hl c1 c2 c3 c4
      subst e
      have e5 : w64 ((i : Int) + 1) = ((i + 1 : Nat) : Int) := by rw [w64_in (by omega)]; simp
      have e6 : w64 ((top : Int) + (i : Int)) = ((top + i : Nat) : Int) := by rw [w64_in (by omega)]; simp
      have hd : decide ((i : Int) < (hh : Int)) = true := by simp; exact hi
      simp only [hd, if_true, hp, h.p, bsm, e5, e6]
      have hlen := h.len
      by_cases ho : top + i < ks.length
      · rw [grid_row hg ho]
        simp only [bsm, Option.isNone_some, Bool.not_false, if_true]
        obtain ⟨r, r1, r2, r3⟩ := hg.at ho
        have hr := fit_resize (l := r.cells) (wr := r.wrap) r1 r2 (by rw [r3]; exact hg.w1) (by rw [r3]; exact hg.w2) w1 w2
        rw [hr]
        simp only [bsm]
        have ea : st.add_row_Row ⟨rz r.cells w, false⟩ = st.addr [⟨rz r.cells w, false⟩] := by simp [Sto.add_row_Row, Sto.addr]
        rw [ea]
        have c1' := c1.addr (xs := [⟨rz r.cells w, false⟩])
        have hg' := hg.addr (xs := [⟨rz r.cells w, false⟩])
        have hnew : (st.addr [⟨rz r.cells w, false⟩]).row_Row[st.row_Row.length]? = some ⟨rz r.cells w, false⟩ := by simp [Sto.addr]
        have hrw : Rw (st.addr [⟨rz r.cells w, false⟩]) w st.row_Row.length := ⟨_, hnew, rz_snd r2 w, rz_len _ _⟩
        rw [grid_set c1' (show i < ks'.length by omega) hrw]
        simp only [bsm]
        have hL : cs q.L (top + i) = r.cells := by
          rw [cs_at (by rw [← hl]; simpa using ho)]
          have : q.L[top + i]? = (ks.map (ln st))[top + i]? := by rw [hl]
          rw [List.getElem?_eq_getElem (by rw [← hl]; simpa using ho), List.getElem?_map, List.getElem?_eq_getElem ho, Option.map_some, ln_eq r1] at this
          rw [Option.some.inj this]
        refine .inl ⟨_, rfl, rfl, hp, hg'.sgo (by omega) _, ?_, ks'.set i st.row_Row.length, c1'.set hrw, nd_set c2 fun hm => absurd (c1.r _ hm).lt (Nat.lt_irrefl _), by rw [List.length_set]; exact c3, ?_⟩
        · rw [← hl]
          refine List.map_congr_left fun x hx => ?_
          rw [ln_sg]
          exact ln_old (hg.r x hx).lt
        · rw [← rsi_set _ _ _ hi, ← c4, hL, List.map_set, ln_sg, ln_eq hnew]
          congr 1
          refine List.map_congr_left fun x hx => ?_
          rw [ln_sg]
          exact ln_old (c1.r x hx).lt
      · rw [grid_row_out hg (.inr (by omega))]
        simp only [bsm, Option.isNone_none, Bool.not_true, Bool.false_eq_true, if_false]
        exact .inl ⟨_, rfl, rfl, hp, hg, hl, ks', c1, c2, c3, by rw [rsi_skip _ (by omega) hi]; exact c4⟩)
    (fun q2 ⟨e, hp, _, _, ks', c1, c2, _, c4⟩ => ⟨q2.2, by
      have hd : decide (q2.1 < (hh : Int)) = false := by rw [e]; simp
      simp only [hd, Bool.false_eq_true, if_false], hp, ks', c1, c2, by rw [c4, rsi_all]⟩)
    ⟨rfl, rfl, (h.g.addr (xs := (bls w hh).map lr)).addg _, by
      rw [← h.l]
      refine List.map_congr_left fun x hx => ?_
      exact ln_old (h.g.r x hx).lt, _, b1, List.nodup_range', by simp, by rw [rsi_zero]; exact b2⟩ (by omega)
  obtain ⟨p1, ks', p2, p3, p4⟩ := e2
  exact ⟨t, ks', e1, p2, p3, p4, p1⟩

/-- What the cursor's row is, when there are so many rows. -/
def tp (c : G_api_Cursor) (h : Nat) : Nat := (c.Row - h + 1).toNat
theorem ref39 (h : Pv s k g W q ks) (a b : Int) : f_linotyperef39_Resize q a b = some ⟨rs q.L (tp (hc q.At W ks.length) (sd b)) (sd a) (sd b), ⟨(hc q.At W ks.length).Row - tp (hc q.At W ks.length) (sd b), min (hc q.At W ks.length).Col ((sd a : Int) - 1), false⟩, q.Auto⟩ := by
  have hd := hc_hd q.At h.g.w1 h.g.h1
  have hl := h.len
  have hh2 := h.g.h2
  have ha := sd_in a
  have hb := sd_in b
  have side : ∀ n : Int, f_linotyperef31_Side n = some (sd n : Int) := fun n => by
    unfold f_linotyperef31_Side
    by_cases h1 : n < 1
    · rw [if_pos (by simpa using h1)]
      congr 1
      unfold sd
      omega
    · rw [if_neg (by simpa using h1)]
      by_cases h2 : n > 1024
      · rw [if_pos (by simpa using h2)]
        congr 1
        unfold sd
        omega
      · rw [if_neg (by simpa using h2)]
        congr 1
        unfold sd
        omega
  unfold f_linotyperef39_Resize
  rw [ref_Hold h]
  generalize hc q.At W ks.length = c at *
  have hr := hd.rr
  simp only [bsm, side]
  obtain ⟨t, e1, e2⟩ := iter_for (σ := (List G_api_Line) × Int) (τ := ((List G_api_Line) × Int)) (n := tp c (sd b)) (fuel := (c.Row - (sd b : Int)).toNat + 2) (s := (q.L, c.Row))
    (fun i q2 => q2 = (q.L.drop i, c.Row - i)) (fun t => t = (q.L.drop (tp c (sd b)), c.Row - tp c (sd b)))
    (step := fun s_25 =>
  if (decide (s_25.2 ≥ (sd b : Int))) = true then
  (slc s_25.1 1 s_25.1.length).bind fun x_32 =>
  some (.inl (x_32, (w64 (s_25.2 - 1))))
  else
  some (.inr (s_25.1, s_25.2)))
    (fun i q2 hi e => by
      subst e
      refine .inl ⟨_, ?_, rfl⟩
      unfold tp at hi
      have hd : decide (c.Row - (i : Int) ≥ (sd b : Int)) = true := by simp; omega
      simp only [hd, if_true]
      rw [show (1 : Int) = ((1 : Nat) : Int) from rfl, slc_eq (by simp; omega) (Nat.le_refl _), w64_in (by omega)]
      simp only [bsm, List.drop_drop]
      rw [List.take_of_length_le (by simp; omega)]
      congr 3
      omega)
    (fun q2 e => ⟨q2, by
      subst e
      have hd : decide (c.Row - (tp c (sd b) : Int) ≥ (sd b : Int)) = false := by
        unfold tp
        simp
        omega
      simp only [hd, Bool.false_eq_true, if_false], e⟩)
    (by simp) (by unfold tp; omega)
  subst e2
  rw [e1]
  simp only [bsm]
  obtain ⟨t, e3, e4⟩ := iter_for (σ := (List G_api_Line) × Int) (τ := (List G_api_Line)) (n := sd b) (fuel := ((sd b : Int) - 0).toNat + 1) (s := (([] : List G_api_Line), 0))
    (fun i q2 => q2 = ((rs q.L (tp c (sd b)) (sd a) (sd b)).take i, (i : Int))) (fun t => t = rs q.L (tp c (sd b)) (sd a) (sd b))
    (step := fun s_45 =>
  if (decide (s_45.2 < (sd b : Int))) = true then
  (if (decide (s_45.2 < ((q.L.drop (tp c (sd b))).length : Int))) = true then
  (idx (q.L.drop (tp c (sd b))) s_45.2).bind fun x_60 =>
  (some (x_60.Cells) : Option ((List G_api_Cell)))
  else
  (some (([] : List G_api_Cell)) : Option ((List G_api_Cell)))).bind fun z_52 =>
  (f_linotyperef28_Resize z_52 (sd a : Int)).bind fun x_68 =>
  (app s_45.1 ([(⟨x_68, false⟩ : G_api_Line)] : List G_api_Line)).bind fun x_71 =>
  some (.inl (x_71, (w64 (s_45.2 + 1))))
  else
  some (.inr (s_45.1)))
    (fun i q2 hi e => by
      subst e
      refine .inl ⟨_, ?_, rfl⟩
      have e5 : w64 ((i : Int) + 1) = ((i + 1 : Nat) : Int) := by rw [w64_in (by omega)]; simp
      have hd : decide ((i : Int) < (sd b : Int)) = true := by simp; exact hi
      have hz : (if (decide ((i : Int) < ((q.L.drop (tp c (sd b))).length : Int))) = true then (idx (q.L.drop (tp c (sd b))) (i : Int)).bind fun x_60 => (some (x_60.Cells) : Option ((List G_api_Cell))) else (some (([] : List G_api_Cell)) : Option ((List G_api_Cell)))) = some (cs q.L (tp c (sd b) + i)) := by
        by_cases ho : i < (q.L.drop (tp c (sd b))).length
        · rw [if_pos (by simpa using ho), idx_at ho]
          have ho2 : tp c (sd b) + i < q.L.length := by simp at ho; omega
          rw [cs_at ho2]
          simp only [bsm, List.getElem_drop]
        · rw [if_neg (by simpa using ho), cs_out (by simp at ho; omega)]
      simp only [hd, if_true, e5]
      rw [hz]
      simp only [bsm]
      have hcl : (cs q.L (tp c (sd b) + i)).length ≤ 1000000 := by
        by_cases ho : tp c (sd b) + i < q.L.length
        · rw [cs_at ho, (h.ok _ (List.getElem_mem ho)).2]
          have := h.g.w2
          omega
        · rw [cs_out (by omega)]
          simp
      rw [ref_resize _ hcl ha.1 ha.2]
      simp only [bsm]
      have hlt : i < (rs q.L (tp c (sd b)) (sd a) (sd b)).length := by simp [rs]; exact hi
      rw [app_eq (by simp; omega), List.take_succ_eq_append_getElem hlt]
      simp [rs])
    (fun q2 e => ⟨q2.1, by subst e; simp, by subst e; simp only; rw [List.take_of_length_le (by simp [rs])]⟩)
    (by simp) (by omega)
  subst e4
  rw [e3]
  simp only [bsm]
  rw [w64_in (by omega), imin_eq]
theorem size_eq (h : Pv s k g W q ks) (a b : Int) : ∃ s' q' g' ks', f_size_Resize s (some k) a b = some s' ∧ f_linotyperef39_Resize q a b = some q' ∧ Pv s' k g' (sd a) q' ks' ∧ q'.L = rs q.L (tp (hc q.At W ks.length) (sd b)) (sd a) (sd b) := by
  have hd := hc_hd q.At h.g.w1 h.g.h1
  have hh2 := h.g.h2
  have ha := sd_in a
  have hb := sd_in b
  have sdd : ∀ n : Int, imax 1 (imin n 1024) = (sd n : Int) := fun n => by
    rw [imin_eq, imax_eq]
    unfold sd
    omega
  have hc1 := cur_hold q.At h.g.w1 h.g.w2 h.g.h1 h.g.h2
  have h39 := ref39 h a b
  generalize hc q.At W ks.length = c at *
  have hr := hd.rr
  have hcc := hd.cc
  have etp : imax 0 (w64 ((w64 (c.Row - (sd b : Int))) + 1)) = (tp c (sd b) : Int) := by
    rw [w64_in (n := c.Row - (sd b : Int)) (by omega), w64_in (by omega), imax_eq]
    unfold tp
    omega
  obtain ⟨s', ks', e1, g1, g2, g3, g4⟩ := size_loop h ha.1 ha.2 hb.1 hb.2 (top := tp c (sd b)) (by unfold tp; omega) rfl
  have hgn := grid_new (s := s) (sd a : Int) (sd b : Int)
  rw [sd_id ha.1 ha.2, sd_id hb.1 hb.2] at hgn
  have hp' : s'.place_Pen[k]? = some ⟨some g, q.At, q.Auto⟩ := by rw [g4]; exact h.p
  have hmv : f_cursor_Move (c.Row - (tp c (sd b) : Int)) c.Col (sd a : Int) (sd b : Int) = some ⟨c.Row - tp c (sd b), min c.Col ((sd a : Int) - 1), false⟩ := by
    unfold f_cursor_Move
    rw [cur_hold _ ha.1 ha.2 hb.1 hb.2]
    simp only [bsm, hc, Option.some.injEq, G_api_Cursor.mk.injEq, Bool.false_and, and_true]
    unfold tp
    omega
  refine ⟨(s'.sp k ⟨some s.grid_Grid.length, q.At, q.Auto⟩).sp k ⟨some s.grid_Grid.length, ⟨c.Row - tp c (sd b), min c.Col ((sd a : Int) - 1), false⟩, q.Auto⟩, _, s.grid_Grid.length, ks', ?_, h39, ?_, rfl⟩
  · unfold f_size_Resize
    simp only [Option.isNone_some, orE_false, bsm, h.p, Bool.false_eq_true, if_false]
    rw [grid_wide h.g, grid_high h.g]
    simp only [bsm, sdd]
    rw [show (⟨q.At.Row, q.At.Col, q.At.Pending⟩ : G_api_Cursor) = q.At from rfl, hc1]
    simp only [bsm]
    rw [hgn]
    simp only [bsm, etp]
    rw [e1]
    simp only [bsm, hp']
    rw [set_pen (get_lt hp')]
    simp only [bsm]
    rw [w64_in (by unfold tp; omega), hmv]
    simp only [bsm]
    rw [set_pen (by simp [Sto.sp]; exact get_lt hp')]
    rfl
  · rw [sp_sp]
    exact ⟨sp_get (get_lt hp'), g1.sp _ _, g2, g3⟩
theorem size_at (h : Pv s k g W q ks) {a b : Int} {q2 : G_linotyperef34_Pen} (hr : f_linotyperef39_Resize q a b = some q2) : ∃ s' g' ks', f_size_Resize s (some k) a b = some s' ∧ Pv s' k g' (sd a) q2 ks' := by
  obtain ⟨s', q', g', ks', a1, a2, a3, _⟩ := size_eq h a b
  rw [hr] at a2
  cases a2
  exact ⟨s', g', ks', a1, a3⟩
theorem size_none (s : Sto) (a b : Int) : f_size_Resize s none a b = some s := rfl
theorem works39 (s : Sto) : ∃ s', f_linotypelaw39_works s = some (s', true) := by
  unfold f_linotypelaw39_works
  obtain ⟨s1, ks1, h1, v1⟩ := place_new (s := s) 1 3
  rw [h1]
  simp only [bsm, Option.isNone_some, Bool.false_eq_true, if_false, v1.p]
  have v2 := v1.set ⟨2, 0, false⟩ true
  rw [set_pen (get_lt v1.p)]
  simp only [bsm]
  obtain ⟨s3, ks3, h3, v3⟩ := put_at v2 (p1 := 1) (t := [99]) (by decide) (q2 := ⟨[⟨[bl], false⟩, ⟨[bl], false⟩, ⟨[⟨1, [99]⟩], false⟩], ⟨2, 0, true⟩, true⟩) (c := ⟨2, 0, false⟩) (by rfl)
  rw [h3]
  simp only [bsm]
  obtain ⟨s4, g4, ks4, h4, v4⟩ := size_at v3 (a := 2) (b := 2) (q2 := ⟨[⟨[bl, bl], false⟩, ⟨[⟨1, [99]⟩, bl], false⟩], ⟨1, 0, false⟩, true⟩) (by rfl)
  rw [h4]
  simp only [bsm, v4.p]
  have hl : 1 < ks4.length := by have := v4.len; simp only [List.length_cons, List.length_nil] at this; omega
  have e0 := v4.at hl
  simp only [List.getElem_cons_succ, List.getElem_cons_zero] at e0
  obtain ⟨r, r1, r2, r3⟩ := v4.g.at hl
  rw [ln_eq r1] at e0
  simp only [G_api_Line.mk.injEq] at e0
  rw [show (1 : Int) = ((1 : Nat) : Int) from rfl, grid_row v4.g hl]
  simp only [bsm]
  obtain ⟨rc, rw_⟩ := r
  simp only at e0 r2 r3
  obtain ⟨e0, _⟩ := e0
  subst e0
  have q3 := row_cell r1 (i := 0) (by decide) r2.sht
  rw [show (((0 : Nat)) : Int) = 0 from rfl] at q3
  rw [q3]
  simp only [bsm]
  rw [grid_wide v4.g]
  exact ⟨_, rfl⟩
end Go.Proofs.YtohpkblleihmaaaDoor
