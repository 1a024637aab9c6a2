/-
  Bytes cut into pieces, in plain Lean: the pieces are the document's. Conditions: lists are shorter than 2^40.
-/
import Derived.Test.YtfhhpdggmefcoaaPa
import Derived.Test.YtfhhpdggmefcoaaP1
import Derived.KernelRfl
namespace Go.Proofs.Ytfhhpdggmefcoaa
open Go Go.Lt

theorem iter_forS {σ τ : Type} {step : σ → Option (σ ⊕ τ)} {n : Nat} (Inv : Nat → σ → Prop) {v : τ}
    (h : ∀ i s, i < n → Inv i s → ∃ s', step s = some (.inl s') ∧ Inv (i + 1) s') (hend : ∀ s, Inv n s → step s = some (.inr v)) {fuel : Nat} {s : σ} (h0 : Inv 0 s) (hf : n < fuel) : iter fuel step s = some v := by
  obtain ⟨t, h1, h2⟩ := iter_for (step := step) Inv (fun t => t = v) (fun i s hi hs => .inl (h i s hi hs)) (fun s hs => ⟨v, hend s hs, rfl⟩) h0 hf
  rw [h1, h2]
/-! ### the program's pieces -/
def pcz (b : List Int) : Nat → List Int → List (List Int)
  | _, [] => []
  | a, d :: l => ((b.drop a).take (d.toNat - a)) :: pcz b d.toNat l
def clp (L : Nat) (n : Int) : Int := imax 0 (imin n (L : Int))
theorem clp_in (L : Nat) (n : Int) : 0 ≤ clp L n ∧ clp L n ≤ L := by
  unfold clp
  rw [imax_eq, imin_eq]
  omega
theorem srt_mem {l : List Int} {x : Int} (h : x ∈ srt l) : x ∈ l := (srt_perm l).mem_iff.1 h
theorem srt_len (l : List Int) : (srt l).length = l.length := (srt_perm l).length_eq
theorem pcz_len (b : List Int) (a : Nat) (l : List Int) : (pcz b a l).length = l.length := by
  induction l generalizing a with
  | nil => rfl
  | cons d l ih => simp [pcz, ih]
theorem cut_eq (b at_ : List Int) (hb : b.length ≤ 1000000) (ha : at_.length ≤ 1000000) : f_chunks_Cut b at_ = some (pcz b 0 (srt (at_.map (clp b.length)) ++ [(b.length : Int)])) := by
  unfold f_chunks_Cut
  rw [rep_eq _ (by omega), rep_eq _ (by omega)]
  simp only [bsm]
  rw [show (List.replicate (0 : Int).toNat (0 : Int)) = [] from rfl]
  refine iter_forB (n := at_.length) (fun i st => st = ((at_.take i).map (clp b.length), (i : Int))) (fun u => u = at_.map (clp b.length)) (fun i st hi e => ?_) (fun st e => ?_) rfl (by omega) (fun u hu => ?_)
  · subst e
    simp only
    rw [if_pos (dlt hi), idx_at hi]
    simp only [bsm]
    rw [app_eq (by simp; omega), w64_succ hi (by omega)]
    refine .inl ⟨_, rfl, ?_⟩
    rw [List.take_succ_eq_append_getElem hi, List.map_append]
    rfl
  · subst e
    exact ⟨_, by simp only; rw [if_neg (by simp)], by simp⟩
  · subst hu
    have hsl := srt_len (at_.map (clp b.length))
    rw [List.length_map] at hsl
    unfold f_slices_Sort
    rw [if_pos (by rw [List.length_map]; omega)]
    simp only [bsm]
    rw [rep_eq _ (by omega), w64_in (by omega), rep_eq _ (by omega)]
    simp only [bsm]
    rw [app_eq (by simp only [List.length_cons, List.length_nil]; omega)]
    simp only [bsm]
    generalize hc : srt (at_.map (clp b.length)) ++ [(b.length : Int)] = c
    have hcs : c.Pairwise (fun x y => x ≤ y) := by
      rw [← hc, List.pairwise_append]
      refine ⟨srt_sorted _, by simp, fun x hx y hy => ?_⟩
      rw [List.mem_singleton] at hy
      subst hy
      obtain ⟨z, _, rfl⟩ := List.mem_map.1 (srt_mem hx)
      exact (clp_in _ _).2
    have hcm : ∀ x ∈ c, 0 ≤ x ∧ x ≤ b.length := fun x hx => by
      rw [← hc] at hx
      rcases List.mem_append.1 hx with hx | hx
      · obtain ⟨z, _, rfl⟩ := List.mem_map.1 (srt_mem hx)
        exact clp_in _ _
      · rw [List.mem_singleton] at hx; omega
    have hcl : c.length ≤ 1000001 := by rw [← hc]; simp only [List.length_append, List.length_cons, List.length_nil]; omega
    rw [show (List.replicate (0 : Int).toNat ([] : List Int)) = [] from rfl]
    refine iter_forB (n := c.length) (fun i (st : List (List Int) × Int × Int) => st.2.2 = (i : Int) ∧ ∃ a : Nat, st.2.1 = (a : Int) ∧ (∀ x ∈ c.drop i, (a : Int) ≤ x) ∧ st.1.length = i ∧ st.1 ++ pcz b a (c.drop i) = pcz b 0 c) (fun u => u = pcz b 0 c) (fun i st hi hI => ?_) (fun st hI => ?_) ⟨rfl, 0, rfl, fun x hx => (hcm x hx).1, rfl, rfl⟩ (by omega) (fun u hu => by subst hu; rfl)
    · obtain ⟨out, f, i'⟩ := st
      obtain ⟨e, a, e2, h1, h2, h3⟩ := hI
      simp only at e e2 h2 h3
      subst e e2
      simp only
      have hm := hcm _ (List.getElem_mem hi)
      have hdr : c.drop i = c[i] :: c.drop (i + 1) := List.drop_eq_getElem_cons hi
      have hai := h1 c[i] (by rw [hdr]; exact List.mem_cons_self)
      rw [if_pos (dlt hi), idx_at hi]
      simp only [bsm]
      obtain ⟨d, hd⟩ : ∃ d : Nat, c[i] = (d : Int) := ⟨c[i].toNat, by omega⟩
      rw [hd] at hm hai hdr ⊢
      rw [slc_eq (by omega) (by omega)]
      simp only [bsm]
      unfold f_bytes_Clone
      rw [app_eq (by simp; omega), List.nil_append]
      simp only [bsm]
      rw [app_eq (by simp; omega), w64_succ hi (by omega)]
      refine .inl ⟨_, rfl, rfl, d, rfl, fun x hx => ?_, by simp [h2], ?_⟩
      · have := hcs.drop (i := i)
        rw [hdr, List.pairwise_cons] at this
        exact this.1 x hx
      · rw [← h3, hdr]
        simp [pcz]
    · obtain ⟨out, f, i'⟩ := st
      obtain ⟨e, a, e2, h1, h2, h3⟩ := hI
      simp only at e e2 h2 h3
      subst e
      refine ⟨_, by simp only; rw [if_neg (by simp)], ?_⟩
      rw [List.drop_length] at h3
      rw [← h3]
      simp [pcz]
theorem pcz_flat (b : List Int) : ∀ (s : List Int) (a : Nat), s.Pairwise (fun x y => x ≤ y) → (∀ x ∈ s, (a : Int) ≤ x ∧ x ≤ b.length) → a ≤ b.length → (pcz b a (s ++ [(b.length : Int)])).flatten = b.drop a := by
  intro s
  induction s with
  | nil =>
    intro a _ _ ha
    simp only [List.nil_append, pcz, Int.toNat_natCast, List.flatten_cons, List.flatten_nil, List.append_nil]
    rw [List.take_of_length_le (by simp)]
  | cons d t ih =>
    intro a hs hm ha
    rw [List.pairwise_cons] at hs
    obtain ⟨h1, h2⟩ := hm d (by simp)
    simp only [List.cons_append, pcz, List.flatten_cons]
    rw [ih d.toNat hs.2 (fun x hx => ⟨by have := hs.1 x hx; omega, (hm x (by simp [hx])).2⟩) (by omega)]
    have := List.take_append_drop (d.toNat - a) (b.drop a)
    rwa [List.drop_drop, show a + (d.toNat - a) = d.toNat by omega] at this

/-! ### the document's pieces -/
def sel (f : Nat → Nat) (k : Nat) : Nat → List Int → List Int
  | _, [] => []
  | i, x :: l => if f i = k then x :: sel f k (i + 1) l else sel f k (i + 1) l
theorem sel_app (f : Nat → Nat) (k i : Nat) (l m : List Int) : sel f k i (l ++ m) = sel f k i l ++ sel f k (i + l.length) m := by
  induction l generalizing i with
  | nil => rfl
  | cons x l ih =>
    simp only [List.cons_append, sel, ih, List.length_cons]
    rw [show i + 1 + l.length = i + (l.length + 1) by omega]
    split <;> rfl
theorem sel_all {f : Nat → Nat} {k i : Nat} {l : List Int} (h : ∀ j, j < l.length → f (i + j) = k) : sel f k i l = l := by
  induction l generalizing i with
  | nil => rfl
  | cons x l ih =>
    have h0 := h 0 (by simp)
    simp only [sel]
    rw [if_pos (by simpa using h0), ih (fun j hj => by have := h (j + 1) (by simp; omega); rwa [show i + 1 + j = i + (j + 1) by omega])]
theorem sel_none {f : Nat → Nat} {k i : Nat} {l : List Int} (h : ∀ j, j < l.length → f (i + j) ≠ k) : sel f k i l = [] := by
  induction l generalizing i with
  | nil => rfl
  | cons x l ih =>
    have h0 := h 0 (by simp)
    simp only [sel]
    rw [if_neg (by simpa using h0), ih (fun j hj => by have := h (j + 1) (by simp; omega); rwa [show i + 1 + j = i + (j + 1) by omega])]
theorem sel_congr {f g : Nat → Nat} {k k' i : Nat} {l : List Int} (h : ∀ j, j < l.length → (f (i + j) = k ↔ g (i + j) = k')) : sel f k i l = sel g k' i l := by
  induction l generalizing i with
  | nil => rfl
  | cons x l ih =>
    have h0 := h 0 (by simp)
    rw [Nat.add_zero] at h0
    have h1 := ih (i := i + 1) (fun j hj => by have := h (j + 1) (by simp; omega); rwa [show i + 1 + j = i + (j + 1) by omega])
    simp only [sel, h1]
    by_cases e : f i = k
    · rw [if_pos e, if_pos (h0.1 e)]
    · rw [if_neg e, if_neg (fun q => e (h0.2 q))]
/-- How many places stand ahead of a byte. -/
def cnt (s : List Int) (i : Nat) : Nat := s.countP fun t => decide (t ≤ (i : Int))
theorem cnt_cons (d : Int) (t : List Int) (i : Nat) : cnt (d :: t) i = cnt t i + (if d ≤ (i : Int) then 1 else 0) := by
  unfold cnt
  rw [List.countP_cons]
  simp
theorem cnt_zero {t : List Int} {i : Nat} (h : ∀ x ∈ t, (i : Int) < x) : cnt t i = 0 := by
  unfold cnt
  rw [List.countP_eq_zero]
  intro x hx
  have := h x hx
  simp
  omega
theorem pcz_sel (b : List Int) : ∀ (s : List Int) (a : Nat), s.Pairwise (fun x y => x ≤ y) → (∀ x ∈ s, (a : Int) ≤ x ∧ x ≤ b.length) → a ≤ b.length →
    pcz b a (s ++ [(b.length : Int)]) = (List.range (s.length + 1)).map fun k => sel (cnt s) k a (b.drop a) := by
  intro s
  induction s with
  | nil =>
    intro a _ _ ha
    simp only [List.nil_append, pcz, Int.toNat_natCast, List.length_nil, Nat.zero_add, List.range_one, List.map_cons, List.map_nil]
    rw [List.take_of_length_le (by simp), sel_all (fun j _ => rfl)]
  | cons d t ih =>
    intro a hs hm ha
    rw [List.pairwise_cons] at hs
    obtain ⟨h1, h2⟩ := hm d (by simp)
    obtain ⟨n, rfl⟩ : ∃ n : Nat, d = (n : Int) := ⟨d.toNat, by omega⟩
    simp only [List.cons_append, pcz, Int.toNat_natCast]
    rw [ih n hs.2 (fun x hx => ⟨hs.1 x hx, (hm x (by simp [hx])).2⟩) (by omega), List.length_cons, List.range_succ_eq_map (n := t.length + 1), List.map_cons, List.map_map]
    have hsp : b.drop a = (b.drop a).take (n - a) ++ b.drop n := by
      have := List.take_append_drop (n - a) (b.drop a)
      rw [List.drop_drop, show a + (n - a) = n by omega] at this
      exact this.symm
    have hl : ((b.drop a).take (n - a)).length = n - a := by simp; omega
    have lo : ∀ j, j < n - a → cnt ((n : Int) :: t) (a + j) = 0 := fun j hj => cnt_zero fun x hx => by
      rcases List.mem_cons.1 hx with rfl | hx
      · omega
      · have := hs.1 x hx; omega
    have hi : ∀ j, cnt ((n : Int) :: t) (n + j) = cnt t (n + j) + 1 := fun j => by rw [cnt_cons, if_pos (by omega)]
    congr 1
    · conv => rhs; rw [hsp]
      rw [sel_app, hl, show a + (n - a) = n by omega, sel_all (fun j hj => lo j (by omega)), sel_none (fun j _ => by rw [hi]; omega), List.append_nil]
    · refine List.map_congr_left fun k _ => ?_
      simp only [Function.comp_apply]
      conv => rhs; rw [hsp]
      rw [sel_app, hl, show a + (n - a) = n by omega, sel_none (l := (b.drop a).take (n - a)) (fun j hj => by rw [lo j (by omega)]; omega), List.nil_append]
      exact sel_congr fun j _ => by rw [hi]; omega
theorem cnt_clp (at_ : List Int) {L i : Nat} (h : i < L) : cnt (srt (at_.map (clp L))) i = cnt at_ i := by
  unfold cnt
  rw [(srt_perm _).countP_eq, List.countP_map]
  refine List.countP_congr fun x _ => ?_
  simp only [Function.comp_apply, decide_eq_true_eq]
  unfold clp
  rw [imax_eq, imin_eq]
  omega
theorem refcut_eq (b at_ : List Int) (hb : b.length ≤ 1000000) (ha : at_.length ≤ 1000000) : f_linotyperef05_Cut b at_ = some ((List.range (at_.length + 1)).map fun k => sel (cnt at_) k 0 b) := by
  unfold f_linotyperef05_Cut
  refine iter_forB (n := at_.length + 1) (fun k st => st = ((List.range k).map (fun k => sel (cnt at_) k 0 b), (k : Int))) (fun u => u = (List.range (at_.length + 1)).map fun k => sel (cnt at_) k 0 b) (fun k st hk e => ?_) (fun st e => ?_) rfl (by omega) (fun u hu => by subst hu; rfl)
  · subst e
    simp only
    rw [if_pos (by simp; omega)]
    have hin : (iter (σ := (List Int) × Int) (τ := (List Int)) (((b.length : Int) - 0).toNat + 1) (fun a =>
       if (decide (a.2 < (b.length : Int))) = true then
       ((iter (σ := Int × Int) (τ := Int) (((at_.length : Int) - 0).toNat + 1) (fun b =>
       if (decide (b.2 < (at_.length : Int))) = true then
       ((idx at_ b.2).bind fun f =>
       if (decide (f ≤ a.2)) = true then
       some ((w64 (b.1 + 1)))
       else
       some (b.1)).bind fun k =>
       some (.inl (k, (w64 (b.2 + 1))))
       else
       some (.inr (b.1))) (0, 0)).bind fun e =>
       if (e == (k : Int)) = true then
       (idx b a.2).bind fun g =>
       (app a.1 ([g] : List Int)).bind fun h =>
       some (h)
       else
       some (a.1)).bind fun j =>
       some (.inl (j, (w64 (a.2 + 1))))
       else
       some (.inr (a.1))) (([] : List Int), 0)) = some (sel (cnt at_) k 0 b) := by
      refine iter_forS (n := b.length) (fun i (st : List Int × Int) => st = (sel (cnt at_) k 0 (b.take i), (i : Int))) (fun i st hi e => ?_) (fun st e => ?_) rfl (by omega)
      · subst e
        simp only
        rw [if_pos (dlt hi)]
        have hsl : (sel (cnt at_) k 0 (b.take i)).length ≤ i := by
          have : ∀ (l : List Int) (j : Nat), (sel (cnt at_) k j l).length ≤ l.length := by
            intro l
            induction l with
            | nil => intro j; simp [sel]
            | cons x l ih => intro j; simp only [sel]; have := ih (j + 1); split <;> simp <;> omega
          have := this (b.take i) 0
          rw [List.length_take] at this
          omega
        have hcn : (iter (σ := Int × Int) (τ := Int) (((at_.length : Int) - 0).toNat + 1) (fun b =>
           if (decide (b.2 < (at_.length : Int))) = true then
           ((idx at_ b.2).bind fun f =>
           if (decide (f ≤ (i : Int))) = true then
           some ((w64 (b.1 + 1)))
           else
           some (b.1)).bind fun k =>
           some (.inl (k, (w64 (b.2 + 1))))
           else
           some (.inr (b.1))) (0, 0)) = some (cnt at_ i : Int) := by
          refine iter_forS (n := at_.length) (fun j (st : Int × Int) => st = ((cnt (at_.take j) i : Int), (j : Int))) (fun j st hj e => ?_) (fun st e => ?_) rfl (by omega)
          · subst e
            simp only
            have hcl : cnt (at_.take j) i ≤ j := by
              unfold cnt
              exact Nat.le_trans List.countP_le_length (by rw [List.length_take]; omega)
            have hsn : cnt (at_.take (j + 1)) i = cnt (at_.take j) i + (if at_[j] ≤ (i : Int) then 1 else 0) := by
              unfold cnt
              rw [List.take_succ_eq_append_getElem hj, List.countP_append, List.countP_singleton]
              simp
            rw [if_pos (dlt hj), idx_at hj, w64_succ hj (by omega)]
            simp only [bsm]
            refine ⟨_, ?_, rfl⟩
            rw [hsn]
            by_cases hle : at_[j] ≤ (i : Int)
            · rw [if_pos (by simpa using hle), if_pos hle, w64_in (by omega)]
              simp
            · rw [if_neg (by simpa using hle), if_neg hle]
              simp
          · subst e
            simp only
            rw [if_neg (by simp), List.take_length]
        rw [hcn]
        simp only [bsm]
        rw [w64_succ hi (by omega)]
        refine ⟨_, ?_, rfl⟩
        rw [List.take_succ_eq_append_getElem hi, sel_app, List.length_take, Nat.min_eq_left (by omega), Nat.zero_add]
        by_cases hk : cnt at_ i = k
        · rw [if_pos (by simp [hk]), idx_at hi]
          simp only [bsm]
          rw [app_eq (by simp; omega)]
          simp [sel, hk]
        · rw [if_neg (by simp; omega)]
          simp [sel, hk]
      · subst e
        simp only
        rw [if_neg (by simp), List.take_length]
    rw [hin]
    simp only [bsm]
    rw [app_eq (by simp; omega), w64_in (by omega)]
    refine .inl ⟨_, rfl, ?_⟩
    rw [List.range_succ, List.map_append]
    simp
  · subst e
    exact ⟨_, by simp only; rw [if_neg (by simp; omega)], rfl⟩
theorem cut_same (b at_ : List Int) (hb : b.length ≤ 1000000) (ha : at_.length ≤ 1000000) : f_linotyperef05_Cut b at_ = f_chunks_Cut b at_ := by
  rw [refcut_eq b at_ hb ha, cut_eq b at_ hb ha]
  congr 1
  have hm : ∀ x ∈ srt (at_.map (clp b.length)), ((0 : Nat) : Int) ≤ x ∧ x ≤ b.length := fun x hx => by
    obtain ⟨z, _, rfl⟩ := List.mem_map.1 (srt_mem hx)
    exact clp_in _ _
  rw [pcz_sel b _ 0 (srt_sorted _) hm (Nat.zero_le _), srt_len, List.length_map, List.drop_zero]
  refine List.map_congr_left fun k _ => sel_congr fun j hj => ?_
  rw [Nat.zero_add, cnt_clp at_ hj]
theorem eqS_self (a : ByteArray) : eqS a a = true := by simp [eqS]
end Go.Proofs.Ytfhhpdggmefcoaa
