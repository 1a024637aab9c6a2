/- Parts of the proofs of FeedNone, FeedPlays: the walk through the code, and plain Lean. No condition. -/
import Derived.Test.YthokmpbbkpjhbaaGreatDoorFeE
import Derived.Test.YthokmpbbkpjhbaaGreatDoorFeD
import Derived.Test.YthokmpbbkpjhbaaGreatDoorFeA
import Derived.KernelRfl
namespace Go.Proofs.YthokmpbbkpjhbaaGreatDoor
open Go Go.Lt
theorem bg_ge {p : List Int} (h : 0 < bg p) : (p.length : Int) ≤ bg p := by
 match p, h with
 | [], h => simp [bg] at h
 | [a], h => simp only [bg, List.length_cons, List.length_nil] at h ⊢; omega
 | [a, b], h => simp only [bg, List.length_cons, List.length_nil] at h ⊢; split at h <;> rename_i g; rw [if_pos g]; omega; omega
 | [a, b, c], h => simp only [bg, List.length_cons, List.length_nil] at h ⊢; split at h <;> rename_i g; rw [if_pos g]; omega; omega
 | [a, b, c, d], h => simp only [bg, List.length_cons, List.length_nil] at h ⊢; split at h <;> rename_i g; rw [if_pos g]; omega; omega
 | _ :: _ :: _ :: _ :: _ :: _, h => simp [bg] at h
theorem bg_le (p : List Int) : 0 ≤ bg p ∧ bg p ≤ 4 := by
 match p with
 | [] => simp [bg]
 | [a] => exact ld_in a
 | [a, b] => simp only [bg]; split <;> first | exact ld_in a | omega
 | [a, b, c] => simp only [bg]; split <;> first | exact ld_in a | omega
 | [a, b, c, d] => simp only [bg]; split <;> omega
 | _ :: _ :: _ :: _ :: _ :: _ => simp [bg]
theorem begins_eq {p : List Int} (hp : Bts p) (hl : p.length ≤ 1000000) : f_linotyperef03_Begins p = some (bg p) := by
 have hb := bg_le p
 unfold f_linotyperef03_Begins
 refine iter_forB (n := 4) (fun i s => s = ((i + 1 : Nat) : Int) ∧ ∀ m : Nat, 1 ≤ m → m ≤ i → bg p ≠ (m : Int)) (fun u => match u with | .inl n => n = bg p | .inr _ => bg p = 0) (fun i s hi hI => ?_) (fun s hI => ?_) ⟨rfl, fun m h1 h2 => by omega⟩ (by decide) (fun u hu => ?_)
 ·obtain ⟨e, hI⟩ := hI
  subst e
  rw [if_pos (by simp; omega)]
  simp only [andE_some, bsm]
  have key : ∃ t : Bool, (andE (decide ((p.length : Int) ≥ 1) && decide ((p.length : Int) ≤ ((i + 1 : Nat) : Int))) ((f_linotyperef03_some p ((i + 1 : Nat) : Int)).bind fun x_22 => some x_22)) = some t ∧ (t = true ↔ bg p = ((i + 1 : Nat) : Int)) := by
   by_cases hc : 1 ≤ p.length ∧ p.length ≤ i + 1
   ·rw [show (decide ((p.length : Int) ≥ 1) && decide ((p.length : Int) ≤ ((i + 1 : Nat) : Int))) = true by simp; omega, andE_true]
    cases p with
    | nil => simp at hc
    | cons a t =>
     rw [some_eq hp (by omega) (by omega)]
     exact ⟨_, rfl, smf_bg hp (by omega) (by omega) (by simpa using hc.2)⟩
   ·rw [show (decide ((p.length : Int) ≥ 1) && decide ((p.length : Int) ≤ ((i + 1 : Nat) : Int))) = false by simp; omega, andE_false]
    refine ⟨false, rfl, ?_⟩
    simp only [Bool.false_eq_true, false_iff]
    intro e
    have := bg_ge (p := p) (by omega)
    have h1 : 1 ≤ p.length := by
     cases p with
     | nil => simp [bg] at e; omega
     | cons _ _ => simp
    omega
  obtain ⟨t, h1, h2⟩ := key
  rw [h1]
  simp only [bsm]
  cases t with
  | true => exact .inr ⟨_, rfl, (h2.1 rfl).symm⟩
  | false =>
   refine .inl ⟨_, rfl, by rw [w64_in (by omega)]; simp, fun m m1 m2 => ?_⟩
   by_cases hm : m ≤ i
   ·exact hI m m1 hm
   ·obtain rfl : m = i + 1 := by omega
    exact fun e => by have := h2.2 e; cases this
 ·obtain ⟨e, hI⟩ := hI
  subst e
  refine ⟨.inr (), rfl, ?_⟩
  have e1 := hI 1 (by omega) (by omega)
  have e2 := hI 2 (by omega) (by omega)
  have e3 := hI 3 (by omega) (by omega)
  have e4 := hI 4 (by omega) (by omega)
  simp only
  omega
 ·cases u with
  | inl n => simp only at hu; rw [hu]
  | inr u => simp only at hu; rw [hu]
theorem bg_take {p : List Int} (h : 0 < bg p) {i : Nat} (h1 : 1 ≤ i) (h2 : i ≤ p.length) : bg (p.take i) = bg p := by
 have key : ∀ d, d + 1 ≤ p.length → bg (p.take (p.length - d)) = bg p := by
  intro d
  induction d with
  | zero => intro _; rw [Nat.sub_zero, List.take_of_length_le (Nat.le_refl _)]
  | succ d ih =>
   intro hd
   have e := ih (by omega)
   rw [show p.length - d = (p.length - (d + 1)) + 1 by omega, List.take_succ_eq_append_getElem (show p.length - (d + 1) < p.length by omega)] at e
   have hne : p.take (p.length - (d + 1)) ≠ [] := fun q => by
    have := congrArg List.length q
    rw [List.length_take, List.length_nil] at this
    omega
   rw [bg_pre hne (by rw [e]; exact h), e]
 have := key (p.length - i) (by omega)
 rwa [show p.length - (p.length - i) = i by omega] at this
theorem vl_whole {p : List Int} (hp : Bts p) (hb : bg p = (p.length : Int)) (hne : p ≠ []) : f_linotyperef03_whole p = some (vl p) ∧ 0 ≤ vl p ∧ vl p ≤ 2000000000 := by
 have h4 := bg_le p
 have hlen : 1 ≤ p.length := by
  cases p with
  | nil => exact absurd rfl hne
  | cons _ _ => simp
 have hbd : ∀ i, 1 ≤ i → i < p.length → 0 ≤ vl (p.take i) ∧ vl (p.take i) ≤ 131071 := fun i h1 h2 => by
  have hl : (p.take i).length = i := by rw [List.length_take]; omega
  refine vl_in (.inr ?_) (fun x hx => hp x (List.mem_of_mem_take hx)) (fun e => by rw [e] at hl; simp at hl; omega)
  rw [hl, bg_take (by omega) h1 (by omega)]
  omega
 have hstep : ∀ i, 1 ≤ i → (h : i < p.length) → vl (p.take (i + 1)) = vl (p.take i) * 64 + (p[i] - 128) := fun i h1 h => by
  rw [List.take_succ_eq_append_getElem h, vl_snoc]
  intro e
  have := congrArg List.length e
  rw [List.length_take, List.length_nil] at this
  omega
 have h0 : ∀ a t, p = a :: t → vl (p.take 1) = a - mk p.length := fun a t e => by
  have hk : ld a = (p.length : Int) := by
   have := bg_take (p := p) (by omega) (i := 1) (by omega) (by omega)
   rw [e, List.take_succ_cons, List.take_zero] at this
   rw [← hb, e, ← this]
   rfl
  rw [e, List.take_succ_cons, List.take_zero, ← e]
  simp only [vl, List.foldl]
  unfold b0 mk
  repeat' split
  all_goals omega
 have hfin : 0 ≤ vl p ∧ vl p ≤ 2000000000 := by
  by_cases h1 : p.length = 1
  ·obtain ⟨a, rfl⟩ : ∃ a, p = [a] := by
    match p, h1 with
    | [a], _ => exact ⟨a, rfl⟩
   have := hp a (by simp)
   obtain ⟨a1, a2⟩ := this
   simp only [bg, List.length_cons, List.length_nil] at hb
   simp only [vl, List.foldl]
   unfold b0
   repeat' split
   all_goals omega
  ·have e := hstep (p.length - 1) (by omega) (by omega)
   rw [show p.length - 1 + 1 = p.length by omega, List.take_of_length_le (Nat.le_refl _)] at e
   have b := hbd (p.length - 1) (by omega) (by omega)
   have hx := hp _ (List.getElem_mem (show p.length - 1 < p.length by omega))
   obtain ⟨x1, x2⟩ := hx
   have ht : 128 ≤ p[p.length - 1] := by
    have e2 : p = p.take (p.length - 1) ++ [p[p.length - 1]'(by omega)] := by
     rw [← List.take_succ_eq_append_getElem (by omega), show p.length - 1 + 1 = p.length by omega, List.take_of_length_le (Nat.le_refl _)]
    have hl : (p.take (p.length - 1)).length = p.length - 1 := by rw [List.length_take]; omega
    obtain ⟨lo, hi, _, f2, f3, f4, f5⟩ := more_iff (h := p.take (p.length - 1)) (by rw [hl, bg_take (by omega) (by omega) (by omega)]; omega) (fun q => by rw [q] at hl; simp at hl; omega) (p[p.length - 1]'(by omega))
    by_cases hr : lo ≤ p[p.length - 1]'(by omega) ∧ p[p.length - 1]'(by omega) ≤ hi
    ·omega
    ·have := f5 hr
     rw [← e2] at this
     omega
   omega
 refine ⟨?_, hfin⟩
 obtain ⟨m1, _, _, _⟩ := mk_at (n := p.length) hlen (by omega)
 cases hpe : p with
 | nil => exact absurd hpe hne
 | cons a t =>
  rw [← hpe]
  have hmk : 0 ≤ mk p.length ∧ mk p.length ≤ 240 := by unfold mk; repeat' split; all_goals omega
  have ha := hp a (by rw [hpe]; simp)
  obtain ⟨a1, a2⟩ := ha
  have hi0 : idx p 0 = some a := by rw [hpe]; rfl
  unfold f_linotyperef03_whole
  rw [m1, hi0]
  simp only [bsm]
  rw [w64_in (n := a) (by omega), w64_in (n := a - mk p.length) (by omega)]
  refine iter_forB (n := p.length - 1) (fun i s => s = (vl (p.take (i + 1)), ((i + 1 : Nat) : Int))) (fun u => u = vl p) (fun i s hi e => ?_) (fun s e => ?_) (by rw [h0 a t hpe]; rfl) (by omega) (fun u hu => ?_)
  ·subst e
   have hx := hp _ (List.getElem_mem (show i + 1 < p.length by omega))
   obtain ⟨x1, x2⟩ := hx
   have hv := hbd (i + 1) (by omega) (by omega)
   simp only
   rw [if_pos (by simp; omega), idx_at (show i + 1 < p.length by omega)]
   simp only [bsm]
   rw [w64_in (n := p[i + 1]) (by omega), w64_in (n := vl (p.take (i + 1)) * 64) (by omega), w64_in (n := vl (p.take (i + 1)) * 64 + p[i + 1]) (by omega), w64_in (n := vl (p.take (i + 1)) * 64 + p[i + 1] - 128) (by omega), w64_succ (show i + 1 < p.length by omega) (by omega)]
   refine .inl ⟨_, rfl, ?_⟩
   rw [hstep (i + 1) (by omega) (by omega)]
   congr 1
   omega
  ·subst e
   refine ⟨_, by simp only; rw [if_neg (by simp; omega)], ?_⟩
   rw [show p.length - 1 + 1 = p.length by omega, List.take_of_length_le (Nat.le_refl _)]
  ·subst hu
   rw [w32_in (by omega)]
theorem Bts.snoc {h : List Int} (hb : Bts h) {b : Int} (h1 : Byt b) : Bts (h ++ [b]) := fun x hx => by
 rcases List.mem_append.1 hx with hx | hx
 ·exact hb x hx
 ·rw [List.mem_singleton.1 hx]; exact h1
theorem step1_nil {b : Int} (h : Byt b) : f_linotyperef03_Step__1 [] b = some (rs0 b) := by
 have hb1 : Bts ([] ++ [b]) := Bts.snoc (fun x hx => by simp at hx) h
 have hl := ld_in b
 unfold f_linotyperef03_Step__1
 rw [app_eq (by simp)]
 simp only [bsm]
 rw [app_eq (by simp)]
 simp only [bsm]
 rw [begins_eq (by simpa using hb1) (by simp)]
 simp only [bsm, andE_some, List.nil_append, bg, List.length_cons, List.length_nil]
 unfold rs0
 by_cases h1 : 1 < ld b
 ·rw [if_pos (by simp; omega), if_pos h1]
 ·rw [if_neg (by simp; omega), if_neg h1]
  by_cases h2 : ld b = 1
  ·rw [if_pos (by simp; omega), if_pos h2, (vl_whole (p := [b]) (by simpa using hb1) (by simpa [bg] using h2) (by simp)).1]
   simp only [bsm, vl, List.foldl, b0]
   rw [if_neg (by omega), if_neg (by omega), if_neg (by omega)]
  ·rw [if_neg (by simp; omega), if_neg h2]
   simp
theorem step_eq {h : List Int} (hh : Hh h) (hb : Bts h) {b : Int} (h1 : Byt b) : f_linotyperef03_Step h b = some (rstep h b) := by
 have hb1 := hb.snoc h1
 have h3 := hh.len
 unfold f_linotyperef03_Step
 rw [app_eq (by simp; omega), List.nil_append]
 simp only [bsm]
 rw [app_eq (by simp; omega)]
 simp only [bsm]
 rw [begins_eq hb1 (by simp; omega)]
 simp only [bsm, andE_some]
 by_cases hne : h = []
 ·subst hne
  have := step1_nil h1
  unfold f_linotyperef03_Step__1 at this
  rw [rstep_nil, ← this, app_eq (by simp)]
  simp only [bsm]
  rw [app_eq (by simp)]
  simp only [bsm]
  rw [begins_eq (by simpa using hb1) (by simp)]
  simp only [bsm, andE_some, List.nil_append, List.length_nil]
  rfl
 ·unfold rstep
  rw [if_neg hne]
  have hl : (h ++ [b]).length = h.length + 1 := by simp
  rw [hl]
  by_cases g1 : (h.length : Int) + 1 < bg (h ++ [b])
  ·rw [if_pos (by simp; omega), if_pos g1]
  ·rw [if_neg (by simp; omega), if_neg g1]
   by_cases g2 : 0 < bg (h ++ [b])
   ·rw [if_pos (by simpa using g2), if_pos g2]
    have hw : bg (h ++ [b]) = ((h ++ [b]).length : Int) := by
     have := bg_ge g2
     rw [hl] at this ⊢
     omega
    rw [(vl_whole hb1 hw (by simp)).1]
    rfl
   ·rw [if_neg (by simpa using g2), if_neg g2, if_neg (by simp; exact hne), step1_nil h1]
    have hrl : (rs0 b).1.length ≤ 1 := by
     unfold rs0
     split
     ·simp
     ·split <;> simp
    simp only [bsm]
    rw [app_eq (by simp; omega)]
    rfl
theorem rstep_len (h : List Int) (b : Int) : (rstep h b).1.length ≤ 2 := by
 have hrl : (rs0 b).1.length ≤ 1 := by
  unfold rs0
  split
  ·simp
  ·split <;> simp
 unfold rstep
 split
 ·omega
 ·split
  ·simp
  ·split
   ·simp
   ·simp; omega
theorem rfeed_len (h p : List Int) : (rfeed h p).1.length ≤ 2 * p.length := by
 induction p generalizing h with
 | nil => simp [rfeed]
 | cons b p ih =>
  have := ih (rstep h b).2
  have h2 := rstep_len h b
  simp only [rfeed, List.length_append, List.length_cons]
  omega
theorem rstep_bts {h : List Int} (hb : Bts h) {b : Int} (h1 : Byt b) : Bts (rstep h b).2 := by
 have h0 : Bts (rs0 b).2 := by
  unfold rs0
  split
  ·intro x hx; rw [List.mem_singleton.1 hx]; exact h1
  ·split <;> (intro x hx; simp at hx)
 unfold rstep
 split
 ·exact h0
 ·split
  ·exact hb.snoc h1
  ·split
   ·intro x hx; simp at hx
   ·exact h0
theorem rfeed_bts {h p : List Int} (hb : Bts h) (hp : Bts p) : Bts (rfeed h p).2 := by
 induction p generalizing h with
 | nil => exact hb
 | cons b p ih => exact ih (rstep_bts hb (hp b (by simp))) (fun x hx => hp x (List.mem_cons_of_mem _ hx))
theorem feed_eq {h p : List Int} (hh : Hh h) (hb : Bts h) (hp : Bts p) (hl : p.length ≤ 1000000) : f_linotyperef03_Feed h p = some (rfeed h p) := by
 unfold f_linotyperef03_Feed
 refine iter_forB (n := p.length) (fun i s => s = ((rfeed h (p.take i)).2, (rfeed h (p.take i)).1, (i : Int))) (fun u => u = ((rfeed h p).2, (rfeed h p).1)) (fun i s hi e => ?_) (fun s e => ?_) rfl (by omega) (fun u hu => ?_)
 ·subst e
  have hpt : Bts (p.take i) := fun x hx => hp x (List.mem_of_mem_take hx)
  simp only
  rw [if_pos (dlt hi), idx_at hi, w64_succ hi (by omega)]
  simp only [bsm]
  rw [step_eq (hh.feed _) (rfeed_bts hb hpt) (hp _ (List.getElem_mem hi))]
  simp only [bsm]
  have h1 := rfeed_len h (p.take i)
  have h2 := rstep_len (rfeed h (p.take i)).2 p[i]
  rw [List.length_take] at h1
  rw [app_eq (by omega)]
  refine .inl ⟨_, rfl, ?_⟩
  rw [List.take_succ_eq_append_getElem hi, rfeed_snoc]
 ·subst e
  refine ⟨_, by simp only; rw [if_neg (by simp)], ?_⟩
  rw [List.take_of_length_le (Nat.le_refl _)]
 ·subst hu
  rfl
end Go.Proofs.YthokmpbbkpjhbaaGreatDoor
namespace Go.Proofs.YthokmpbbkpjhbaaGreatDoor
open Go Go.Lt
theorem Hh.nil : Hh [] := .inl rfl
theorem Bts.nil : Bts [] := fun x hx => by simp at hx
def told (c : List Int) : List Int := (rfeed [] c).1 ++ (if (rfeed [] c).2 = [] then [] else [65533])
theorem GK.take {c : List Int} {k : Nat} (h : GK c k) : GK (c.take k) k := by
  have hle := h.le
  refine ⟨by rw [List.length_take]; omega, fun m h1 h2 => ?_, fun hk => ?_, fun hk => ?_, fun hk _ => .inl (by rw [List.length_take]; omega)⟩
  · rw [List.take_take, Nat.min_eq_left (by omega)]
    exact h.lt m h1 h2
  · subst hk
    simp [bg]
  · rw [List.take_take, Nat.min_self]
    exact h.p hk
theorem part_feed {c : List Int} {k : Nat} (h : GK c k) (hk : 0 < k) : (bg (c.take k) = k ∧ rfeed [] (c.take k) = ([vl (c.take k)], [])) ∨ ((k : Int) < bg (c.take k) ∧ rfeed [] (c.take k) = ([], c.take k)) := by
  have hle := h.le
  have hl : (c.take k).length = k := by rw [List.length_take]; omega
  have hp := h.p hk
  have hge := bg_ge hp
  rw [hl] at hge
  have ht := h.take
  have htt : (c.take k).take k = c.take k := by rw [List.take_take, Nat.min_self]
  by_cases hw : bg (c.take k) = k
  · refine .inl ⟨hw, ?_⟩
    have := part_whole ht hk (by rw [htt]; exact hw)
    rw [htt, List.drop_of_length_le (by omega)] at this
    exact this
  · refine .inr ⟨by omega, ?_⟩
    have ht' : GK (c.take k) (c.take k).length := by rw [hl]; exact ht
    exact part_end ht' (by omega) (by rw [hl]; omega)
theorem told_part {c : List Int} {k : Nat} (h : GK c k) (hc : c ≠ []) : told c = (if 0 < k then (if bg (c.take k) = k then vl (c.take k) else 65533) else 65533) :: told (c.drop (max k 1)) := by
  by_cases hk : 0 < k
  · rw [if_pos hk, show max k 1 = k by omega]
    rcases part_feed h hk with ⟨hw, _⟩ | ⟨hw, _⟩
    · rw [if_pos hw]
      have := part_whole h hk hw
      unfold told
      rw [this]
      rfl
    · rw [if_neg (by omega)]
      by_cases hlt : k < c.length
      · have := part_torn h hk hw hlt
        unfold told
        rw [this]
        rfl
      · have hkl : k = c.length := by have := h.le; omega
        subst hkl
        rw [List.take_of_length_le (Nat.le_refl _)] at hw
        have := part_end h hk hw
        unfold told
        rw [this, if_neg hc, List.drop_of_length_le (Nat.le_refl _)]
        rfl
  · rw [if_neg hk, show max k 1 = 1 by omega]
    have := part_none hc (h.z (by omega))
    unfold told
    rw [this]
    rfl
theorem part_loop {p : List Int} (hp : Bts p) (hl : p.length ≤ 1000000) {a : Nat} (ha : a < p.length) : ∃ k : Nat, GK (p.drop a) k ∧ iter (σ := Int) (τ := Int) (((p.length : Int) - (w64 ((a : Int) + 0))).toNat + 1) (fun s_15 =>
 (andE (decide ((w64 ((a : Int) + s_15)) < (p.length : Int))) ((slc p (a : Int) (w64 ((w64 ((a : Int) + s_15)) + 1))).bind fun x_30 =>
 (f_linotyperef03_Begins x_30).bind fun x_31 =>
 some (decide (x_31 > 0)))).bind fun d_22 =>
 if d_22 = true then
 (slc p (a : Int) (w64 ((a : Int) + (w64 (s_15 + 1))))).bind fun x_43 =>
 (f_linotyperef03_Begins x_43).bind fun x_44 =>
 if (x_44 == (w64 (s_15 + 1))) = true then
 some (.inr ((w64 (s_15 + 1))))
 else
 some (.inl ((w64 (s_15 + 1))))
 else
 some (.inr (s_15))) (0) = some (k : Int) := by
  have hcl : (p.drop a).length = p.length - a := by simp
  have hbt : ∀ i, Bts ((p.drop a).take i) := fun i x hx => hp x (List.mem_of_mem_drop (List.mem_of_mem_take hx))
  obtain ⟨t, h1, h2⟩ := iter_inv (σ := Int) (τ := Int) (step := fun s_15 =>
 (andE (decide ((w64 ((a : Int) + s_15)) < (p.length : Int))) ((slc p (a : Int) (w64 ((w64 ((a : Int) + s_15)) + 1))).bind fun x_30 =>
 (f_linotyperef03_Begins x_30).bind fun x_31 =>
 some (decide (x_31 > 0)))).bind fun d_22 =>
 if d_22 = true then
 (slc p (a : Int) (w64 ((a : Int) + (w64 (s_15 + 1))))).bind fun x_43 =>
 (f_linotyperef03_Begins x_43).bind fun x_44 =>
 if (x_44 == (w64 (s_15 + 1))) = true then
 some (.inr ((w64 (s_15 + 1))))
 else
 some (.inl ((w64 (s_15 + 1))))
 else
 some (.inr (s_15))) (fun s => ∃ k : Nat, s = (k : Int) ∧ k ≤ p.length - a ∧ ∀ m, 0 < m → m ≤ k → (m : Int) < bg ((p.drop a).take m)) (fun s => p.length - a - s.toNat) (fun t => ∃ k : Nat, t = (k : Int) ∧ GK (p.drop a) k)
    (fun s hs => by
      obtain ⟨k, rfl, hk, hI⟩ := hs
      have e1 : w64 ((a : Int) + (k : Int)) = ((a + k : Nat) : Int) := by rw [w64_in (by omega)]; simp
      have e2 : w64 (((a + k : Nat) : Int) + 1) = ((a + k + 1 : Nat) : Int) := by rw [w64_in (by omega)]; simp
      have e3 : w64 ((k : Int) + 1) = ((k + 1 : Nat) : Int) := by rw [w64_in (by omega)]; simp
      have e4 : w64 ((a : Int) + ((k + 1 : Nat) : Int)) = ((a + k + 1 : Nat) : Int) := by rw [w64_in (by omega)]; simp; omega
      simp only [e1, e2, e3, e4]
      by_cases hlt : k < p.length - a
      · have hs := slc_eq (xs := p) (i := a) (j := a + k + 1) (by omega) (by omega)
        rw [show a + k + 1 - a = k + 1 by omega] at hs
        rw [show decide (((a + k : Nat) : Int) < (p.length : Int)) = true by simp; omega, andE_true, hs]
        simp only [bsm]
        rw [begins_eq (hbt _) (by simp; omega)]
        simp only [bsm]
        have hge : 0 < bg ((p.drop a).take (k + 1)) → ((k + 1 : Nat) : Int) ≤ bg ((p.drop a).take (k + 1)) := fun h => by
          have := bg_ge h
          rw [List.length_take, hcl] at this
          omega
        by_cases hb : 0 < bg ((p.drop a).take (k + 1))
        · rw [if_pos (by simpa using hb)]
          by_cases hw : bg ((p.drop a).take (k + 1)) = ((k + 1 : Nat) : Int)
          · rw [if_pos (by simpa using hw)]
            refine .inr ⟨_, rfl, k + 1, rfl, by omega, fun m m1 m2 => hI m m1 (by omega), fun h => by omega, fun _ => hb, fun _ h => by omega⟩
          · rw [if_neg (by simpa using hw)]
            refine .inl ⟨_, rfl, ⟨k + 1, rfl, by omega, fun m m1 m2 => ?_⟩, by simp; omega⟩
            by_cases hm : m ≤ k
            · exact hI m m1 hm
            · obtain rfl : m = k + 1 := by omega
              have := hge hb
              omega
        · rw [if_neg (by simpa using hb)]
          have hz : bg ((p.drop a).take (k + 1)) = 0 := by have := bg_le ((p.drop a).take (k + 1)); omega
          refine .inr ⟨_, rfl, k, rfl, by omega, fun m m1 m2 => hI m m1 (by omega), fun h => by subst h; exact hz, fun h => by have := hI k h (Nat.le_refl _); omega, fun _ _ => .inr hz⟩
      · rw [show decide (((a + k : Nat) : Int) < (p.length : Int)) = false by simp; omega, andE_false]
        simp only [bsm, Bool.false_eq_true, if_false]
        have hkk : k = (p.drop a).length := by omega
        refine .inr ⟨_, rfl, k, rfl, by omega, fun m m1 m2 => hI m m1 (by omega), fun h => by omega, fun h => by have := hI k h (Nat.le_refl _); omega, fun _ _ => .inl hkk⟩)
    (((p.length : Int) - (w64 ((a : Int) + 0))).toNat + 1) 0 ⟨0, rfl, Nat.zero_le _, fun m m1 m2 => by omega⟩ (by rw [w64_in (by omega)]; omega)
  obtain ⟨k, rfl, hk⟩ := h2
  exact ⟨k, hk, h1⟩
theorem told_nil : told [] = [] := rfl
theorem all_eq {p : List Int} (hp : Bts p) (hl : p.length ≤ 1000000) : ∃ l, f_linotyperef04_All p = some l ∧ l.map (·.R) = told p ∧ l.length ≤ p.length := by
  unfold f_linotyperef04_All
  refine iter_invE (fun s => ∃ a : Nat, s.2 = (a : Int) ∧ a ≤ p.length ∧ s.1.length ≤ a ∧ s.1.map (·.R) ++ told (p.drop a) = told p) (fun s => p.length - s.2.toNat) (fun t => t.map (·.R) = told p ∧ t.length ≤ p.length) (fun s hs => ?_) ⟨0, rfl, Nat.zero_le _, Nat.le_refl _, rfl⟩ (by simp) (fun t ht => ⟨t, rfl, ht⟩)
  obtain ⟨out, n⟩ := s
  obtain ⟨a, e, ha, ho, hI⟩ := hs
  simp only at e ho hI
  subst e
  simp only
  by_cases hlt : a < p.length
  · rw [if_pos (dlt hlt)]
    obtain ⟨k, hk, hloop⟩ := part_loop hp hl hlt
    rw [hloop]
    simp only [bsm]
    have hcl : (p.drop a).length = p.length - a := by simp
    have hkle := hk.le
    rw [hcl] at hkle
    have htp := told_part hk (fun e => by have := congrArg List.length e; rw [hcl] at this; simp at this; omega)
    have hz : ∃ kn bad, (if (decide ((k : Int) > 0)) = true then
        (slc p (a : Int) (w64 ((a : Int) + (k : Int)))).bind fun x_66 =>
        (f_linotyperef03_Feed ([] : List Int) x_66).bind fun x_67 =>
        if ((x_67.2.length : Int) == 0) = true then
        (idx x_67.1 0).bind fun x_89 =>
        (some (x_89, (k : Int), (w64 ((a : Int) + (k : Int))), false) : Option (Int × Int × Int × Bool))
        else
        (some (65533, (imax (k : Int) 1), (imin (w64 ((w64 ((a : Int) + (k : Int))) + 1)) (p.length : Int)), true) : Option (Int × Int × Int × Bool))
        else
        (some (65533, (imax (k : Int) 1), (w64 ((a : Int) + 1)), true) : Option (Int × Int × Int × Bool))) = some ((if 0 < k then (if bg ((p.drop a).take k) = k then vl ((p.drop a).take k) else 65533) else 65533), ((max k 1 : Nat) : Int), kn, bad) := by
      by_cases h0 : 0 < k
      · rw [if_pos (by simpa using h0), if_pos h0]
        have e1 : w64 ((a : Int) + (k : Int)) = ((a + k : Nat) : Int) := by rw [w64_in (by omega)]; simp
        have hs := slc_eq (xs := p) (i := a) (j := a + k) (by omega) (by omega)
        rw [show a + k - a = k by omega] at hs
        rw [e1, hs]
        simp only [bsm]
        rw [feed_eq Hh.nil Bts.nil (fun x hx => hp x (List.mem_of_mem_drop (List.mem_of_mem_take hx))) (by simp; omega)]
        simp only [bsm]
        rcases part_feed hk h0 with ⟨hw, hf⟩ | ⟨hw, hf⟩
        · rw [hf, if_pos (by simp), if_pos hw]
          exact ⟨_, _, by rw [show max k 1 = k by omega]; rfl⟩
        · rw [hf, if_neg (by simp; omega), if_neg (by omega)]
          exact ⟨_, _, by rw [imax_eq, show max (k : Int) 1 = ((max k 1 : Nat) : Int) by omega]⟩
      · rw [if_neg (by simpa using h0), if_neg h0]
        exact ⟨_, _, by rw [imax_eq, show max (k : Int) 1 = ((max k 1 : Nat) : Int) by omega]⟩
    obtain ⟨kn, bad, hz⟩ := hz
    rw [hz]
    simp only [bsm]
    rw [app_eq (by simp; omega)]
    simp only [bsm]
    have e5 : w64 ((a : Int) + ((max k 1 : Nat) : Int)) = ((a + max k 1 : Nat) : Int) := by rw [w64_in (by omega)]; simp
    rw [e5]
    refine .inl ⟨_, rfl, ⟨a + max k 1, rfl, by omega, by simp; omega, ?_⟩, by simp only; omega⟩
    simp only [List.map_append, List.map_cons, List.map_nil, List.append_assoc, List.cons_append, List.nil_append]
    rw [← hI, htp, List.drop_drop]
  · rw [if_neg (by simp; omega)]
    refine .inr ⟨_, rfl, ?_, by omega⟩
    rw [List.drop_of_length_le (by omega), told_nil, List.append_nil] at hI
    exact hI
end Go.Proofs.YthokmpbbkpjhbaaGreatDoor
namespace Go.Proofs.YthokmpbbkpjhbaaGreatDoor
open Go Go.Lt
variable {s C : Sto} {f k g W H : Nat} {q P : G_linotyperef34_Pen} {ks : List Nat}
def Sto.sf (s : Sto) (f : Nat) (x : G_feed_Feeder) : Sto := { s with feed_Feeder := s.feed_Feeder.set f x }
theorem set_fd {x : G_feed_Feeder} (h : f < s.feed_Feeder.length) : s.set_feed_Feeder f x = some (s.sf f x) := by
 unfold Sto.set_feed_Feeder
 rw [if_pos h]
 rfl
theorem sf_get {x : G_feed_Feeder} (h : f < s.feed_Feeder.length) : (s.sf f x).feed_Feeder[f]? = some x := by simp [Sto.sf, h]
theorem sf_sf (s : Sto) (f : Nat) (x y : G_feed_Feeder) : (s.sf f x).sf f y = s.sf f y := by simp [Sto.sf]
theorem sf_len (s : Sto) (f : Nat) (x : G_feed_Feeder) : (s.sf f x).feed_Feeder.length = s.feed_Feeder.length := by simp [Sto.sf]
theorem Pv.sf (h : Pv s s k g W q ks) (x : G_feed_Feeder) : Pv (s.sf f x) (s.sf f x) k g W q ks :=
 ⟨h.p, ⟨h.g.g, h.g.r, h.g.h1, h.g.h2, h.g.w1, h.g.w2⟩, h.nd, h.l, rfl, h.f.rgp ⟨rfl, rfl, rfl⟩ ⟨rfl, rfl, rfl⟩⟩
theorem Wc.sf {j : Nat} {c : G_api_Cursor} {y : G_cwidth_Gauge} {t : List Int} {n : Int} (h : Wc s j c y t n) (x : G_feed_Feeder) : Wc (s.sf f x) j c y t n := ⟨h.x⟩
def ownC (C : Sto) (f j : Nat) : Prop := ∃ x, C.feed_Feeder[f]? = some x ∧ x.open_ = some j
structure Fz (C s : Sto) (f : Nat) (op : Option Nat) : Prop where
 fl : C.feed_Feeder.length ≤ s.feed_Feeder.length
 ff : ∀ j, j < C.feed_Feeder.length → j ≠ f → s.feed_Feeder[j]? = C.feed_Feeder[j]?
 wl : C.widen_Cluster.length ≤ s.widen_Cluster.length
 wc : ∀ j, j < C.widen_Cluster.length → ¬ ownC C f j → s.widen_Cluster[j]? = C.widen_Cluster[j]?
 oc : ∀ j, op = some j → ownC C f j ∨ C.widen_Cluster.length ≤ j
 sc : s.screen_Screen = C.screen_Screen
theorem oth_fd {a b : Sto} (h : a.oth = b.oth) : a.feed_Feeder = b.feed_Feeder := by
 have := congrArg Sto.feed_Feeder h
 exact this
theorem oth_sc {a b : Sto} (h : a.oth = b.oth) : a.screen_Screen = b.screen_Screen := by
 have := congrArg Sto.screen_Screen h
 exact this
theorem Fz.oth {s' : Sto} {op : Option Nat} (h : Fz C s f op) (e : s'.oth = s.oth) : Fz C s' f op := by
 refine ⟨by rw [oth_fd e]; exact h.fl, by rw [oth_fd e]; exact h.ff, by rw [oth_cl e]; exact h.wl, by rw [oth_cl e]; exact h.wc, h.oc, by rw [oth_sc e]; exact h.sc⟩
theorem Fz.sf {op : Option Nat} (h : Fz C s f op) (x : G_feed_Feeder) (op' : Option Nat) (ho : ∀ j, op' = some j → ownC C f j ∨ C.widen_Cluster.length ≤ j) : Fz C (s.sf f x) f op' :=
 ⟨by rw [sf_len]; exact h.fl, fun j a b => by simp only [Sto.sf]; rw [List.getElem?_set_ne (Ne.symm b)]; exact h.ff j a b, h.wl, h.wc, ho, h.sc⟩
theorem Fz.more {op : Option Nat} (h : Fz C s f op) {s' : Sto} {z : G_widen_Cluster} (e : s'.oth = (s.add_widen_Cluster z).oth) : Fz C s' f op := by
 have e1 : s'.feed_Feeder = s.feed_Feeder := (oth_fd e).trans rfl
 have e2 : s'.widen_Cluster = s.widen_Cluster ++ [z] := (oth_cl e).trans rfl
 have e3 : s'.screen_Screen = s.screen_Screen := (oth_sc e).trans rfl
 have hl := h.wl
 exact ⟨by rw [e1]; exact h.fl, by rw [e1]; exact h.ff, by rw [e2, List.length_append]; omega, fun j a b => by rw [e2, List.getElem?_append_left (by omega)]; exact h.wc j a b, h.oc, by rw [e3]; exact h.sc⟩
theorem Fz.grow {j : Nat} (h : Fz C s f (some j)) {s' : Sto} {z : G_widen_Cluster} (e : s'.oth = (s.sc j z).oth) : Fz C s' f (some j) := by
 have e1 : s'.feed_Feeder = s.feed_Feeder := (oth_fd e).trans rfl
 have e2 : s'.widen_Cluster = s.widen_Cluster.set j z := (oth_cl e).trans rfl
 have e3 : s'.screen_Screen = s.screen_Screen := (oth_sc e).trans rfl
 refine ⟨by rw [e1]; exact h.fl, by rw [e1]; exact h.ff, by rw [e2, List.length_set]; exact h.wl, fun i a b => ?_, h.oc, by rw [e3]; exact h.sc⟩
 rw [e2, List.getElem?_set_ne ?_]
 ·exact h.wc i a b
 ·rintro rfl
  rcases h.oc j rfl with q | q
  ·exact b q
  ·omega
def lsil (G : List Int) : Bool := match G.getLast? with | none => true | some x => sil x
theorem lsil_snoc (G : List Int) (r : Int) : lsil (G ++ [r]) = sil r := by simp [lsil]
def sgOf (G : List Int) : Sg := if lsil G = true then sg0 else sgF (G.map pr)
structure Op (s : Sto) (k g W H : Nat) (P : G_linotyperef34_Pen) (G : List Int) (q : G_linotyperef34_Pen) (j : Nat) : Prop where
 x : ∃ q0 c C0 s0 ks0 cs0 cl, cls pj pr G = cs0 ++ [cl] ∧ cl ≠ [] ∧ sil (cl.headD 0) = false ∧ fo layc P cs0 = some q0 ∧ Pv C0 s0 k g W q0 ks0 ∧ ks0.length = H ∧
  Wc s j c (gf (cl.take 16) ((cl.take 16).map pr)) (cl.take 16) (w16 cl) ∧ f_linotyperef34_Pen_Put q0 (w16 cl) (cl.take 16) = some (q, c)
structure Fd (C s : Sto) (f k g W H : Nat) (P : G_linotyperef34_Pen) (G h : List Int) (q : G_linotyperef34_Pen) (ks : List Nat) (op : Option Nat) : Prop where
 v : Pv s s k g W q ks
 fr : Fr C s k g ks
 fz : Fz C s f op
 n : ks.length = H
 hd : Hd q.At W H
 l : fo layc P (cls pj pr G) = some q
 gv : ∀ x ∈ G, vld x = true
 d : ∃ d, s.feed_Feeder[f]? = some ⟨some k, d, sgB (sgOf G), op⟩ ∧ Dv d h
 o1 : lsil G = true → op = none
 o2 : lsil G = false → ∃ j, op = some j ∧ Op s k g W H P G q j
theorem vld_32 {x : Int} (h : vld x = true) : r32 x := by
 unfold vld at h
 unfold r32
 simp only [Bool.and_eq_true, decide_eq_true_eq] at h
 omega
theorem do36_of {q q' : G_linotyperef34_Pen} {r : Int} {b : Bool} (h : f_linotyperef36_Do q r = some (q', b)) : do36 q r = some q' := by
 unfold do36
 rw [h]
 rfl
theorem w16_len (c : List Int) : (c.take 16).length ≤ 16 := by rw [List.length_take]; omega
theorem gf_map_snoc (t : List Int) (r : Int) : gf (t ++ [r]) ((t ++ [r]).map pr) = gz (gf t (t.map pr)) r (pr r) := by
 rw [gf_snoc (by simp) r]
 have e : ((t ++ [r]).map pr).take t.length = t.map pr := by simp
 rw [← gf_take t ((t ++ [r]).map pr) (Nat.le_refl _), e]
 simp
theorem fixv_vld {r : Int} (h : vld r = true) : fixv r = r := by unfold fixv; rw [if_pos h]
theorem put_hd {C s : Sto} {k g W H : Nat} {q0 q : G_linotyperef34_Pen} {ks : List Nat} (h : Pv C s k g W q0 ks) (hn : ks.length = H) {n : Int} {t : List Int} (ht : t.length ≤ 1000000) {c : G_api_Cursor} (hp : f_linotyperef34_Pen_Put q0 n t = some (q, c)) : Hd q.At W H := by
 obtain ⟨s', q', ks', i, a, _, _, a2, _, _, a5, _⟩ := put_eq h n t ht
 rw [hp] at a2
 cases a2
 rw [← hn]
 exact a5
theorem comes_eq {G h : List Int} {op : Option Nat} (F : Fd C s f k g W H P G h q ks op) {r : Int} (hr : vld r = true) : ∃ s' q' ks' op', f_feed_Feeder_comes s (some f) r = some s' ∧ Fd C s' f k g W H P (G ++ [r]) h q' ks' op' := by
 obtain ⟨d, hd, hdv⟩ := F.d
 have hf := get_lt hd
 have hgv : ∀ x ∈ G ++ [r], vld x = true := fun x hx => by
  rcases List.mem_append.1 hx with hx | hx
  ·exact F.gv x hx
  ·rw [List.mem_singleton.1 hx]; exact hr
 have hcs := cls_snoc pj pr G r
 unfold f_feed_Feeder_comes
 rw [silent]
 simp only [bsm]
 cases hs : sil r with
 | true =>
  simp only [if_true]
  unfold f_feed_Feeder_Close
  simp only [Option.isNone_some, Bool.not_false, if_true, bsm, hd]
  rw [set_fd hf]
  simp only [bsm, seg_reset]
  rw [set_fd (by rw [sf_len]; exact hf), sf_sf]
  simp only [bsm]
  rw [sf_get hf]
  simp only [bsm]
  obtain ⟨s', q', ks', a1, a2, a3, hks, hcd⟩ := ctrl_eq (F.v.sf (f := f) ⟨some k, d, sgB sg0, none⟩) r
  rw [a1]
  have hdo := do36_of a2
  have hf1 : Fr C (s.sf f ⟨some k, d, sgB sg0, none⟩) k g ks := F.fr.rgp (Rgp.self _) ⟨rfl, rfl, rfl⟩
  have hv1 := F.v.sf (f := f) ⟨some k, d, sgB sg0, none⟩
  refine ⟨s', q', ks', none, rfl, ⟨a3.self, hf1.trans hv1.oG hv1.oR a3.f, (F.fz.sf ⟨some k, d, sgB sg0, none⟩ none (fun j e => by cases e)).oth a3.o, by rw [hks]; exact F.n, by rw [← F.n]; exact hcd (by rw [F.n]; exact F.hd), ?_, hgv, ⟨d, ?_, hdv⟩, fun _ => rfl, fun e => ?_⟩⟩
  ·
   rw [hcs]
   split
   ·rename_i hj
    obtain ⟨l0, x, rfl, hx⟩ := silS.yes hs hj
    obtain ⟨cs0, c, ec⟩ := snoc_cases ((cls_flat (pj := pj) (pr := pr) (l0 ++ [x])).2.2 (by simp))
    obtain ⟨c', rfl⟩ := cls_last ec
    rw [ec, addL_snoc]
    have hall := silS.all (l0 ++ [x]) (c' ++ [x]) (by rw [ec]; simp)
    have hal : ∀ y ∈ c' ++ [x], sil y = true := by
     rcases hall with q | q
     ·exact q
     ·have := q x (by simp); rw [hx] at this; cases this
    have hl := F.l
    rw [ec, fo_snoc] at hl
    rw [fo_snoc]
    cases hq0 : fo layc P cs0 with
    | none => rw [hq0] at hl; cases hl
    | some q0 =>
     rw [hq0] at hl
     simp only [bsm] at hl ⊢
     obtain ⟨a, t, ea⟩ : ∃ a t, c' ++ [x] = a :: t := by
      cases h : c' ++ [x] with
      | nil => simp at h
      | cons a t => exact ⟨a, t, rfl⟩
     have ha : sil a = true := hal a (by rw [ea]; simp)
     rw [ea, layc_sil ha] at hl
     rw [ea, List.cons_append, layc_sil ha, ← List.cons_append, fo_snoc, hl]
     exact hdo
   ·rw [fo_snoc, F.l]
    simp only [bsm]
    rw [layc_sil hs]
    show (do36 q r).bind (fun b => some b) = _
    rw [hdo]
    rfl
  ·have : sgOf (G ++ [r]) = sg0 := by unfold sgOf; rw [lsil_snoc, if_pos hs]
   rw [this, oth_fd a3.o]
   exact sf_get hf
  ·rw [lsil_snoc, hs] at e
   cases e
 | false =>
  simp only [Bool.false_eq_true, if_false]
  rw [ucd_of r (vld_32 hr)]
  simp only [bsm, hd]
  rw [seg_step]
  simp only [bsm]
  rw [set_fd hf]
  simp only [bsm]
  have hsj : sgJ pj (sgOf G) (pr r) = jn pj pr G r ∧ sgN (sgOf G) (pr r) = sgF ((G ++ [r]).map pr) := by
   unfold sgOf
   rw [List.map_append, List.map_singleton, sgF_snoc]
   cases hL : lsil G with
   | false => simp only [Bool.false_eq_true, if_false]; exact ⟨rfl, trivial⟩
   | true =>
    simp only [if_true]
    by_cases hG : G = []
    ·subst hG; exact ⟨rfl, rfl⟩
    ·obtain ⟨G0, x, rfl⟩ := snoc_cases hG
     rw [lsil_snoc] at hL
     rw [silS.no G0 hL hs, silS.new G0 hL]
     exact ⟨rfl, rfl⟩
  rw [hsj.1, hsj.2]
  have hsg : sgOf (G ++ [r]) = sgF ((G ++ [r]).map pr) := by unfold sgOf; rw [lsil_snoc, hs]; rfl
  rw [← hsg]
  have hv1 := F.v.sf (f := f) ⟨some k, d, sgB (sgOf (G ++ [r])), op⟩
  have hf1 : Fr C (s.sf f ⟨some k, d, sgB (sgOf (G ++ [r])), op⟩) k g ks := F.fr.rgp (Rgp.self _) ⟨rfl, rfl, rfl⟩
  have hz1 := F.fz.sf ⟨some k, d, sgB (sgOf (G ++ [r])), op⟩ op F.fz.oc
  have hg1 : (s.sf f ⟨some k, d, sgB (sgOf (G ++ [r])), op⟩).feed_Feeder[f]? = some ⟨some k, d, sgB (sgOf (G ++ [r])), op⟩ := sf_get hf
  simp only [andE_some, bsm]
  rw [hg1]
  simp only [bsm]
  have hfix := fixv_vld hr
  cases hj : jn pj pr G r with
  | true =>
   have hL : lsil G = false := by
    cases hL : lsil G with
    | false => rfl
    | true =>
     obtain ⟨G0, x, rfl⟩ := snoc_cases (jn_ne pj pr hj)
     rw [lsil_snoc] at hL
     rw [silS.no G0 hL hs] at hj
     cases hj
   obtain ⟨j, rfl, ⟨q0, c, C0, s0, ks0, cs0, cl, ec, hcne, hcs0, hq0, hp0, hn0, hw, hput⟩⟩ := F.o2 hL
   simp only [Option.isNone_some, Bool.not_false, Bool.and_self, if_true]
   have hcs2 : cls pj pr (G ++ [r]) = cs0 ++ [cl ++ [r]] := by rw [hcs, if_pos hj, ec, addL_snoc]
   have hclv : ∀ x ∈ cl.take 16, vld x = true := fun x hx => F.gv x (by
    rw [← (cls_flat (pj := pj) (pr := pr) G).1, ec]
    exact List.mem_flatten.2 ⟨cl, by simp, List.mem_of_mem_take hx⟩)
   have hhd : sil ((cl ++ [r]).headD 0) = false := by
    cases cl with
    | nil => exact absurd rfl hcne
    | cons a t => exact hcs0
   have hw16 : w16 cl = wz (gf (cl.take 16) ((cl.take 16).map pr)) := rfl
   rw [hw16] at hw hput
   have on : On C (s.sf f ⟨some k, d, sgB (sgOf (G ++ [r])), some j⟩) k g W H j q0 (gf (cl.take 16) ((cl.take 16).map pr)) (cl.take 16) q c ks := ⟨hv1, hf1, hw.sf _, F.n, hput⟩
   have hlayc : ∀ q2 c2, f_linotyperef34_Pen_Put q0 (w16 (cl ++ [r])) ((cl ++ [r]).take 16) = some (q2, c2) → fo layc P (cls pj pr (G ++ [r])) = some q2 := fun q2 c2 e => by
    rw [hcs2, fo_snoc, hq0]
    simp only [bsm]
    cases hcc : cl ++ [r] with
    | nil => simp at hcc
    | cons a t =>
     rw [hcc] at e hhd
     rw [layc_not (by simpa using hhd), e]
     rfl
   have hlen : cl.length < 16 ∨ 16 ≤ cl.length := by omega
   have hcl1 : 1 ≤ cl.length := by
    cases cl with
    | nil => exact absurd rfl hcne
    | cons _ _ => simp
   rcases hlen with hlt | hge
   ·have et : cl.take 16 = cl := List.take_of_length_le (by omega)
    have et2 : (cl ++ [r]).take 16 = cl ++ [r] := List.take_of_length_le (by simp; omega)
    rw [et] at on hclv
    obtain ⟨s', q', c', ks', b1, b2, z, b3⟩ := join_eq hp0 hn0 on hcl1 hlt hclv r (pr r)
    rw [b1]
    simp only [bsm]
    rw [hfix, ← gf_map_snoc] at b2
    have hw2 : w16 (cl ++ [r]) = wz (gf (cl ++ [r]) ((cl ++ [r]).map pr)) := by unfold w16; rw [et2]
    refine ⟨s', q', ks', some j, rfl, ⟨b2.v, b2.f, hz1.grow b3, b2.n, put_hd hp0 hn0 (w16_len cl |> fun _ => by simp; omega) b2.p, hlayc q' c' (by rw [hw2, et2]; exact b2.p), hgv, ⟨d, ?_, hdv⟩, fun e => ?_, fun _ => ⟨j, rfl, ⟨q0, c', C0, s0, ks0, cs0, cl ++ [r], hcs2, by simp, hhd, hq0, hp0, hn0, ?_, by rw [hw2, et2]; exact b2.p⟩⟩⟩⟩
    ·rw [show s'.feed_Feeder = (s.sf f ⟨some k, d, sgB (sgOf (G ++ [r])), some j⟩).feed_Feeder from (oth_fd b3).trans rfl]
     exact hg1
    ·rw [lsil_snoc, hs] at e; cases e
    ·rw [hw2, et2]
     exact b2.w
   ·have hfl : (cl.take 16).length = 16 := by rw [List.length_take]; omega
    have et2 : (cl ++ [r]).take 16 = cl.take 16 := List.take_append_of_le_length hge
    have hw2 : w16 (cl ++ [r]) = w16 cl := by unfold w16; rw [et2]
    rw [join_full on hfl r (pr r)]
    simp only [bsm]
    refine ⟨_, q, ks, some j, rfl, ⟨hv1, hf1, hz1, F.n, F.hd, hlayc q c (by rw [hw2, et2]; exact hput), hgv, ⟨d, hg1, hdv⟩, fun e => ?_, fun _ => ⟨j, rfl, ⟨q0, c, C0, s0, ks0, cs0, cl ++ [r], hcs2, by simp, hhd, hq0, hp0, hn0, ?_, by rw [hw2, et2]; exact hput⟩⟩⟩⟩
    ·rw [lsil_snoc, hs] at e; cases e
    ·rw [hw2, et2]
     exact hw.sf _
  | false =>
   simp only [Bool.false_and, Bool.false_eq_true, if_false]
   obtain ⟨s2, q2, c2, ks2, b1, b2, z, b3⟩ := begin_eq hv1 r (pr r)
   rw [b1]
   simp only [bsm]
   have e1 : s2.feed_Feeder = (s.sf f ⟨some k, d, sgB (sgOf (G ++ [r])), op⟩).feed_Feeder := (oth_fd b3).trans rfl
   rw [e1, hg1]
   simp only [bsm]
   have hf2 : f < s2.feed_Feeder.length := by rw [e1, sf_len]; exact hf
   rw [set_fd hf2]
   rw [hfix] at b2
   have hgf : gz ⟨false, false, false⟩ r (pr r) = gf [r] ([r].map pr) := by
    have := gf_map_snoc [] r
    simp only [List.nil_append] at this
    rw [this]
    rfl
   rw [hgf] at b2
   have hcs2 : cls pj pr (G ++ [r]) = cls pj pr G ++ [[r]] := by rw [hcs, hj]; rfl
   have hlay : fo layc P (cls pj pr (G ++ [r])) = some q2 := by
    rw [hcs2, fo_snoc, F.l]
    simp only [bsm]
    rw [layc_not hs]
    show (f_linotyperef34_Pen_Put q (wz (gf [r] ([r].map pr))) [r]).map (·.1) = some q2
    rw [b2.p]
    rfl
   refine ⟨_, q2, ks2, some (s.sf f ⟨some k, d, sgB (sgOf (G ++ [r])), op⟩).widen_Cluster.length, rfl, ⟨b2.v.sf _, ?_, (hz1.more b3).sf _ _ (fun j e => ?_), b2.n.trans F.n, put_hd F.v F.n (by simp) b2.p, hlay, hgv, ⟨d, sf_get hf2, hdv⟩, fun e => ?_, fun _ => ⟨_, rfl, ⟨q, c2, _, _, ks, cls pj pr G, [r], hcs2, by simp, hs, F.l, F.v, F.n, b2.w.sf _, b2.p⟩⟩⟩⟩
   ·exact (hf1.trans hv1.oG hv1.oR b2.f).rgp (Rgp.self _) ⟨rfl, rfl, rfl⟩
   ·cases e
    exact .inr hz1.wl
   ·rw [lsil_snoc, hs] at e; cases e
end Go.Proofs.YthokmpbbkpjhbaaGreatDoor
namespace Go.Proofs.YthokmpbbkpjhbaaGreatDoor
open Go Go.Lt
variable {s C : Sto} {f k g W H : Nat} {q P : G_linotyperef34_Pen} {ks : List Nat} {op : Option Nat}
theorem vl_vld {p : List Int} (hp : Bts p) (hb : bg p = (p.length : Int)) (hne : p ≠ []) : vld (vl p) = true := by
 have h4 := bg_le p
 unfold vld
 simp only [Bool.and_eq_true, decide_eq_true_eq]
 match p, hne with
 | [a], _ =>
  obtain ⟨a1, a2⟩ := hp a (by simp)
  have hl := ld_cases a
  simp only [bg, List.length_cons, List.length_nil] at hb
  simp only [vl, List.foldl, b0]
  repeat' split
  all_goals simp only [Bool.or_eq_true, decide_eq_true_eq]
  all_goals omega
 | [a, b], _ =>
  obtain ⟨a1, a2⟩ := hp a (by simp)
  have hl := ld_cases a
  simp only [bg, List.length_cons, List.length_nil] at hb
  split at hb
  ·rename_i g
   have hs : 128 ≤ b ∧ b ≤ 191 := by
    have := g.2
    unfold slo shi at this
    repeat' split at this
    all_goals omega
   simp only [vl, List.foldl, b0]
   repeat' split
   all_goals simp only [Bool.or_eq_true, decide_eq_true_eq]
   all_goals omega
  ·omega
 | [a, b, c], _ =>
  obtain ⟨a1, a2⟩ := hp a (by simp)
  have hl := ld_cases a
  simp only [bg, List.length_cons, List.length_nil] at hb
  split at hb
  ·rename_i g
   have hs : 128 ≤ b ∧ b ≤ 191 ∧ (a = 237 → b ≤ 159) := by
    have := g.2
    unfold slo shi at this
    repeat' split at this
    all_goals omega
   simp only [vl, List.foldl, b0]
   repeat' split
   all_goals simp only [Bool.or_eq_true, decide_eq_true_eq]
   all_goals omega
  ·omega
 | [a, b, c, d], _ =>
  obtain ⟨a1, a2⟩ := hp a (by simp)
  have hl := ld_cases a
  simp only [bg, List.length_cons, List.length_nil] at hb
  split at hb
  ·rename_i g
   have hs : 128 ≤ b ∧ b ≤ 191 ∧ (a = 240 → 144 ≤ b) ∧ (a = 244 → b ≤ 143) := by
    have := g.2
    unfold slo shi at this
    repeat' split at this
    all_goals omega
   simp only [vl, List.foldl, b0]
   repeat' split
   all_goals simp only [Bool.or_eq_true, decide_eq_true_eq]
   all_goals omega
  ·omega
 | _ :: _ :: _ :: _ :: _ :: _, _ => simp only [bg, List.length_cons] at hb; omega
theorem rs0_vld {b : Int} (h : Byt b) : ∀ x ∈ (rs0 b).1, vld x = true := fun x hx => by
 obtain ⟨h1, h2⟩ := h
 have hl := ld_cases b
 unfold rs0 at hx
 split at hx
 ·simp at hx
 ·split at hx
  ·rw [List.mem_singleton.1 hx]
   unfold vld
   simp only [Bool.and_eq_true, Bool.or_eq_true, decide_eq_true_eq]
   omega
  ·rw [List.mem_singleton.1 hx]; rfl
theorem rstep_vld {h : List Int} (hb : Bts h) {b : Int} (h1 : Byt b) : ∀ x ∈ (rstep h b).1, vld x = true := fun x hx => by
 unfold rstep at hx
 split at hx
 ·exact rs0_vld h1 x hx
 ·split at hx
  ·simp at hx
  ·split at hx
   ·rename_i g1 g2
    rw [List.mem_singleton.1 hx]
    refine vl_vld (hb.snoc h1) ?_ (by simp)
    have := bg_ge g2
    simp only [List.length_append, List.length_cons, List.length_nil] at this ⊢
    omega
   ·rcases List.mem_cons.1 hx with hx | hx
    ·rw [hx]; rfl
    ·exact rs0_vld h1 x hx
theorem ex4 {α β γ δ : Type} {X : Option α} {Q : α → β → γ → δ → Prop} (h : ∃ a, X = some a ∧ ∃ b c d, Q a b c d) : ∃ a b c d, X = some a ∧ Q a b c d := by
 obtain ⟨a, h1, b, c, d, h2⟩ := h
 exact ⟨a, b, c, d, h1, h2⟩
theorem fall_eq {G h : List Int} (F : Fd C s f k g W H P G h q ks op) {l : List Int} (hl : l.length ≤ 1000000) (hv : ∀ x ∈ l, vld x = true) : ∃ s' q' ks' op', f_feed_Feeder_all s (some f) l = some s' ∧ Fd C s' f k g W H P (G ++ l) h q' ks' op' := by
 unfold f_feed_Feeder_all
 refine ex4 (iter_forE (n := l.length) (fun i (st : Int × Sto) => st.1 = (i : Int) ∧ ∃ q' ks' op', Fd C st.2 f k g W H P (G ++ l.take i) h q' ks' op') (fun u : Sto => ∃ q' ks' op', Fd C u f k g W H P (G ++ l) h q' ks' op') (p := fun s' : Sto => ∃ q' ks' op', Fd C s' f k g W H P (G ++ l) h q' ks' op') (fun i st hi hI => ?_) (fun st hI => ?_) ⟨rfl, q, ks, op, by simpa using F⟩ (by omega) (fun u hu => ⟨u, rfl, hu⟩))
 ·obtain ⟨i', st⟩ := st
  obtain ⟨e, q1, ks1, op1, F1⟩ := hI
  simp only at e F1
  subst e
  simp only
  rw [if_pos (dlt hi), idx_at hi, w64_succ hi (by omega)]
  simp only [bsm]
  obtain ⟨s2, q2, ks2, op2, b1, b2⟩ := comes_eq F1 (hv _ (List.getElem_mem hi))
  rw [b1]
  refine .inl ⟨_, rfl, rfl, q2, ks2, op2, ?_⟩
  rw [List.take_succ_eq_append_getElem hi, ← List.append_assoc]
  exact b2
 ·obtain ⟨i', st⟩ := st
  obtain ⟨e, q1, ks1, op1, F1⟩ := hI
  simp only at e F1
  subst e
  refine ⟨st, by simp only; rw [if_neg (by simp)], q1, ks1, op1, ?_⟩
  rw [List.take_of_length_le (Nat.le_refl _)] at F1
  exact F1
theorem Fd.dec {G h h' : List Int} (F : Fd C s f k g W H P G h q ks op) {d d' : G_utfdec_Dec} (hd : s.feed_Feeder[f]? = some ⟨some k, d, sgB (sgOf G), op⟩) (hv : Dv d' h') : Fd C (s.sf f ⟨some k, d', sgB (sgOf G), op⟩) f k g W H P G h' q ks op := by
 have hf := get_lt hd
 refine ⟨F.v.sf _, F.fr.rgp (Rgp.self _) ⟨rfl, rfl, rfl⟩, F.fz.sf _ _ F.fz.oc, F.n, F.hd, F.l, F.gv, ⟨d', sf_get hf, hv⟩, F.o1, fun e => ?_⟩
 obtain ⟨j, e1, ⟨q0, c, C0, s0, ks0, cs0, cl, a1, a2, a3, a4, a5, a6, a7, a8⟩⟩ := F.o2 e
 exact ⟨j, e1, ⟨q0, c, C0, s0, ks0, cs0, cl, a1, a2, a3, a4, a5, a6, a7.sf _, a8⟩⟩
theorem fbytes_eq {G h : List Int} (F : Fd C s f k g W H P G h q ks op) (hb : Bts h) {b : List Int} (hl : b.length ≤ 9223372036854775807) (hbt : Bts b) : ∃ s' q' ks' op', f_feed_Feeder_Bytes s (some f) b = some s' ∧ Fd C s' f k g W H P (G ++ (rfeed h b).1) (rfeed h b).2 q' ks' op' := by
 unfold f_feed_Feeder_Bytes
 simp only [Option.isNone_some, Bool.false_eq_true, if_false, bsm]
 refine ex4 (iter_forE (n := b.length) (fun i (st : Int × Sto) => st.1 = (i : Int) ∧ ∃ q' ks' op', Fd C st.2 f k g W H P (G ++ (rfeed h (b.take i)).1) (rfeed h (b.take i)).2 q' ks' op') (fun u : Sto => ∃ q' ks' op', Fd C u f k g W H P (G ++ (rfeed h b).1) (rfeed h b).2 q' ks' op') (p := fun s' : Sto => ∃ q' ks' op', Fd C s' f k g W H P (G ++ (rfeed h b).1) (rfeed h b).2 q' ks' op') (fun i st hi hI => ?_) (fun st hI => ?_) ⟨rfl, q, ks, op, by simpa [rfeed] using F⟩ (by omega) (fun u hu => ⟨u, rfl, hu⟩))
 ·obtain ⟨i', st⟩ := st
  obtain ⟨e, q1, ks1, op1, F1⟩ := hI
  simp only at e F1
  subst e
  simp only
  rw [if_pos (dlt hi), idx_at hi, w64_succ hi (by omega)]
  obtain ⟨d, hd, hdv⟩ := F1.d
  simp only [bsm, hd]
  have hx := hbt _ (List.getElem_mem hi)
  obtain ⟨d', c1, c2⟩ := dec_step hdv hx
  rw [c1]
  simp only [bsm]
  rw [set_fd (get_lt hd)]
  simp only [bsm]
  have hbt' : Bts (b.take i) := fun x hx => hbt x (List.mem_of_mem_take hx)
  obtain ⟨s2, q2, ks2, op2, b1, b2⟩ := fall_eq (F1.dec hd c2) (l := (rstep (rfeed h (b.take i)).2 b[i]).1) (by have := rstep_len (rfeed h (b.take i)).2 b[i]; omega) (rstep_vld (rfeed_bts hb hbt') hx)
  rw [b1]
  refine .inl ⟨_, rfl, rfl, q2, ks2, op2, ?_⟩
  rw [List.take_succ_eq_append_getElem hi, rfeed_snoc]
  simp only
  rw [← List.append_assoc]
  exact b2
 ·obtain ⟨i', st⟩ := st
  obtain ⟨e, q1, ks1, op1, F1⟩ := hI
  simp only at e F1
  subst e
  refine ⟨st, by simp only; rw [if_neg (by simp)], q1, ks1, op1, ?_⟩
  rw [List.take_of_length_le (Nat.le_refl _)] at F1
  exact F1
theorem frune_eq {G h : List Int} (F : Fd C s f k g W H P G h q ks op) (r : Int) : ∃ s' q' ks' op', f_feed_Feeder_Rune s (some f) r = some s' ∧ Fd C s' f k g W H P (G ++ [fixv r]) h q' ks' op' := by
 obtain ⟨s', q', ks', op', b1, b2⟩ := comes_eq F (vld_fixv r)
 refine ⟨s', q', ks', op', ?_, b2⟩
 unfold f_feed_Feeder_Rune
 simp only [Option.isNone_some, Bool.false_eq_true, if_false]
 rw [sca_fix]
 simp only [bsm, b1]
theorem fclose_eq {G h : List Int} (F : Fd C s f k g W H P G h q ks op) : ∃ s', f_feed_Feeder_Close s (some f) = some s' ∧ Fd C s' f k g W H q [] h q ks none := by
 obtain ⟨d, hd, hdv⟩ := F.d
 have hf := get_lt hd
 unfold f_feed_Feeder_Close
 simp only [Option.isNone_some, Bool.not_false, if_true, bsm, hd]
 rw [set_fd hf]
 simp only [bsm, seg_reset]
 rw [set_fd (by rw [sf_len]; exact hf), sf_sf]
 refine ⟨_, rfl, ⟨F.v.sf _, F.fr.rgp (Rgp.self _) ⟨rfl, rfl, rfl⟩, F.fz.sf _ none (fun j e => by cases e), F.n, F.hd, rfl, fun x hx => by simp at hx, ⟨d, sf_get hf, hdv⟩, fun _ => rfl, fun e => by cases e⟩⟩
theorem fflush_eq {G h : List Int} (F : Fd C s f k g W H P G h q ks op) : ∃ s' q' ks', f_feed_Feeder_Flush s (some f) = some s' ∧ Fd C s' f k g W H q' [] [] q' ks' none ∧ fo layc P (cls pj pr (G ++ (if h = [] then [] else [65533]))) = some q' := by
 obtain ⟨d, hd, hdv⟩ := F.d
 have hf := get_lt hd
 unfold f_feed_Feeder_Flush
 simp only [Option.isNone_some, Bool.false_eq_true, if_false, bsm, hd]
 rw [dec_flush hdv]
 simp only [bsm]
 rw [set_fd hf]
 simp only [bsm]
 obtain ⟨s2, q2, ks2, op2, b1, b2⟩ := fall_eq (F.dec hd Dv.zero) (l := if h = [] then [] else [65533]) (by split <;> simp) (fun x hx => by
  split at hx
  ·simp at hx
  ·rw [List.mem_singleton.1 hx]; rfl)
 rw [b1]
 simp only [bsm]
 obtain ⟨s3, c1, c2⟩ := fclose_eq b2
 rw [c1]
 exact ⟨s3, q2, ks2, rfl, c2, b2.l⟩
theorem fheld_eq {G h : List Int} (F : Fd C s f k g W H P G h q ks op) : f_feed_Feeder_Held s (some f) = some (h.length : Int) := by
 obtain ⟨d, hd, hdv⟩ := F.d
 unfold f_feed_Feeder_Held
 simp only [Option.isNone_some, Bool.false_eq_true, if_false, bsm, hd]
 rw [dec_held hdv]
 rfl
def opn (G : List Int) : List Int := if lsil G = true then [] else (((cls pj pr G).getLast?).getD []).take 16
theorem fopen_eq {G h : List Int} (F : Fd C s f k g W H P G h q ks op) : f_feed_Feeder_Open s (some f) = some (opn G) := by
 obtain ⟨d, hd, hdv⟩ := F.d
 unfold f_feed_Feeder_Open opn
 simp only [Option.isNone_some, Bool.false_eq_true, if_false, bsm, hd]
 cases hL : lsil G with
 | true =>
  rw [F.o1 hL]
  rfl
 | false =>
  obtain ⟨j, rfl, ⟨q0, c, C0, s0, ks0, cs0, cl, a1, a2, a3, a4, a5, a6, a7, a8⟩⟩ := F.o2 hL
  obtain ⟨b, hb, hv⟩ := a7.x
  simp only [f_widen_Cluster_Text, Option.isNone_some, Bool.false_eq_true, if_false, bsm, hb, cl_text hv, a1]
  simp
structure Fs (C s : Sto) (f k g W H : Nat) (F : G_linotyperef37_Feed) (q : G_linotyperef34_Pen) (ks : List Nat) (op : Option Nat) : Prop where
 d : Fd C s f k g W H F.P F.Group (rfeed [] F.Raw).2 q ks op
 pt : F.Parts = ((rfeed [] F.Raw).1.length : Int)
 bt : Bts F.Raw
theorem gv_32 {G : List Int} (h : ∀ x ∈ G, vld x = true) : R32 G := fun x hx => vld_32 (h x hx)
theorem rheld_eq {F : G_linotyperef37_Feed} (hb : Bts F.Raw) (hl : F.Raw.length ≤ 1000000) : f_linotyperef37_Feed_Held F = some ((rfeed [] F.Raw).2.length : Int) := by
 unfold f_linotyperef37_Feed_Held
 rw [feed_eq Hh.nil Bts.nil hb hl]
 rfl
theorem rpen_eq {F : G_linotyperef37_Feed} (hg : ∀ x ∈ F.Group, vld x = true) (hl : F.Group.length ≤ 1000000) (h : fo layc F.P (cls pj pr F.Group) = some q) : f_linotyperef37_Feed_Pen F = some q := by
 unfold f_linotyperef37_Feed_Pen
 rw [lay_eq (gv_32 hg) hl h]
 rfl
theorem rclose_eq {F : G_linotyperef37_Feed} (hg : ∀ x ∈ F.Group, vld x = true) (hl : F.Group.length ≤ 1000000) (h : fo layc F.P (cls pj pr F.Group) = some q) : f_linotyperef37_Feed_Close F = some ⟨q, [], F.Raw, F.Parts⟩ := by
 unfold f_linotyperef37_Feed_Close
 rw [rpen_eq hg hl h]
 rfl
theorem rrune_eq {F : G_linotyperef37_Feed} (hl : F.Group.length ≤ 1000000) (r : Int) : f_linotyperef37_Feed_Rune F r = some ⟨F.P, F.Group ++ [fixv r], F.Raw, F.Parts⟩ := by
 have hfix : ((f_linotyperef01_Valid r).bind fun x_6 => if (!x_6) = true then (some (65533) : Option (Int)) else (some (r) : Option (Int))) = some (fixv r) := by
  rw [ref_valid]
  unfold fixv
  cases vld r <;> rfl
 unfold f_linotyperef37_Feed_Rune
 rw [hfix]
 simp only [bsm]
 rw [app_eq (by simp; omega), List.nil_append]
 simp only [bsm]
 rw [app_eq (by simp; omega)]
 rfl
theorem rbytes_eq {F : G_linotyperef37_Feed} (hp : F.Parts = ((rfeed [] F.Raw).1.length : Int)) (hb : Bts F.Raw) {b : List Int} (hbt : Bts b) (hl : F.Raw.length + b.length ≤ 1000000) (hg : F.Group.length ≤ 1000000) :
  f_linotyperef37_Feed_Bytes F b = some ⟨F.P, F.Group ++ (rfeed (rfeed [] F.Raw).2 b).1, F.Raw ++ b, ((rfeed [] (F.Raw ++ b)).1.length : Int)⟩ := by
 have hbb : Bts (F.Raw ++ b) := fun x hx => by
  rcases List.mem_append.1 hx with hx | hx
  ·exact hb x hx
  ·exact hbt x hx
 have hll : (F.Raw ++ b).length ≤ 1000000 := by simp; omega
 obtain ⟨l, h1, h2, h3⟩ := all_eq hbb hll
 have hap := rfeed_app [] F.Raw b
 unfold f_linotyperef37_Feed_Bytes
 rw [app_eq (by simp; omega), List.nil_append]
 simp only [bsm]
 rw [app_eq (by omega)]
 simp only [bsm]
 rw [h1]
 simp only [bsm]
 rw [rheld_eq hbb hll]
 simp only [bsm]
 have hz : ∃ z : List G_linotyperef04_Got, (if decide (((rfeed [] (F.Raw ++ b)).2.length : Int) > 0) = true then (slc l 0 (w64 ((l.length : Int) - 1))).bind fun x_27 => (some (x_27) : Option ((List G_linotyperef04_Got))) else (some (l) : Option ((List G_linotyperef04_Got)))) = some z ∧ z.map (·.R) = (rfeed [] (F.Raw ++ b)).1 ∧ z.length ≤ l.length := by
  unfold told at h2
  have hlen := congrArg List.length h2
  simp only [List.length_map, List.length_append] at hlen
  by_cases hh : (rfeed [] (F.Raw ++ b)).2 = []
  ·rw [if_neg (by rw [hh]; simp)]
   rw [if_pos hh, List.append_nil] at h2
   exact ⟨l, rfl, h2, Nat.le_refl _⟩
  ·rw [if_neg hh] at h2 hlen
   have hpos : 0 < (rfeed [] (F.Raw ++ b)).2.length := by
    cases hc : (rfeed [] (F.Raw ++ b)).2 with
    | nil => exact absurd hc hh
    | cons _ _ => simp
   rw [if_pos (by simpa using hpos)]
   simp only [List.length_cons, List.length_nil] at hlen
   have hs := slc_eq (xs := l) (i := 0) (j := l.length - 1) (Nat.zero_le _) (by omega)
   rw [show ((0 : Nat) : Int) = 0 from rfl, List.drop_zero, Nat.sub_zero] at hs
   rw [w64_in (by omega), show (l.length : Int) - 1 = ((l.length - 1 : Nat) : Int) by omega, hs]
   refine ⟨_, rfl, ?_, by rw [List.length_take]; omega⟩
   rw [List.map_take, h2, List.take_append_of_le_length (by omega), List.take_of_length_le (by omega)]
 obtain ⟨z, hz1, hz2, hz3⟩ := hz
 rw [hz1]
 simp only [bsm]
 have hzl := congrArg List.length hz2
 rw [List.length_map] at hzl
 have hem : (rfeed [] (F.Raw ++ b)).1 = (rfeed [] F.Raw).1 ++ (rfeed (rfeed [] F.Raw).2 b).1 := by rw [hap]
 have heml := congrArg List.length hem
 rw [List.length_append] at heml
 rw [hp]
 refine iter_forB (n := z.length - (rfeed [] F.Raw).1.length) (fun i st => st = ((((rfeed [] F.Raw).1.length + i : Nat) : Int), F.Group ++ (rfeed (rfeed [] F.Raw).2 b).1.take i)) (fun u => u = F.Group ++ (rfeed (rfeed [] F.Raw).2 b).1) (fun i st hi e => ?_) (fun st e => ?_) (by simp) (by omega) (fun u hu => ?_)
 ·subst e
  simp only
  have hlt : (rfeed [] F.Raw).1.length + i < z.length := by omega
  rw [if_pos (by simp; omega), idx_at hlt]
  simp only [bsm]
  have hgr : (F.Group ++ (rfeed (rfeed [] F.Raw).2 b).1.take i).length ≤ 3000000 := by simp; omega
  rw [app_eq (by simp only [List.length_nil]; omega), List.nil_append]
  simp only [bsm]
  rw [app_eq (by simp only [List.length_cons, List.length_nil]; omega), w64_in (by omega)]
  refine .inl ⟨_, rfl, ?_⟩
  have hR : z[(rfeed [] F.Raw).1.length + i].R = (rfeed (rfeed [] F.Raw).2 b).1[i]'(by omega) := by
   have e1 : (z.map (·.R))[(rfeed [] F.Raw).1.length + i]? = ((rfeed [] F.Raw).1 ++ (rfeed (rfeed [] F.Raw).2 b).1)[(rfeed [] F.Raw).1.length + i]? := by rw [hz2, hem]
   rw [List.getElem?_map, List.getElem?_eq_getElem hlt, List.getElem?_append_right (by omega), Nat.add_sub_cancel_left, List.getElem?_eq_getElem (show i < (rfeed (rfeed [] F.Raw).2 b).1.length by omega)] at e1
   exact Option.some.inj e1
  rw [hR, List.take_succ_eq_append_getElem (show i < (rfeed (rfeed [] F.Raw).2 b).1.length by omega), List.append_assoc]
  congr 1
 ·subst e
  refine ⟨_, by simp only; rw [if_neg (by simp; omega)], ?_⟩
  rw [List.take_of_length_le (by omega)]
 ·subst hu
  rw [hzl]
theorem ropen_eq {F : G_linotyperef37_Feed} (hg : ∀ x ∈ F.Group, vld x = true) (hl : F.Group.length ≤ 1000000) : f_linotyperef37_Feed_Open F = some (opn F.Group) := by
 obtain ⟨hf, hne, hn2⟩ := cls_flat (pj := pj) (pr := pr) F.Group
 unfold f_linotyperef37_Feed_Open opn
 rw [clusters_eq _ (gv_32 hg) hl]
 simp only [bsm]
 by_cases hG : F.Group = []
 ·rw [hG]
  rfl
 ·obtain ⟨G0, x, eG⟩ := snoc_cases hG
  rw [eG] at hn2 ⊢
  obtain ⟨cs0, c, ec⟩ := snoc_cases (hn2 (by simp))
  obtain ⟨c', rfl⟩ := cls_last ec
  rw [lsil_snoc, ec]
  have hcl : (cs0 ++ [c' ++ [x]]).length = cs0.length + 1 := by simp
  have hlc : cs0.length + (c' ++ [x]).length ≤ F.Group.length := by
   have key : ∀ cs : List (List Int), (∀ c ∈ cs, c ≠ []) → cs.length ≤ cs.flatten.length := by
    intro cs
    induction cs with
    | nil => intro _; simp
    | cons c cs ih =>
     intro h
     have h1 := ih fun d hd => h d (List.mem_cons_of_mem _ hd)
     have h2 : 1 ≤ c.length := by
      cases c with
      | nil => exact absurd rfl (h [] (by simp))
      | cons _ _ => simp
     simp only [List.flatten_cons, List.length_cons, List.length_append]
     omega
   rw [eG, ec] at hf hne
   have := key cs0 fun d hd => hne d (List.mem_append_left _ hd)
   have h2 := congrArg List.length hf
   rw [List.flatten_append] at h2
   simp only [List.flatten_cons, List.flatten_nil, List.append_nil, List.length_append] at h2
   rw [eG]
   simp only [List.length_append]
   omega
  have hidx : idx (cs0 ++ [c' ++ [x]]) (w64 (((cs0 ++ [c' ++ [x]]).length : Int) - 1)) = some (c' ++ [x]) := by
   rw [w64_in (by omega), hcl, show ((cs0.length + 1 : Nat) : Int) - 1 = (cs0.length : Int) by omega, idx_nat, List.getElem?_append_right (Nat.le_refl _), Nat.sub_self]
   rfl
  rw [hidx, hcl]
  obtain ⟨a, t, ea⟩ : ∃ a t, c' ++ [x] = a :: t := by
   cases h : c' ++ [x] with
   | nil => simp at h
   | cons a t => exact ⟨a, t, rfl⟩
  have hsil : sil a = sil x := by
   rcases silS.all (G0 ++ [x]) (c' ++ [x]) (by rw [ec]; simp) with q | q
   ·rw [q x (by simp), q a (by rw [ea]; simp)]
   ·rw [q x (by simp), q a (by rw [ea]; simp)]
  rw [show (((cs0.length + 1 : Nat) : Int) == 0) = false by rw [beq_eq_false_iff_ne]; omega, orE_false]
  simp only [bsm]
  have h0 : idx (c' ++ [x]) 0 = some a := by rw [ea]; rfl
  rw [h0]
  simp only [bsm, ref_silent, hsil]
  cases sil x with
  | true => rfl
  | false =>
   simp only [Bool.false_eq_true, if_false]
   rw [first_eq _ (by omega)]
   simp
end Go.Proofs.YthokmpbbkpjhbaaGreatDoor
namespace Go.Proofs.YthokmpbbkpjhbaaGreatDoor
open Go Go.Lt
variable {s C : Sto} {f k g W H : Nat} {q P : G_linotyperef34_Pen} {ks : List Nat} {op : Option Nat}
theorem Fz.self (s : Sto) (f : Nat) (op : Option Nat) (h : ∀ x, s.feed_Feeder[f]? = some x → x.open_ = op) (hf : f < s.feed_Feeder.length) : Fz s s f op :=
 ⟨Nat.le_refl _, fun _ _ _ => rfl, Nat.le_refl _, fun _ _ _ => rfl, fun j e => .inl ⟨s.feed_Feeder[f], List.getElem?_eq_getElem hf, by rw [h _ (List.getElem?_eq_getElem hf)]; exact e⟩, rfl⟩
theorem Pv.addf (h : Pv s s k g W q ks) (x : G_feed_Feeder) : Pv (s.add_feed_Feeder x) (s.add_feed_Feeder x) k g W q ks :=
 ⟨h.p, ⟨h.g.g, h.g.r, h.g.h1, h.g.h2, h.g.w1, h.g.w2⟩, h.nd, h.l, rfl, h.f.rgp ⟨rfl, rfl, rfl⟩ ⟨rfl, rfl, rfl⟩⟩
theorem feed_new (h : Pv s s k g W q ks) (hh : Hd q.At W ks.length) : ∃ s', f_feed_New s (some k) = some (s', some s.feed_Feeder.length) ∧ Fd s' s' s.feed_Feeder.length k g W ks.length q [] [] q ks none ∧ s' = s.add_feed_Feeder ⟨some k, ⟨0, 0, 0, 0, 0⟩, ⟨false, 0, 0, 0, false⟩, none⟩ := by
 unfold f_feed_New
 simp only [Option.isNone_some, orE_false, bsm, h.p, Bool.false_eq_true, if_false]
 have hg : (s.add_feed_Feeder ⟨some k, ⟨0, 0, 0, 0, 0⟩, ⟨false, 0, 0, 0, false⟩, none⟩).feed_Feeder[s.feed_Feeder.length]? = some ⟨some k, ⟨0, 0, 0, 0, 0⟩, ⟨false, 0, 0, 0, false⟩, none⟩ := by simp [Sto.add_feed_Feeder]
 refine ⟨_, rfl, ⟨h.addf _, (h.addf _).f, Fz.self _ _ _ (fun x hx => ?_) (get_lt hg), rfl, hh, rfl, fun x hx => by simp at hx, ⟨_, hg, Dv.zero⟩, fun _ => rfl, fun e => by cases e⟩, rfl⟩
 rw [hg] at hx
 cases hx
 rfl
theorem Fs.new {s' : Sto} (h : Fd s' s' f k g W H q [] [] q ks none) : Fs s' s' f k g W H ⟨q, [], [], 0⟩ q ks none := ⟨h, rfl, fun x hx => by simp at hx⟩
theorem ref34_new {W H : Nat} (w2 : W ≤ 1024) (h2 : H ≤ 1024) : f_linotyperef34_New W H = some ⟨bls W H, ⟨0, 0, false⟩, true⟩ := by
 unfold f_linotyperef34_New
 rw [ref32_new w2 h2]
 rfl
variable {F : G_linotyperef37_Feed}
theorem fs_bytes (h : Fs C s f k g W H F q ks op) {b : List Int} (hb : Bts b) (hl : F.Raw.length + b.length ≤ 1000000) (hg : F.Group.length ≤ 1000000) : ∃ s' F' q' ks' op', f_feed_Feeder_Bytes s (some f) b = some s' ∧ f_linotyperef37_Feed_Bytes F b = some F' ∧ Fs C s' f k g W H F' q' ks' op' ∧
  F'.Raw.length ≤ F.Raw.length + b.length ∧ F'.Group.length ≤ F.Group.length + 2 * b.length := by
 obtain ⟨s', q', ks', op', b1, b2⟩ := fbytes_eq h.d (rfeed_bts Bts.nil h.bt) (by omega) hb
 have hap := rfeed_app [] F.Raw b
 refine ⟨s', _, q', ks', op', b1, rbytes_eq h.pt h.bt hb hl hg, ⟨?_, rfl, fun x hx => ?_⟩, by simp, ?_⟩
 ·rw [hap]; exact b2
 ·rcases List.mem_append.1 hx with hx | hx
  ·exact h.bt x hx
  ·exact hb x hx
 ·have := rfeed_len (rfeed [] F.Raw).2 b
  simp only [List.length_append]
  omega
theorem fs_rune (h : Fs C s f k g W H F q ks op) (r : Int) (hg : F.Group.length ≤ 1000000) : ∃ s' F' q' ks' op', f_feed_Feeder_Rune s (some f) r = some s' ∧ f_linotyperef37_Feed_Rune F r = some F' ∧ Fs C s' f k g W H F' q' ks' op' ∧
  F'.Raw.length ≤ F.Raw.length ∧ F'.Group.length ≤ F.Group.length + 1 := by
 obtain ⟨s', q', ks', op', b1, b2⟩ := frune_eq h.d r
 exact ⟨s', _, q', ks', op', b1, rrune_eq hg r, ⟨b2, h.pt, h.bt⟩, Nat.le_refl _, by simp⟩
theorem fs_close (h : Fs C s f k g W H F q ks op) (hg : F.Group.length ≤ 1000000) : ∃ s', f_feed_Feeder_Close s (some f) = some s' ∧ f_linotyperef37_Feed_Close F = some ⟨q, [], F.Raw, F.Parts⟩ ∧ Fs C s' f k g W H ⟨q, [], F.Raw, F.Parts⟩ q ks none := by
 obtain ⟨s', b1, b2⟩ := fclose_eq h.d
 exact ⟨s', b1, rclose_eq h.d.gv hg h.d.l, ⟨b2, h.pt, h.bt⟩⟩
theorem fs_flush (h : Fs C s f k g W H F q ks op) (hl : F.Raw.length ≤ 1000000) (hg : F.Group.length < 1000000) : ∃ s' q' ks', f_feed_Feeder_Flush s (some f) = some s' ∧ f_linotyperef37_Feed_Flush F = some ⟨q', [], [], 0⟩ ∧ Fs C s' f k g W H ⟨q', [], [], 0⟩ q' ks' none := by
 obtain ⟨s', q', ks', b1, b2, b3⟩ := fflush_eq h.d
 refine ⟨s', q', ks', b1, ?_, ⟨b2, rfl, fun x hx => by simp at hx⟩⟩
 unfold f_linotyperef37_Feed_Flush
 rw [rheld_eq h.bt hl]
 simp only [bsm]
 have hgv : ∀ x ∈ F.Group ++ (if (rfeed [] F.Raw).2 = [] then [] else [65533]), vld x = true := fun x hx => by
  rcases List.mem_append.1 hx with hx | hx
  ·exact h.d.gv x hx
  ·split at hx
   ·simp at hx
   ·rw [List.mem_singleton.1 hx]; rfl
 by_cases hh : (rfeed [] F.Raw).2 = []
 ·rw [if_neg (by rw [hh]; simp)]
  rw [if_pos hh, List.append_nil] at b3
  simp only [bsm]
  have := rclose_eq (F := ⟨⟨F.P.L, ⟨F.P.At.Row, F.P.At.Col, F.P.At.Pending⟩, F.P.Auto⟩, F.Group, [], 0⟩) h.d.gv (by simp only; omega) b3
  rw [this]
  rfl
 ·have hpos : 0 < (rfeed [] F.Raw).2.length := by
   cases hc : (rfeed [] F.Raw).2 with
   | nil => exact absurd hc hh
   | cons _ _ => simp
  rw [if_pos (by simpa using hpos), rrune_eq (by omega)]
  rw [if_neg hh] at b3 hgv
  simp only [bsm]
  have := rclose_eq (F := ⟨⟨F.P.L, ⟨F.P.At.Row, F.P.At.Col, F.P.At.Pending⟩, F.P.Auto⟩, F.Group ++ [fixv 65533], [], 0⟩) hgv (by simp; omega) b3
  rw [this]
  rfl
theorem fs_seen (h : Fs C s f k g W H F q ks op) (hl : F.Raw.length ≤ 1000000) (hg : F.Group.length ≤ 1000000) : f_linotyperef37_Feed_Pen F = some q ∧ f_linotypelaw34_Alike s (some k) q = some true ∧ (∃ n, f_feed_Feeder_Held s (some f) = some n ∧ f_linotyperef37_Feed_Held F = some n) ∧ (∃ o, f_feed_Feeder_Open s (some f) = some o ∧ f_linotyperef37_Feed_Open F = some o ∧ f_linotyperef01_Same o o = some true ∧ o.length ≤ 16) := by
 refine ⟨rpen_eq h.d.gv hg h.d.l, alike_true h.d.v, ⟨_, fheld_eq h.d, rheld_eq h.bt hl⟩, ⟨_, fopen_eq h.d, ropen_eq h.d.gv hg, ?_, ?_⟩⟩
 ·have hle : (opn F.Group).length ≤ 16 := by
   unfold opn
   split
   ·simp
   ·exact w16_len _
  obtain ⟨b, b1, b2⟩ := same_text (opn F.Group) (by omega) (opn F.Group)
  rw [b1, b2.2 rfl]
 ·unfold opn
  split
  ·simp
  ·exact w16_len _
end Go.Proofs.YthokmpbbkpjhbaaGreatDoor
namespace Go.Proofs.YthokmpbbkpjhbaaGreatDoor
open Go Go.Lt
theorem of_snd {γ : Type} {x : Option (γ × Bool)} (h : x.map (fun q => q.2) = some true) : ∃ s, x = some (s, true) := by
 cases x with
 | none => cases h
 | some q =>
  obtain ⟨a, b⟩ := q
  simp only [Option.map_some, Option.some.injEq] at h
  subst h
  exact ⟨a, rfl⟩
theorem of_two {f : Sto → Option (Sto × Bool)} {s : Sto} (h1 : (f s).map (fun q => q.2) = some true) (h2 : ((f s).bind fun q => f q.1).map (fun q => q.2) = some true) : ∃ s1 s2, f s = some (s1, true) ∧ f s1 = some (s2, true) := by
 obtain ⟨s1, e1⟩ := of_snd h1
 rw [e1] at h2
 obtain ⟨s2, e2⟩ := of_snd h2
 exact ⟨s1, s2, e1, e2⟩
theorem wf8 {n : Int} (h : (Lit.int .u8 n).wf = true) : 0 ≤ n ∧ n ≤ 255 := by
 simp only [Lit.wf, IntKind.min, IntKind.max, IntKind.signed, IntKind.bits, Bool.and_eq_true, decide_eq_true_eq, Bool.false_eq_true, if_false] at h
 omega
end Go.Proofs.YthokmpbbkpjhbaaGreatDoor
namespace Go.Proofs.YthokmpbbkpjhbaaGreatDoor
open Go Go.Lt
variable {s C : Sto} {f k g W H : Nat} {q P : G_linotyperef34_Pen} {ks : List Nat} {op : Option Nat}
set_option maxRecDepth 100000 in
theorem feedNone_0 (b : List Int) (r : Int) : (f_linotypelaw37_FeedNone ⟨[], [], [], [], [], []⟩ b r).map (fun q => q.2) = some true := by kernel_rfl
theorem feedNone_true (b : List Int) (r : Int) : ∃ s', f_linotypelaw37_FeedNone ⟨[], [], [], [], [], []⟩ b r = some (s', true) := of_snd (feedNone_0 b r)
set_option maxRecDepth 100000 in
theorem works37_1 : (f_linotypelaw37_works ⟨[], [], [], [], [], []⟩).map (fun q => q.2) = some true := by kernel_rfl
set_option maxRecDepth 100000 in
theorem works37_2 : ((f_linotypelaw37_works ⟨[], [], [], [], [], []⟩).bind fun q => f_linotypelaw37_works q.1).map (fun q => q.2) = some true := by kernel_rfl
theorem feedPlays_true (n m : Int) (l : List G_linotypelaw37_Act) (hb : ∀ x ∈ l, Bts x.B) : ∃ st, f_linotypelaw37_FeedPlays ⟨[], [], [], [], [], []⟩ n m l = some (st, true) := by
 unfold f_linotypelaw37_FeedPlays
 obtain ⟨s1, s2, h1, h2⟩ := of_two works37_1 works37_2
 rw [h1]
 simp only [bsm, Bool.not_true, orE_false]
 by_cases hL : 40 < l.length
 ·rw [if_pos (by simp; omega), h2]
  exact ⟨_, rfl⟩
 rw [if_neg (by simp; omega)]
 obtain ⟨W, hW, hW1, hW2⟩ := w_mod n 9 (by decide) (by decide)
 obtain ⟨H, hH, hH1, hH2⟩ := w_mod m 5 (by decide) (by decide)
 rw [show ((9 : Nat) : Int) = 9 from rfl] at hW
 rw [show ((5 : Nat) : Int) = 5 from rfl] at hH
 rw [hW, hH]
 obtain ⟨s3, ks3, h3, v3⟩ := place_new (s := s1) W H
 rw [sd_id hW1 (by omega), sd_id hH1 (by omega)] at v3
 rw [h3]
 simp only [bsm]
 have hks3 := v3.g.h1
 obtain ⟨s4, h4, d4, _⟩ := feed_new v3.self ⟨by simp only; omega, by simp only; omega, fun e => by cases e⟩
 rw [h4]
 simp only [bsm]
 rw [ref34_new (by omega) (by omega)]
 simp only [bsm]
 have f4 := Fs.new d4
 generalize s1.place_Pen.length = k at *
 generalize s1.grid_Grid.length = g at *
 generalize s3.feed_Feeder.length = f at *
 refine iter_forL (n := l.length) (fun i st => st.1 = (i : Int) ∧ st.2.2.2.2.2.2.2.1.length ≤ 60 * i ∧ st.2.2.2.2.2.2.1.length ≤ 121 * i ∧ ∃ q' ks' op', Fs s4 st.2.2.2.2.2.2.2.2.2 f k g W ks3.length ⟨⟨st.2.1, ⟨st.2.2.1, st.2.2.2.1, st.2.2.2.2.1⟩, st.2.2.2.2.2.1⟩, st.2.2.2.2.2.2.1, st.2.2.2.2.2.2.2.1, st.2.2.2.2.2.2.2.2.1⟩ q' ks' op') (fun u => (∃ st, u = .inr st) ∨ ∃ st, u = .inl (st, true)) (fun i st hi hI => ?_) (fun st hI => ?_) ⟨rfl, by simp, by simp, _, _, _, f4⟩ (by omega) (fun u hu => ?_)
 ·obtain ⟨i', L, c1, c2, c3, au, G, raw, pt, st⟩ := st
  obtain ⟨e, hr, hgl, q', ks', op', F⟩ := hI
  simp only at e hr hgl F
  subst e
  simp only
  rw [if_pos (dlt hi), w64_succ hi (by omega)]
  simp only [idx_at hi, bsm]
  by_cases h60 : 60 < l[i].B.length
  ·rw [if_pos (by simp; omega)]
   exact .inr ⟨_, rfl, .inr ⟨_, rfl⟩⟩
  rw [if_neg (by simp; omega)]
  have hbi := hb _ (List.getElem_mem hi)
  have step : ∃ st' F' q'' ks'' op'', (if (l[i].Kind == 0) = true then
    (f_feed_Feeder_Bytes st (some f) l[i].B).bind fun x_77 =>
    (f_linotyperef37_Feed_Bytes (⟨(⟨L, (⟨c1, c2, c3⟩ : G_api_Cursor), au⟩ : G_linotyperef34_Pen), G, raw, pt⟩ : G_linotyperef37_Feed) l[i].B).bind fun x_85 =>
    (some (x_85.P.L, x_85.P.At.Row, x_85.P.At.Col, x_85.P.At.Pending, x_85.P.Auto, x_85.Group, x_85.Raw, x_85.Parts, x_77) : Option ((List G_api_Line) × Int × Int × Bool × Bool × (List Int) × (List Int) × Int × Sto))
    else
    if (l[i].Kind == 1) = true then
    (f_feed_Feeder_Rune st (some f) l[i].R).bind fun x_97 =>
    (f_linotyperef37_Feed_Rune (⟨(⟨L, (⟨c1, c2, c3⟩ : G_api_Cursor), au⟩ : G_linotyperef34_Pen), G, raw, pt⟩ : G_linotyperef37_Feed) l[i].R).bind fun x_105 =>
    (some (x_105.P.L, x_105.P.At.Row, x_105.P.At.Col, x_105.P.At.Pending, x_105.P.Auto, x_105.Group, x_105.Raw, x_105.Parts, x_97) : Option ((List G_api_Line) × Int × Int × Bool × Bool × (List Int) × (List Int) × Int × Sto))
    else
    if (l[i].Kind == 2) = true then
    (f_feed_Feeder_Flush st (some f)).bind fun x_112 =>
    (f_linotyperef37_Feed_Flush (⟨(⟨L, (⟨c1, c2, c3⟩ : G_api_Cursor), au⟩ : G_linotyperef34_Pen), G, raw, pt⟩ : G_linotyperef37_Feed)).bind fun x_115 =>
    (some (x_115.P.L, x_115.P.At.Row, x_115.P.At.Col, x_115.P.At.Pending, x_115.P.Auto, x_115.Group, x_115.Raw, x_115.Parts, x_112) : Option ((List G_api_Line) × Int × Int × Bool × Bool × (List Int) × (List Int) × Int × Sto))
    else
    (f_feed_Feeder_Close st (some f)).bind fun x_119 =>
    (f_linotyperef37_Feed_Close (⟨(⟨L, (⟨c1, c2, c3⟩ : G_api_Cursor), au⟩ : G_linotyperef34_Pen), G, raw, pt⟩ : G_linotyperef37_Feed)).bind fun x_122 =>
    (some (x_122.P.L, x_122.P.At.Row, x_122.P.At.Col, x_122.P.At.Pending, x_122.P.Auto, x_122.Group, x_122.Raw, x_122.Parts, x_119) : Option ((List G_api_Line) × Int × Int × Bool × Bool × (List Int) × (List Int) × Int × Sto))) = some (F'.P.L, F'.P.At.Row, F'.P.At.Col, F'.P.At.Pending, F'.P.Auto, F'.Group, F'.Raw, F'.Parts, st') ∧
    Fs s4 st' f k g W ks3.length F' q'' ks'' op'' ∧ F'.Raw.length ≤ 60 * (i + 1) ∧ F'.Group.length ≤ 121 * (i + 1) := by
   by_cases k0 : l[i].Kind = 0
   ·obtain ⟨st', F', q'', ks'', op'', a1, a2, a3, a4, a5⟩ := fs_bytes F hbi (by simp only; omega) (by simp only; omega)
    rw [if_pos (by simpa using k0), a1, a2]
    exact ⟨st', F', q'', ks'', op'', rfl, a3, by simp only at a4; omega, by simp only at a5; omega⟩
   rw [if_neg (by simpa using k0)]
   by_cases k1 : l[i].Kind = 1
   ·obtain ⟨st', F', q'', ks'', op'', a1, a2, a3, a4, a5⟩ := fs_rune F l[i].R (by simp only; omega)
    rw [if_pos (by simpa using k1), a1, a2]
    exact ⟨st', F', q'', ks'', op'', rfl, a3, by simp only at a4; omega, by simp only at a5; omega⟩
   rw [if_neg (by simpa using k1)]
   by_cases k2 : l[i].Kind = 2
   ·obtain ⟨st', q'', ks'', a1, a2, a3⟩ := fs_flush F (by simp only; omega) (by simp only; omega)
    rw [if_pos (by simpa using k2), a1, a2]
    exact ⟨st', _, q'', ks'', _, rfl, a3, by simp, by simp⟩
   ·obtain ⟨st', a1, a2, a3⟩ := fs_close F (by simp only; omega)
    rw [if_neg (by simpa using k2), a1, a2]
    exact ⟨st', _, q', ks', _, rfl, a3, by simp only; omega, by simp⟩
  obtain ⟨st', F', q'', ks'', op'', a1, a2, a3, a4⟩ := step
  rw [a1]
  simp only [bsm]
  obtain ⟨b1, b2, ⟨n1, b3, b4⟩, ⟨o1, b5, b6, b7, _⟩⟩ := fs_seen a2 (by omega) (by omega)
  have e : (⟨⟨F'.P.L, ⟨F'.P.At.Row, F'.P.At.Col, F'.P.At.Pending⟩, F'.P.Auto⟩, F'.Group, F'.Raw, F'.Parts⟩ : G_linotyperef37_Feed) = F' := rfl
  rw [e, b1]
  simp only [bsm]
  rw [b2]
  simp only [bsm, Bool.not_true, orE_false]
  rw [b3, b4]
  simp only [bsm, bne_self_eq_false, orE_false]
  rw [b5, b6]
  simp only [bsm]
  rw [b7]
  simp only [bsm, Bool.not_true, Bool.false_eq_true, if_false]
  exact .inl ⟨_, rfl, rfl, a3, a4, q'', ks'', op'', a2⟩
 ·obtain ⟨i', st⟩ := st
  obtain ⟨e, _⟩ := hI
  simp only at e
  subst e
  exact ⟨_, by simp only; rw [if_neg (by simp)], .inl ⟨_, rfl⟩⟩
 ·rcases hu with ⟨st, rfl⟩ | ⟨st, rfl⟩
  ·exact ⟨_, rfl⟩
  ·exact ⟨_, rfl⟩
end Go.Proofs.YthokmpbbkpjhbaaGreatDoor
