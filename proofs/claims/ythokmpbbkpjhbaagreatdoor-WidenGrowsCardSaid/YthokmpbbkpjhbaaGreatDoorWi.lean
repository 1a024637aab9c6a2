/-
  A cluster on the screen made longer; what tells its width; its numbers. In plain Lean. Conditions: the row is sound, the cluster stands where it was put.
-/
import Derived.Test.YthokmpbbkpjhbaaGreatDoorWh
import Derived.Test.YthokmpbbkpjhbaaGreatDoorW1
namespace Go.Proofs.YthokmpbbkpjhbaaGreatDoor
open Go Go.Lt
variable {s : Sto} {k g W : Nat} {l p p' : List G_api_Cell} {w : Bool} {q : G_linotyperef34_Pen} {ks : List Nat}

theorem fixv_id {x : Int} (h : vld x = true) : fixv x = x := by unfold fixv; rw [if_pos h]
theorem fixv_fixv' (x : Int) : fixv (fixv x) = fixv x := fixv_id (vld_fixv x)
theorem fx_snoc' {t : List Int} (ht : t.length ≤ 15) (x : Int) : fx (t ++ [fixv x]) = fx (t ++ [x]) := by
  unfold fx
  rw [List.take_of_length_le (by simp; omega), List.take_of_length_le (by simp; omega), List.map_append, List.map_append]
  simp [fixv_fixv']
theorem strip_ne {d : Nat} (hd : d = 1 ∨ d = 2) {t : List Int} (ht : t ≠ []) : strip (d : Int) t = if d = 2 then [⟨2, t⟩, ⟨3, []⟩] else [⟨1, t⟩] := by
  unfold strip
  rw [if_neg ht]
  rcases hd with rfl | rfl <;> rfl
/-- One more number for the cluster at (k, a). -/
theorem mark_more {l0 : List G_api_Cell} {a d : Nat} {t : List Int} (hdd : d = 1 ∨ d = 2) (h : s.row_Row[k]? = some ⟨pl l0 a (strip d t), w⟩) (hs : Snd (pl l0 a (strip d t))) (hl : l0.length ≤ 1024) (ha : a + d ≤ l0.length) (ht1 : 1 ≤ t.length) (ht2 : t.length ≤ 15) (x : Int) :
    f_mark_Add s (some k) a x = some (s.sr k ⟨pl l0 a (strip d (fx (t ++ [x]))), pw (pl l0 a (strip d t)) w a d⟩, true) := by
  have hne : t ≠ [] := fun e => by rw [e] at ht1; simp at ht1
  have hsl := strip_d d hdd t
  have hc : pc l0 a (strip d t) a = ⟨(d : Int), t⟩ := by
    rw [pc_in ⟨Nat.le_refl _, by rw [hsl]; omega⟩, Nat.sub_self, strip_ne hdd hne]
    rcases hdd with rfl | rfl <;> rfl
  have hkd : kd (pl l0 a (strip d t)) a = (d : Int) := by rw [kd_pl (by omega), hc]
  have hm : mat (pl l0 a (strip d t)) (a : Int) = some a := by
    unfold mat
    rw [if_pos (by rw [pl_len]; omega), Int.toNat_natCast, hkd, if_neg (by omega), if_neg (by omega)]
  unfold f_mark_Add
  rw [mark_at h hs a (by omega), hm]
  have hg : (pl l0 a (strip d t)).getD a bl = ⟨(d : Int), t⟩ := by rw [List.getD_eq_getElem?_getD, pl_get (by omega), hc]; rfl
  simp only [bsm, Bool.not_true, orE_false, hg, hkd]
  rw [if_neg (by simp; omega), app_eq (by simp; omega)]
  simp only [bsm]
  have hsl2 := strip_d d hdd (fx (t ++ [x]))
  rw [mark_put h hs (by rw [pl_len]; exact hl) _ (by simp; omega) (by rw [hsl2, pl_len]; exact ha), pl_over (Nat.le_refl a) (by omega) (by omega), hsl2]
  simp only [bsm, Er.isNil]

/-! ### the width -/
def zb (b : Int) : Bool := b == 1 || b == 2 || b == 3 || b == 4 || b == 5 || b == 10 || b == 11
/-- Is a number by itself 2 wide? -/
def b2 (x : G_api_Prop) : Bool := !zb x.Break && (x.East == 1 || x.East == 2)
theorem basew_none (b : Int) : f_basew_none b = some (zb b) := by
  unfold f_basew_none zb
  by_cases h1 : b = 1
  · subst h1; rfl
  by_cases h2 : b = 2
  · subst h2; rfl
  by_cases h3 : b = 3
  · subst h3; rfl
  by_cases h4 : b = 4
  · subst h4; rfl
  by_cases h5 : b = 5
  · subst h5; rfl
  by_cases h6 : b = 10
  · subst h6; rfl
  by_cases h7 : b = 11
  · subst h7; rfl
  simp [h1, h2, h3, h4, h5, h6, h7]
theorem basew_of (x : G_api_Prop) : ∃ n, f_basew_Of x = some n ∧ (n == 2) = b2 x := by
  unfold f_basew_Of b2
  rw [basew_none]
  simp only [bsm, orE_some]
  cases zb x.Break with
  | true => exact ⟨0, rfl, rfl⟩
  | false =>
    cases h : (x.East == 1 || x.East == 2) with
    | true => exact ⟨2, by simp [h], rfl⟩
    | false => exact ⟨1, by simp [h], rfl⟩
/-- The gauge behind one more number. -/
def gz (y : G_cwidth_Gauge) (r : Int) (x : G_api_Prop) : G_cwidth_Gauge := ⟨true, x.Pict, y.wide || (b2 x || (y.some && ((r == 65039 && y.pict) || x.Pict || x.Break == 6)))⟩
def wz (y : G_cwidth_Gauge) : Int := if y.wide = true then 2 else 1
theorem gauge_step (y : G_cwidth_Gauge) (r : Int) (x : G_api_Prop) : f_cwidth_Gauge_Step__widen_Cluster_21 y r x = some (gz y r x, wz (gz y r x)) := by
  have hw : f_cwidth_Gauge_widens__widen_Cluster_21 y r x = some (b2 x || (y.some && ((r == 65039 && y.pict) || x.Pict || x.Break == 6))) := by
    unfold f_cwidth_Gauge_widens__widen_Cluster_21
    obtain ⟨n, h1, h2⟩ := basew_of x
    rw [h1]
    simp only [bsm, h2, andE_some, orE_some]
    cases b2 x <;> cases y.some <;> rfl
  unfold f_cwidth_Gauge_Step__widen_Cluster_21
  rw [hw]
  simp only [bsm, orE_some, Bool.false_eq_true, if_false]
  unfold wz gz
  split <;> simp_all

/-! ### the numbers -/
structure Cv (c : G_cluster_Cluster) (t : List Int) : Prop where
  n : c.n = (t.length : Int)
  h : t.length ≤ 16
  t : (a16 c.text).take t.length = t
theorem cl_full {c : G_cluster_Cluster} {t : List Int} (h : Cv c t) : f_cluster_Cluster_Full__widen_Cluster_4 c = some (decide (t.length = 16)) := by
  unfold f_cluster_Cluster_Full__widen_Cluster_4 f_cluster_Cluster_Len__widen_Cluster_4
  simp only [Bool.false_eq_true, if_false, bsm, h.n]
  congr 1
  rw [Bool.eq_iff_iff, beq_iff_eq, decide_eq_true_eq]
  omega
theorem cl_add {c : G_cluster_Cluster} {t : List Int} (h : Cv c t) (h2 : t.length < 16) (x : Int) : ∃ c', f_cluster_Cluster_Add__widen_Cluster_4 c x = some (c', true) ∧ Cv c' (t ++ [x]) := by
  unfold f_cluster_Cluster_Add__widen_Cluster_4
  rw [cl_full h]
  simp only [orE_false, bsm]
  rw [if_neg (by simp; omega), h.n, idx_at (by rw [a16_len]; exact h2)]
  simp only [bsm]
  refine ⟨_, rfl, by simp only; rw [w64_in (by omega)]; simp, by simp; omega, ?_⟩
  simp only
  rw [a16_aset, Int.toNat_natCast, List.length_append]
  simp only [List.length_cons, List.length_nil]
  rw [List.take_succ_eq_append_getElem (by rw [List.length_set, a16_len]; exact h2), List.take_set_of_le (Nat.le_refl _), h.t, List.getElem_set_self]
theorem cl_text {c : G_cluster_Cluster} {t : List Int} (h : Cv c t) : f_cluster_Cluster_Text__widen_Cluster_4 c = some t := by
  unfold f_cluster_Cluster_Text__widen_Cluster_4
  simp only [Bool.false_eq_true, if_false, h.n]
  have := slc_eq (xs := a16 c.text) (i := 0) (j := t.length) (Nat.zero_le _) (by rw [a16_len]; exact h.h)
  rw [show ((0 : Nat) : Int) = 0 by rfl] at this
  rw [this]
  simp only [bsm, List.drop_zero, Nat.sub_zero, h.t]
  unfold f_slices_Clone
  rw [app_eq (by have := h.h; simp; omega)]
  rfl
end Go.Proofs.YthokmpbbkpjhbaaGreatDoor
