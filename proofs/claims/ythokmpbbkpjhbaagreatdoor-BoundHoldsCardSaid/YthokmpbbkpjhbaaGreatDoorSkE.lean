/- Parts of the proofs of ScreenSound, BoundHolds: the walk through the code, and plain Lean. No condition. -/
import Derived.Test.YthokmpbbkpjhbaaGreatDoorSkD
import Derived.Test.YthokmpbbkpjhbaaGreatDoorSkC
import Derived.KernelRfl
import Derived.Test.YthokmpbbkpjhbaaGreatDoorSkA
import Derived.Test.YthokmpbbkpjhbaaGreatDoorProg
import Derived.Test.YthokmpbbkpjhbaaGreatDoorSkB
set_option linter.unusedVariables false
set_option linter.unusedSimpArgs false
namespace Go.Proofs.YthokmpbbkpjhbaaGreatDoor
open Go Go.Lt
variable {s C : Sto} {k g W j : Nat} {w : Bool} {q : G_linotyperef34_Pen} {ks : List Nat}
def Sto.sc (s : Sto) (j : Nat) (x : G_widen_Cluster) : Sto := { s with widen_Cluster := s.widen_Cluster.set j x }
theorem set_cl {x : G_widen_Cluster} (h : j < s.widen_Cluster.length) : s.set_widen_Cluster j x = some (s.sc j x) := by
 unfold Sto.set_widen_Cluster
 rw [if_pos h]
 rfl
theorem sc_get {x : G_widen_Cluster} (h : j < s.widen_Cluster.length) : (s.sc j x).widen_Cluster[j]? = some x := by simp [Sto.sc, h]
theorem sc_sc (s : Sto) (j : Nat) (x y : G_widen_Cluster) : (s.sc j x).sc j y = s.sc j y := by simp [Sto.sc]
theorem Gw.sc (h : Gw s g ks W) (j : Nat) (x : G_widen_Cluster) : Gw (s.sc j x) g ks W := ⟨h.g, h.r, h.h1, h.h2, h.w1, h.w2⟩
theorem Gw.addc (h : Gw s g ks W) (x : G_widen_Cluster) : Gw (s.add_widen_Cluster x) g ks W := ⟨h.g, h.r, h.h1, h.h2, h.w1, h.w2⟩
theorem Pv.sc (h : Pv s s k g W q ks) (j : Nat) (x : G_widen_Cluster) : Pv (s.sc j x) (s.sc j x) k g W q ks :=
 ⟨h.p, h.g.sc j x, h.nd, h.l, rfl, h.f.rgp ⟨rfl, rfl, rfl⟩ ⟨rfl, rfl, rfl⟩⟩
theorem Pv.addc (h : Pv s s k g W q ks) (x : G_widen_Cluster) : Pv (s.add_widen_Cluster x) (s.add_widen_Cluster x) k g W q ks :=
 ⟨h.p, h.g.addc x, h.nd, h.l, rfl, h.f.rgp ⟨rfl, rfl, rfl⟩ ⟨rfl, rfl, rfl⟩⟩
theorem oth_cl {a b : Sto} (h : a.oth = b.oth) : a.widen_Cluster = b.widen_Cluster := by
 have := congrArg Sto.widen_Cluster h
 exact this
structure Wc (s : Sto) (j : Nat) (c : G_api_Cursor) (y : G_cwidth_Gauge) (t : List Int) (n : Int) : Prop where
 x : ∃ b, s.widen_Cluster[j]? = some ⟨c, n, b, y⟩ ∧ Cv b t
theorem Wc.lt {c : G_api_Cursor} {y : G_cwidth_Gauge} {t : List Int} {n : Int} (h : Wc s j c y t n) : j < s.widen_Cluster.length := by
 obtain ⟨b, h, _⟩ := h.x
 exact get_lt h
theorem sca_fix (r : Int) : ((f_scalar_Valid r).bind fun x_6 => if (!x_6) = true then (some (65533) : Option (Int)) else (some (r) : Option (Int))) = some (fixv r) := by
 rw [sca_valid]
 unfold fixv
 cases vld r <;> rfl
theorem add_eq {c : G_api_Cursor} {y : G_cwidth_Gauge} {t : List Int} {n : Int} (h : Wc s j c y t n) (ht : t.length < 16) (r : Int) (x : G_api_Prop) :
  ∃ b', f_widen_Cluster_add s (some j) r x = some (s.sc j ⟨c, n, b', gz y (fixv r) x⟩, wz (gz y (fixv r) x)) ∧ Cv b' (t ++ [fixv r]) := by
 have hj := h.lt
 obtain ⟨b, hb, hv⟩ := h.x
 obtain ⟨b', h1, h2⟩ := cl_add hv ht (fixv r)
 refine ⟨b', ?_, h2⟩
 unfold f_widen_Cluster_add
 rw [sca_fix]
 simp only [bsm, hb, h1]
 rw [set_cl hj]
 simp only [bsm, gauge_step]
 rw [set_cl (by simp [Sto.sc]; exact hj), sc_sc]
 rfl
theorem cl2_two (t : List Int) (h : 2 ≤ W) : cl2 2 t W = (2, t) := by
 unfold cl2
 rw [if_neg (by omega)]
 rfl
theorem cl2_one (t : List Int) (h : 1 ≤ W) : cl2 1 t W = (1, t) := by
 unfold cl2
 rw [if_neg (by omega)]
 rfl
theorem cl2_nar (t : List Int) : cl2 2 t 1 = (1, [65533]) := by
 unfold cl2
 rw [if_pos (by decide)]
structure On (C s : Sto) (k g W H j : Nat) (q0 : G_linotyperef34_Pen) (y : G_cwidth_Gauge) (t : List Int) (q : G_linotyperef34_Pen) (c : G_api_Cursor) (ks : List Nat) : Prop where
 v : Pv s s k g W q ks
 f : Fr C s k g ks
 w : Wc s j c y t (wz y)
 n : ks.length = H
 p : f_linotyperef34_Pen_Put q0 (wz y) t = some (q, c)
theorem begin_eq {q0 : G_linotyperef34_Pen} (h : Pv C s k g W q0 ks) (r : Int) (x : G_api_Prop) : ∃ s' q' c ks', f_widen_Begin s (some k) r x = some (s', some s.widen_Cluster.length) ∧
  On C s' k g W ks.length s.widen_Cluster.length q0 (gz ⟨false, false, false⟩ (fixv r) x) [fixv r] q' c ks' ∧ ∃ z, s'.oth = (s.add_widen_Cluster z).oth := by
 unfold f_widen_Begin
 simp only [Option.isNone_some, orE_false, bsm, h.p, Bool.false_eq_true, if_false]
 have h0 : Wc (s.add_widen_Cluster ⟨⟨0, 0, false⟩, 0, ⟨(0, 0, 0, 0, 0, 0, 0, 0, 0, 0, 0, 0, 0, 0, 0, 0), 0⟩, ⟨false, false, false⟩⟩) s.widen_Cluster.length ⟨0, 0, false⟩ ⟨false, false, false⟩ [] 0 :=
  ⟨⟨⟨(0, 0, 0, 0, 0, 0, 0, 0, 0, 0, 0, 0, 0, 0, 0, 0), 0⟩, by simp [Sto.add_widen_Cluster], ⟨rfl, by simp, rfl⟩⟩⟩
 obtain ⟨b, h1, h2⟩ := add_eq h0 (by simp) r x
 have hlt := h0.lt
 rw [h1]
 have hv := (h.self.addc ⟨⟨0, 0, false⟩, 0, ⟨(0, 0, 0, 0, 0, 0, 0, 0, 0, 0, 0, 0, 0, 0, 0, 0), 0⟩, ⟨false, false, false⟩⟩).sc s.widen_Cluster.length ⟨⟨0, 0, false⟩, 0, b, gz ⟨false, false, false⟩ (fixv r) x⟩
 have hR : Rgp s (s.add_widen_Cluster ⟨⟨0, 0, false⟩, 0, ⟨(0, 0, 0, 0, 0, 0, 0, 0, 0, 0, 0, 0, 0, 0, 0, 0), 0⟩, ⟨false, false, false⟩⟩) := ⟨rfl, rfl, rfl⟩
 have hA : ∀ z, ((s.add_widen_Cluster ⟨⟨0, 0, false⟩, 0, ⟨(0, 0, 0, 0, 0, 0, 0, 0, 0, 0, 0, 0, 0, 0, 0, 0), 0⟩, ⟨false, false, false⟩⟩).sc s.widen_Cluster.length z) = s.add_widen_Cluster z := fun z => by
  simp [Sto.sc, Sto.add_widen_Cluster]
 generalize hs1 : s.add_widen_Cluster ⟨⟨0, 0, false⟩, 0, ⟨(0, 0, 0, 0, 0, 0, 0, 0, 0, 0, 0, 0, 0, 0, 0, 0), 0⟩, ⟨false, false, false⟩⟩ = s1 at *
 simp only [bsm]
 rw [sc_get hlt]
 simp only [bsm]
 rw [set_cl (by simp [Sto.sc]; exact hlt), sc_sc]
 simp only [bsm]
 rw [cl_text h2]
 simp only [bsm, List.nil_append]
 have hv2 := hv.sc s.widen_Cluster.length ⟨⟨0, 0, false⟩, wz (gz ⟨false, false, false⟩ (fixv r) x), b, gz ⟨false, false, false⟩ (fixv r) x⟩
 simp only [sc_sc] at hv2
 obtain ⟨s3, q3, ks3, i, a, p1, p2, p3, p4, p5, p6, p7, _⟩ := put_eq hv2 (wz (gz ⟨false, false, false⟩ (fixv r) x)) [fixv r] (by simp)
 rw [p2]
 have hcl : s3.widen_Cluster = (s1.sc s.widen_Cluster.length ⟨⟨0, 0, false⟩, wz (gz ⟨false, false, false⟩ (fixv r) x), b, gz ⟨false, false, false⟩ (fixv r) x⟩).widen_Cluster := oth_cl p4.o
 have hg3 : s3.widen_Cluster[s.widen_Cluster.length]? = some ⟨⟨0, 0, false⟩, wz (gz ⟨false, false, false⟩ (fixv r) x), b, gz ⟨false, false, false⟩ (fixv r) x⟩ := by
  rw [hcl]
  exact sc_get hlt
 simp only [bsm]
 rw [hg3]
 simp only [bsm]
 rw [set_cl (get_lt hg3)]
 refine ⟨_, q3, _, ks3, rfl, ⟨p4.self.sc _ _, ?_, ⟨_, sc_get (get_lt hg3), by simpa using h2⟩, p5, p3⟩, ⟨⟨(i : Int), (a : Int), false⟩, wz (gz ⟨false, false, false⟩ (fixv r) x), b, gz ⟨false, false, false⟩ (fixv r) x⟩, ?_⟩
 ·exact (h.f.trans h.oG h.oR (p4.f.rgp (C' := s) ⟨hR.symm.r, hR.symm.g, hR.symm.p⟩ (Rgp.self _))).rgp (Rgp.self _) ⟨rfl, rfl, rfl⟩
 ·rw [← hA]
  have := congrArg (fun y : Sto => y.sc s.widen_Cluster.length ⟨⟨(i : Int), (a : Int), false⟩, wz (gz ⟨false, false, false⟩ (fixv r) x), b, gz ⟨false, false, false⟩ (fixv r) x⟩) p4.o
  refine this.trans ?_
  show (((s1.sc _ _).sc _ _).oth) = _
  rw [sc_sc]
theorem wz_12 (y : G_cwidth_Gauge) : (y.wide = false ∧ wz y = 1) ∨ (y.wide = true ∧ wz y = 2) := by
 unfold wz
 cases y.wide
 ·exact .inl ⟨rfl, rfl⟩
 ·exact .inr ⟨rfl, rfl⟩
theorem gz_wide {y : G_cwidth_Gauge} (h : y.wide = true) (r : Int) (x : G_api_Prop) : (gz y r x).wide = true := by
 unfold gz
 simp [h]
theorem cl2_fst (p1 : Int) (t t' : List Int) (W : Nat) : (cl2 p1 t W).1 = (cl2 p1 t' W).1 := by
 unfold cl2
 split <;> rfl
theorem join_full {q0 : G_linotyperef34_Pen} {y : G_cwidth_Gauge} {t : List Int} {c : G_api_Cursor} {H : Nat} (h : On C s k g W H j q0 y t q c ks) (ht : t.length = 16) (r : Int) (x : G_api_Prop) :
  f_widen_Cluster_Join s (some j) (some k) r x = some (s, false) := by
 obtain ⟨b, hb, hv⟩ := h.w.x
 unfold f_widen_Cluster_Join
 simp only [Option.isNone_some, orE_false, bsm, h.v.p, hb, cl_full hv, ht]
 rfl
theorem join_eq {C0 s0 : Sto} {ks0 : List Nat} {q0 : G_linotyperef34_Pen} {H : Nat} (h0 : Pv C0 s0 k g W q0 ks0) (hH : ks0.length = H) {y : G_cwidth_Gauge} {t : List Int} {c : G_api_Cursor} (h : On C s k g W H j q0 y t q c ks) (ht1 : 1 ≤ t.length) (ht : t.length < 16) (hvt : ∀ x ∈ t, vld x = true) (r : Int) (x : G_api_Prop) :
  ∃ s' q' c' ks', f_widen_Cluster_Join s (some j) (some k) r x = some (s', true) ∧ On C s' k g W H j q0 (gz y (fixv r) x) (t ++ [fixv r]) q' c' ks' ∧ ∃ z, s'.oth = (s.sc j z).oth := by
 have hj := h.w.lt
 obtain ⟨b', e1, e2⟩ := add_eq h.w ht r x
 obtain ⟨b, hb, hv⟩ := h.w.x
 have w1 := h0.g.w1
 have w2 := h0.g.w2
 unfold f_widen_Cluster_Join
 have hfull : decide (t.length = 16) = false := by simp; omega
 simp only [Option.isNone_some, orE_false, bsm, h.v.p, hb, cl_full hv, hfull, Bool.false_eq_true, if_false, e1]
 have htl : (t ++ [fixv r]).length ≤ 1000000 := by simp; omega
 generalize hy' : gz y (fixv r) x = y' at *
 rw [sc_get hj]
 simp only [bsm]
 rw [set_cl (by simp [Sto.sc]; exact hj), sc_sc]
 simp only [bsm]
 have hv2 := h.v.sc j ⟨c, wz y', b', y'⟩
 have hfr : Fr C (s.sc j ⟨c, wz y', b', y'⟩) k g ks := h.f.rgp (Rgp.self _) ⟨rfl, rfl, rfl⟩
 by_cases hw : wz y' = wz y
 ·rw [if_neg (by simp [hw])]
  simp only [hv2.p, bsm]
  rw [grid_wide hv2.g]
  simp only [bsm]
  obtain ⟨hdd, hdw⟩ := cl2_d (wz y) t w1
  obtain ⟨L2, i, a, pd, r1, r2, r3, r4, r5⟩ := rdy_ok h0 hdd hdw
  have hq := put_of_room hdd h0 r1 r2 r3 r4 r5 (wz y) t (by omega) rfl
  have hq' := put_of_room hdd h0 r1 r2 r3 r4 r5 (wz y) (t ++ [fixv r]) htl (cl2_fst _ _ _ _)
  rw [h.p] at hq
  simp only [Option.some.injEq, Prod.mk.injEq] at hq
  obtain ⟨hq1, rfl⟩ := hq
  by_cases hle : wz y' ≤ (W : Int)
  ·rw [if_pos (by simpa using hle)]
   have hcl : ∀ t2 : List Int, cl2 (wz y) t2 W = ((wz y).toNat, t2) := fun t2 => by
    rw [hw] at hle
    rcases wz_12 y with ⟨_, q1⟩ | ⟨_, q1⟩
    ·rw [q1]; exact cl2_one t2 w1
    ·rw [q1]; exact cl2_two t2 (by omega)
   rw [hcl] at hq1 r3 hdd hdw r1 hq'
   rw [hcl] at hq'
   simp only at hq1 r3 hdd hdw r1 hq'
   generalize (wz y).toNat = d at *
   have hik : i < ks.length := by rw [h.n, ← hH]; exact r2
   rw [grid_row hv2.g hik]
   simp only [bsm]
   have hfx : fx t = t := fx_id hvt (by omega)
   obtain ⟨⟨rc, rw_⟩, hr0, hsn, hlw⟩ := h.v.g.at hik
   simp only at hsn hlw
   have hlt : i < L2.length := by rw [r4]; exact r2
   have hat := h.v.at hik
   rw [ln_eq hr0] at hat
   have hqL : q.L = L2.set i ⟨pl (L2.getD i dl).Cells a (strip d (fx t)), pw (L2.getD i dl).Cells (L2.getD i dl).Wrap a d⟩ := by rw [hq1]; rfl
   have hgi : q.L[i]'(by rw [h.v.len]; exact hik) = ⟨pl (L2.getD i dl).Cells a (strip d (fx t)), pw (L2.getD i dl).Cells (L2.getD i dl).Wrap a d⟩ := by
    have : q.L[i]? = some ⟨pl (L2.getD i dl).Cells a (strip d (fx t)), pw (L2.getD i dl).Cells (L2.getD i dl).Wrap a d⟩ := by rw [hqL, List.getElem?_set_self hlt]
    rw [List.getElem?_eq_getElem (by rw [h.v.len]; exact hik)] at this
    exact Option.some.inj this
   rw [hgi] at hat
   simp only [G_api_Line.mk.injEq] at hat
   obtain ⟨hrc, hrw⟩ := hat
   subst hrc hrw
   have hcells : (L2.getD i dl).Cells.length = W := by
    rw [gdl hlt]
    exact (r5 _ (List.getElem_mem hlt)).2
   have hq1A : q.At = ca ⟨(i : Int), (a : Int), false⟩ d W q0.Auto ∧ q.Auto = q0.Auto := by rw [hq1]; exact ⟨rfl, rfl⟩
   generalize hl0 : (L2.getD i dl).Cells = l0 at *
   generalize hw0 : (L2.getD i dl).Wrap = w0 at *
   rw [hfx] at hr0 hsn hqL hlw hgi
   have hr0' : (s.sc j ⟨⟨(i : Int), (a : Int), false⟩, wz y', b', y'⟩).row_Row[ks[i]]? = some ⟨pl l0 a (strip d t), pw l0 w0 a d⟩ := hr0
   have hst := strip_d d hdd t
   have hst2 := strip_d d hdd (fx (t ++ [r]))
   rw [mark_more hdd hr0' hsn (by omega) (by omega) ht1 (by omega) r]
   simp only [bsm]
   have o1 := pl_over (l := l0) (p := strip d t) (p' := strip d (fx (t ++ [r]))) (Nat.le_refl a) (by omega) (by omega)
   have o2 := pw_over (l := l0) (w := w0) (p := strip d t) (p' := strip d (fx (t ++ [r]))) (Nat.le_refl a) (by omega) (by omega)
   rw [hst, hst2] at o2
   have hsn2 : Snd (pl l0 a (strip d (fx (t ++ [r])))) := by
    rw [← o1]
    exact hsn.paint (snd_fx _ _) (by rw [pl_len]; omega)
   have hv4 := hv2.row hik (r := ⟨pl l0 a (strip d (fx (t ++ [r]))), pw (pl l0 a (strip d t)) (pw l0 w0 a d) a d⟩) hsn2 (by simp only [pl_len]; exact hcells)
   refine ⟨_, _, _, ks, rfl, ⟨hv4.self, hfr.sr (List.getElem_mem hik) _, ⟨b', sc_get hj, e2⟩, h.n, ?_⟩, _, rfl⟩
   rw [hw, hq']
   have hfx2 := fx_snoc' (t := t) (by omega) r
   rw [o2, hqL, hq1A.1, hq1A.2, List.set_set, ← hfx2]
   unfold putq
   rw [hl0, hw0]
  ·rw [if_neg (by simpa using hle)]
   have hW : W = 1 := by
    rcases wz_12 y' with ⟨_, q1⟩ | ⟨_, q1⟩ <;> omega
   refine ⟨_, q, _, ks, rfl, ⟨hv2, hfr, ⟨b', sc_get hj, e2⟩, h.n, ?_⟩, _, rfl⟩
   rw [hw, hq']
   have h2 : wz y = 2 := by
    rcases wz_12 y with ⟨_, q1⟩ | ⟨_, q1⟩
    ·rw [hw, q1] at hle; omega
    ·exact q1
   rw [hq1, h2, hW, cl2_nar, cl2_nar]
 ·rw [if_pos (by simpa using hw)]
  have hy1 : wz y = 1 ∧ wz y' = 2 := by
   rcases wz_12 y with ⟨_, q1⟩ | ⟨q1, q2⟩
   ·rcases wz_12 y' with ⟨_, q3⟩ | ⟨_, q3⟩
    ·rw [q1, q3] at hw; exact absurd rfl hw
    ·exact ⟨q1, q3⟩
   ·have := gz_wide q1 (fixv r) x
    rw [hy'] at this
    unfold wz at hw
    rw [this, q1] at hw
    exact absurd rfl hw
  simp only [hv2.p, bsm]
  rw [set_pen (get_lt hv2.p)]
  simp only [bsm]
  have hv3 := hv2.set c q.Auto
  have hc3 : ((s.sc j ⟨c, wz y', b', y'⟩).sp k ⟨some g, c, q.Auto⟩).widen_Cluster[j]? = some ⟨c, wz y', b', y'⟩ := sc_get hj
  rw [hc3]
  simp only [bsm]
  rw [cl_text e2]
  simp only [bsm]
  obtain ⟨s4, q4, ks4, i, a, p1, p2, p3, p4, p5, p6, p7, _⟩ := put_eq hv3 (wz y') (t ++ [fixv r]) htl
  rw [p2]
  simp only [bsm]
  have hc4 : s4.widen_Cluster[j]? = some ⟨c, wz y', b', y'⟩ := by
   rw [oth_cl p4.o]
   exact hc3
  rw [hc4]
  simp only [bsm]
  rw [set_cl (get_lt hc4)]
  refine ⟨_, q4, _, ks4, rfl, ⟨p4.self.sc _ _, ?_, ⟨b', sc_get (get_lt hc4), e2⟩, p5.trans h.n, ?_⟩, ⟨⟨(i : Int), (a : Int), false⟩, wz y', b', y'⟩, ?_⟩
  ·have h3 := p4.f
   have := h.f.trans h.v.oG h.v.oR (h3.rgp (C' := s) ⟨rfl, rfl, rfl⟩ (Rgp.self _))
   exact this.rgp (Rgp.self _) ⟨rfl, rfl, rfl⟩
  ·rw [← p3]
   exact (put_again h0 (by omega) htl (by rw [hy1.1, cl2_one _ w1]) h.p h.v (h.n.trans hH.symm)).symm
  ·have := congrArg (fun y : Sto => y.sc j ⟨⟨(i : Int), (a : Int), false⟩, wz y', b', y'⟩) p4.o
   refine this.trans ?_
   show (((s.sc _ _).sc _ _).oth) = _
   rw [sc_sc]
def gf (t : List Int) (x : List G_api_Prop) : G_cwidth_Gauge := (t.zip x).foldl (fun y p => gz y p.1 p.2) ⟨false, false, false⟩
theorem zip_snoc {α β : Type} : ∀ (t : List α) (x : List β) (r : α) (h : t.length < x.length), (t ++ [r]).zip x = t.zip x ++ [(r, x[t.length])]
 | [], [], _, h => by simp at h
 | [], b :: x, r, _ => by simp
 | a :: t, [], _, h => by simp at h
 | a :: t, b :: x, r, h => by
  have := zip_snoc t x r (by simpa using h)
  simp only [List.cons_append, List.zip_cons_cons, this, List.length_cons, List.getElem_cons_succ]
theorem gf_snoc {t : List Int} {x : List G_api_Prop} (h : t.length < x.length) (r : Int) : gf (t ++ [r]) x = gz (gf t x) r x[t.length] := by
 unfold gf
 rw [zip_snoc t x r h, List.foldl_append]
 rfl
theorem zip_take {α β : Type} : ∀ (t : List α) (x : List β) (n : Nat), t.length ≤ n → t.zip (x.take n) = t.zip x
 | [], _, _, _ => rfl
 | _ :: _, [], _, _ => by simp
 | _ :: _, _ :: _, 0, h => by simp at h
 | a :: t, b :: x, n + 1, h => by
  rw [List.take_succ_cons, List.zip_cons_cons, List.zip_cons_cons, zip_take t x n (by simpa using h)]
theorem gf_take (t : List Int) (x : List G_api_Prop) {n : Nat} (h : t.length ≤ n) : gf t (x.take n) = gf t x := by
 unfold gf
 rw [zip_take _ _ _ h]
end Go.Proofs.YthokmpbbkpjhbaaGreatDoor
namespace Go.Proofs.YthokmpbbkpjhbaaGreatDoor
open Go Go.Lt
variable {s C : Sto} {g k W : Nat} {ks : List Nat} {q : G_linotyperef34_Pen}
def bls (W H : Nat) : List G_api_Line := List.replicate H ⟨List.replicate W bl, false⟩
theorem bls_ok {W H : Nat} (w1 : 1 ≤ W) (w2 : W ≤ 1024) (h1 : 1 ≤ H) : ∀ i (h : i < (bls W H).length), 1 ≤ (bls W H)[i].Cells.length ∧ (bls W H)[i].Cells.length ≤ 1024 ∧ Snd (bls W H)[i].Cells ∧ (bls W H)[i].Cells.length = ((bls W H)[0]'(by omega)).Cells.length := fun i h => by
 have e : ∀ j (hj : j < (bls W H).length), (bls W H)[j] = ⟨List.replicate W bl, false⟩ := fun j hj => by
  unfold bls
  exact List.getElem_replicate _
 rw [e i h, e 0 (by omega)]
 simp only [List.length_replicate]
 exact ⟨w1, w2, snd_bl W, trivial⟩
theorem grid_new (n m : Int) : f_grid_New s n m = some ((s.addr ((bls (sd n) (sd m)).map lr)).add_grid_Grid ⟨(List.range' s.row_Row.length (sd m)).map some⟩, some s.grid_Grid.length) := by
 have hsd := sd_in m
 have hL : ∀ i, ((bls (sd n) (sd m)).map lr).take i = List.replicate (min i (sd m)) ⟨List.replicate (sd n) bl, false⟩ := fun i => by
  unfold bls
  rw [List.map_replicate, List.take_replicate]
  rfl
 have hlen : ((bls (sd n) (sd m)).map lr).length = sd m := by simp [bls]
 have hH : imax 1 (imin m 1024) = (sd m : Int) := by
  rw [imin_eq, imax_eq]
  unfold sd
  omega
 unfold f_grid_New
 rw [hH]
 simp only [bsm]
 obtain ⟨t, h3, h4⟩ := iter_for (σ := Int × Sto) (τ := Sto) (n := sd m) (fuel := (((sd m : Nat) : Int) - 0).toNat + 1) (s := (0, s.add_grid_Grid (⟨([] : List (Option Nat))⟩ : G_grid_Grid)))
  (fun i q => q = ((i : Int), (s.addr (((bls (sd n) (sd m)).map lr).take i)).add_grid_Grid ⟨(List.range' s.row_Row.length i).map some⟩))
  (fun t => t = (s.addr ((bls (sd n) (sd m)).map lr)).add_grid_Grid ⟨(List.range' s.row_Row.length (sd m)).map some⟩)
  (step := fun s_12 =>
 if (decide (s_12.1 < ((sd m : Nat) : Int))) = true then
 (s_12.2.grid_Grid[s.grid_Grid.length]?).bind fun o_19 =>
 (f_row_New s_12.2 n).bind fun x_21 =>
 (app o_19.rows ([x_21.2] : List (Option Nat))).bind fun x_23 =>
 (x_21.1.set_grid_Grid s.grid_Grid.length (⟨x_23⟩ : G_grid_Grid)).bind fun s_26001 =>
 some (.inl ((w64 (s_12.1 + 1)), s_26001))
 else
 some (.inr (s_12.2)))
  (fun i q hi e => by
   subst e
   refine .inl ⟨_, ?_, rfl⟩
   have e5 : w64 ((i : Int) + 1) = ((i + 1 : Nat) : Int) := by rw [w64_in (by omega)]; simp
   have hd : decide ((i : Int) < ((sd m : Nat) : Int)) = true := by simp; exact hi
   have hg : ((s.addr (((bls (sd n) (sd m)).map lr).take i)).add_grid_Grid ⟨(List.range' s.row_Row.length i).map some⟩).grid_Grid[s.grid_Grid.length]? = some ⟨(List.range' s.row_Row.length i).map some⟩ := by
    simp [Sto.add_grid_Grid, Sto.addr]
   simp only [hd, if_true]
   rw [hg, row_new]
   simp only [bsm]
   rw [app_eq (by simp; omega)]
   simp only [bsm]
   have hlt : s.grid_Grid.length < (((s.addr (((bls (sd n) (sd m)).map lr).take i)).add_grid_Grid ⟨(List.range' s.row_Row.length i).map some⟩).add_row_Row ⟨List.replicate (sd n) bl, false⟩).grid_Grid.length := by
    simp [Sto.add_grid_Grid, Sto.addr, Sto.add_row_Row]
   rw [set_grid hlt, e5]
   simp only [bsm]
   congr 4
   refine sto_eq ?_ ?_ rfl
   ·simp only [Sto.sg, Sto.add_grid_Grid, Sto.add_row_Row, Sto.addr]
    rw [hL, hL, Nat.min_eq_left (by omega), Nat.min_eq_left (by omega), List.replicate_succ', List.append_assoc]
   ·simp only [Sto.sg, Sto.add_grid_Grid, Sto.add_row_Row, Sto.addr]
    rw [List.set_append_right _ _ (Nat.le_refl _), Nat.sub_self, List.set_cons_zero, List.range'_concat, List.map_append, hL, Nat.min_eq_left (by omega)]
    simp)
  (fun q e => ⟨q.2, by subst e; simp, by subst e; simp only; rw [List.take_of_length_le (by omega)]⟩)
  (by simp [addr_nil]) (by omega)
 subst h4
 rw [h3]
 rfl
theorem Fr.of_grid (xs : List G_row_Row) (x : G_grid_Grid) {n : Nat} (hn : n = s.grid_Grid.length) {m : Nat} : Fr s ((s.addr xs).add_grid_Grid x) k n (List.range' s.row_Row.length m) := by
 subst hn
 refine Fr.new (Nat.le_refl _) ?_ ?_ (fun _ _ => rfl) (fun j hj => ?_) (fun j hj => ?_) (Nat.le_refl _) (fun r hr => (List.mem_range'_1.1 hr).1)
 ·simp [Sto.add_grid_Grid, Sto.addr]
 ·simp [Sto.add_grid_Grid, Sto.addr]
 ·simp only [Sto.add_grid_Grid, Sto.addr]; exact List.getElem?_append_left hj
 ·simp only [Sto.add_grid_Grid, Sto.addr]; exact List.getElem?_append_left hj
theorem Gw.addp (h : Gw s g ks W) (x : G_place_Pen) : Gw (s.add_place_Pen x) g ks W := ⟨h.g, h.r, h.h1, h.h2, h.w1, h.w2⟩
theorem place_new (n m : Int) : ∃ s' ks, f_place_New s n m = some (s', some s.place_Pen.length) ∧ Pv s s' s.place_Pen.length s.grid_Grid.length (sd n) ⟨bls (sd n) (sd m), ⟨0, 0, false⟩, true⟩ ks := by
 have h1 := sd_in n
 have h2 := sd_in m
 have hb : (bls (sd n) (sd m)).length = sd m := by simp [bls]
 have h0 : ((bls (sd n) (sd m))[0]'(by omega)).Cells.length = sd n := by simp [bls]
 obtain ⟨g1, g2⟩ := gw_of (s := s) (L := bls (sd n) (sd m)) (by omega) (by omega) (bls_ok h1.1 h1.2 h2.1)
 rw [h0] at g1
 rw [hb] at g1 g2
 unfold f_place_New
 rw [grid_new]
 refine ⟨_, _, rfl, ⟨?_, g1.addp _, ?_, ?_, rfl, (Fr.of_grid _ _ rfl).addp _⟩⟩
 ·simp [Sto.add_place_Pen, Sto.add_grid_Grid, Sto.addr]
 ·exact List.nodup_range'
 ·exact g2
def sil (r : Int) : Bool := (decide (0 ≤ r) && decide (r < 32)) || (decide (127 ≤ r) && decide (r ≤ 159))
theorem silent (r : Int) : f_basew_Silent r = some (sil r) := by
 simp only [f_basew_Silent, andE_some, orE_some, bsm, sil, ge_iff_le]
theorem ref_silent (r : Int) : f_linotyperef18_Silent r = some (sil r) := by
 simp only [f_linotyperef18_Silent, andE_some, orE_some, bsm, sil, ge_iff_le, Option.some.injEq]
 rw [Bool.eq_iff_iff]
 simp
 omega
theorem ref_do_id (r : Int) (h : r ≠ 13 ∧ r ≠ 10 ∧ r ≠ 8) : f_linotyperef36_Do q r = some (q, sil r) := by
 unfold f_linotyperef36_Do
 rw [if_neg (by simpa using h.1)]
 simp only [bsm]
 rw [if_neg (by simpa using h.2.1)]
 simp only [bsm]
 rw [if_neg (by simpa using h.2.2)]
 simp only [bsm]
 rw [ref_silent]
 rfl
theorem ctrl_eq (h : Pv C s k g W q ks) (r : Int) : ∃ s' q' ks', f_ctrl_Do s (some k) r = some (s', sil r) ∧ f_linotyperef36_Do q r = some (q', sil r) ∧ Pv C s' k g W q' ks' ∧ ks'.length = ks.length ∧ (Hd q.At W ks.length → Hd q'.At W ks.length) := by
 have w1 := h.g.w1
 have w2 := h.g.w2
 unfold f_ctrl_Do
 rw [silent]
 simp only [bsm, Option.isNone_some, orE_false, h.p]
 by_cases hs : sil r = true
 ·rw [hs]
  simp only [Bool.not_true, Bool.false_eq_true, if_false]
  rw [grid_wide h.g, grid_high h.g]
  simp only [bsm]
  rw [cur_hold _ h.g.w1 h.g.w2 h.g.h1 h.g.h2]
  have hd := hc_hd q.At h.g.w1 h.g.h1
  have hh := ref_Hold h
  by_cases h13 : r = 13
  ·subst h13
   simp only [bsm, beq_self_eq_true, if_true, f_cursor_Return]
   rw [set_pen (get_lt h.p)]
   refine ⟨_, _, ks, rfl, ?_, h.set ⟨(hc q.At W ks.length).Row, 0, false⟩ q.Auto, rfl, fun _ => ⟨hd.rr, by simp only; omega, fun e => by cases e⟩⟩
   unfold f_linotyperef36_Do
   rw [hh, ref_silent, hs]
   rfl
  by_cases h10 : r = 10
  ·subst h10
   obtain ⟨s', q', ks', a1, a2, v, hn, hnd, _⟩ := newline_eq h
   simp only [bsm]
   rw [if_neg (by decide), if_pos (by decide), a1]
   refine ⟨s', q', ks', rfl, ?_, v, hn, fun _ => hnd⟩
   unfold f_linotyperef36_Do
   rw [if_neg (by decide)]
   simp only [bsm]
   rw [if_pos (by decide), show (⟨q.L, ⟨q.At.Row, q.At.Col, q.At.Pending⟩, q.Auto⟩ : G_linotyperef34_Pen) = q from rfl, a2]
   simp only [bsm]
   rw [if_neg (by decide), ref_silent, hs]
   rfl
  by_cases h8 : r = 8
  ·subst h8
   have hcc := hd.cc
   have hb : f_cursor_Back (hc q.At W ks.length) = some ⟨(hc q.At W ks.length).Row, max 0 ((hc q.At W ks.length).Col - 1), false⟩ := by
    unfold f_cursor_Back
    by_cases h0 : (hc q.At W ks.length).Col > 0
    ·rw [if_pos (by simpa using h0), w64_in (by omega)]
     simp only [bsm, Option.some.injEq, G_api_Cursor.mk.injEq, true_and, and_true]
     omega
    ·rw [if_neg (by simpa using h0)]
     simp only [bsm, Option.some.injEq, G_api_Cursor.mk.injEq, true_and, and_true]
     omega
   simp only [bsm]
   rw [if_neg (by decide), if_neg (by decide), if_pos (by decide), hb]
   simp only [bsm]
   rw [set_pen (get_lt h.p)]
   refine ⟨_, _, ks, rfl, ?_, h.set ⟨(hc q.At W ks.length).Row, max 0 ((hc q.At W ks.length).Col - 1), false⟩ q.Auto, rfl, fun _ => ⟨hd.rr, by simp only; omega, fun e => by cases e⟩⟩
   unfold f_linotyperef36_Do
   rw [if_neg (by decide)]
   simp only [bsm]
   rw [if_neg (by decide)]
   simp only [bsm]
   rw [if_pos (by decide), show (⟨q.L, ⟨q.At.Row, q.At.Col, q.At.Pending⟩, q.Auto⟩ : G_linotyperef34_Pen) = q from rfl, hh]
   simp only [bsm]
   rw [ref_silent, hs, w64_in (by omega), imax_eq]
   rfl
  ·simp only [bsm]
   rw [if_neg (by simpa using h13), if_neg (by simpa using h10), if_neg (by simpa using h8)]
   exact ⟨s, q, ks, rfl, by rw [ref_do_id r ⟨h13, h10, h8⟩, hs], h, rfl, id⟩
 ·have hf : sil r = false := by simpa using hs
  rw [hf]
  simp only [Bool.not_false, if_true]
  have hn : r ≠ 13 ∧ r ≠ 10 ∧ r ≠ 8 := by
   refine ⟨?_, ?_, ?_⟩ <;> (rintro rfl; revert hf; decide)
  exact ⟨s, q, ks, rfl, by rw [ref_do_id r hn, hf], h, rfl, id⟩
end Go.Proofs.YthokmpbbkpjhbaaGreatDoor
namespace Go.Proofs.YthokmpbbkpjhbaaGreatDoor
open Go Go.Lt
def pj (a b : Int) : Int := (f_pairs_Join a b).getD 0
def clz (a : Int) : Int := if a < 0 ∨ 13 < a then 0 else a
def pjT (i j : Nat) : Bool := match f_pairs_Join i j, f_linotyperef14_Join i j with
 | some x, some y => x == y && (x != 2 || ((i == 6) == (j == 6))) && (x == 0 || !(i == 1 || i == 2 || i == 3 || j == 1 || j == 2 || j == 3) || (i == 1 && j == 2))
 | _, _ => false
theorem pj_all : ((List.range 14).all fun i => (List.range 14).all fun j => pjT i j) = true := by kernel_rfl
theorem clz_nat (a : Int) : ∃ i : Nat, clz a = (i : Int) ∧ i < 14 ∧ (0 < i → a = (i : Int)) := by
 unfold clz
 split
 ·exact ⟨0, rfl, by omega, fun h => by omega⟩
 ·exact ⟨a.toNat, by omega, by omega, fun _ => by omega⟩
theorem pairs_class (a : Int) : f_pairs_class a = some (clz a) := by
 unfold f_pairs_class clz
 simp only [orE_some, bsm]
 by_cases h : a < 0 ∨ 13 < a
 ·rw [if_pos (by simp only [Bool.or_eq_true, decide_eq_true_eq]; omega), if_pos h]
 ·rw [if_neg (by simp only [Bool.or_eq_true, decide_eq_true_eq]; omega), if_neg h]
theorem clz_clz (a : Int) : clz (clz a) = clz a := by
 unfold clz
 repeat' split
 all_goals omega
theorem pairs_clz (a b : Int) : f_pairs_Join a b = f_pairs_Join (clz a) (clz b) := by
 unfold f_pairs_Join
 rw [pairs_class, pairs_class, pairs_class, pairs_class, clz_clz, clz_clz]
theorem ref14_clz (a b : Int) : f_linotyperef14_Join a b = f_linotyperef14_Join (clz a) (clz b) := by
 have h : ∀ (a : Int), ((orE (decide (a < 0)) (some (decide (a > 13)))).bind fun d_6 => if d_6 = true then (some (0) : Option (Int)) else (some (a) : Option (Int))) = some (clz a) := fun a => by
  have := pairs_class a
  unfold f_pairs_class at this
  exact this
 unfold f_linotyperef14_Join
 rw [h, h, h, h, clz_clz, clz_clz]
theorem pj_tab (a b : Int) : ∃ x, f_pairs_Join a b = some x ∧ f_linotyperef14_Join a b = some x ∧ pj a b = x ∧ (x = 2 → (a = 6 ↔ b = 6)) ∧ (x ≠ 0 → (a = 1 ∨ a = 2 ∨ a = 3 ∨ b = 1 ∨ b = 2 ∨ b = 3) → a = 1 ∧ b = 2) := by
 obtain ⟨i, hi, i14, i0⟩ := clz_nat a
 obtain ⟨j, hj, j14, j0⟩ := clz_nat b
 have h := List.all_eq_true.1 (List.all_eq_true.1 pj_all i (List.mem_range.2 i14)) j (List.mem_range.2 j14)
 have ia : ∀ n : Nat, 0 < n → n < 14 → (a = (n : Int) ↔ i = n) := fun n h0 h1 => by
  constructor
  ·intro e
   unfold clz at hi
   split at hi <;> omega
  ·intro e; subst e; exact i0 h0
 have jb : ∀ n : Nat, 0 < n → n < 14 → (b = (n : Int) ↔ j = n) := fun n h0 h1 => by
  constructor
  ·intro e
   unfold clz at hj
   split at hj <;> omega
  ·intro e; subst e; exact j0 h0
 have a1 := ia 1 (by omega) (by omega)
 have a2 := ia 2 (by omega) (by omega)
 have a3 := ia 3 (by omega) (by omega)
 have a6 := ia 6 (by omega) (by omega)
 have b1 := jb 1 (by omega) (by omega)
 have b2 := jb 2 (by omega) (by omega)
 have b3 := jb 3 (by omega) (by omega)
 have b6 := jb 6 (by omega) (by omega)
 unfold pj
 rw [pairs_clz, ref14_clz, hi, hj]
 unfold pjT at h
 split at h
 ·rename_i x y e1 e2
  simp only [Bool.and_eq_true, Bool.or_eq_true, beq_iff_eq, bne_iff_ne, ne_eq, Bool.not_eq_true', Bool.or_eq_false_iff, beq_eq_false_iff_ne] at h
  obtain ⟨⟨hxy, h2⟩, h3⟩ := h
  subst hxy
  refine ⟨x, e1, e2, by rw [e1]; rfl, fun hx => ?_, fun hx hc => ?_⟩
  ·rcases h2 with q | q
   ·exact absurd hx q
   ·have q1 : (i == 6) = (j == 6) := q
    rw [Bool.eq_iff_iff, beq_iff_eq, beq_iff_eq] at q1
    omega
  ·rcases h3 with (q | q) | q
   ·exact absurd q hx
   ·exfalso
    omega
   ·omega
 ·cases h
theorem pj_join (a b : Int) : f_pairs_Join a b = some (pj a b) := by
 obtain ⟨x, h1, _, h3, _⟩ := pj_tab a b
 rw [h1, h3]
def sgB (s : Sg) : G_seg_State := ⟨s.some, s.last, s.pict, s.conj, s.odd⟩
theorem seg_step (s : Sg) (p : G_api_Prop) : f_seg_State_Step__feed_Feeder_6 (sgB s) p = some (sgB (sgN s p), sgJ pj s p) := by
 have hj : f_seg_State_joins__feed_Feeder_6 (sgB s) p = some (sgJ pj s p) := by
  unfold f_seg_State_joins__feed_Feeder_6 sgB sgJ
  simp only [andE_some, bsm, pj_join]
  cases s.some with
  | false => rfl
  | true =>
   simp only [Bool.not_true, Bool.false_eq_true, if_false, Bool.true_and]
   cases h1 : (p.Conj == 1 && s.conj == 2) with
   | true => rfl
   | false =>
    simp only [Bool.false_eq_true, if_false, bsm, Bool.false_or]
    cases h2 : (p.Pict && s.pict == 2) with
    | true => rfl
    | false =>
     simp only [Bool.false_eq_true, if_false, Bool.false_or]
     by_cases h3 : pj s.last p.Break = 1
     ·rw [if_pos (by simpa using h3), h3]
      rfl
     ·rw [if_neg (by simpa using h3), show (pj s.last p.Break == 1) = false by simpa using h3, Bool.false_or]
      by_cases h4 : pj s.last p.Break = 2
      ·rw [if_pos (by simpa using h4), h4]
       rfl
      ·rw [if_neg (by simpa using h4), show (pj s.last p.Break == 2) = false by simpa using h4]
       rfl
 have hp : f_seg_State_picture__feed_Feeder_6 (sgB s) p = some (nxP s.pict p) := by
  unfold f_seg_State_picture__feed_Feeder_6 sgB nxP
  simp only [andE_some, bsm]
  by_cases h1 : p.Pict = true
  ·rw [if_pos h1, if_pos h1]
  ·rw [if_neg h1, if_neg h1]
   by_cases h2 : s.pict = 1 ∧ p.Break = 4
   ·rw [if_pos (by simpa using h2), if_pos h2]
   ·rw [if_neg (by simpa using h2), if_neg h2]
    by_cases h3 : s.pict = 1 ∧ p.Break = 5
    ·rw [if_pos (by simpa using h3), if_pos h3]
    ·rw [if_neg (by simpa using h3), if_neg h3]
 have hc : f_seg_State_conjunct__feed_Feeder_6 (sgB s) p = some (nxC s.conj p) := by
  unfold f_seg_State_conjunct__feed_Feeder_6 sgB nxC
  simp only [beq_iff_eq]
  repeat' split
  all_goals rfl
 unfold f_seg_State_Step__feed_Feeder_6
 simp only [Bool.false_eq_true, if_false]
 rw [hj, hp, hc]
 simp only [bsm, andE_some]
 rfl
theorem seg_reset (d : G_seg_State) : f_seg_State_Reset__feed_Feeder_6 d = some (sgB sg0) := rfl
def silT (n : Nat) : Bool := !sil n || (((pr n).Break == 1 || (pr n).Break == 2 || (pr n).Break == 3) && !(pr n).Pict && (pr n).Conj == 0)
theorem sil_all : (List.range 160).all silT = true := by kernel_rfl
theorem gT_sil : gT.all (fun x => !(x.2.2 == 1 || x.2.2 == 2) || (decide (0 ≤ x.1) && decide (x.2.1 ≤ 31))) = true := by kernel_rfl
theorem sil_in {r : Int} (h : sil r = true) : 0 ≤ r ∧ r < 160 := by
 unfold sil at h
 simp only [Bool.or_eq_true, Bool.and_eq_true, decide_eq_true_eq] at h
 omega
theorem silS : Sil pj pr sil := by
 refine ⟨fun r hr => ?_, fun a b ha hne => ?_, fun a b hb hne => ?_, fun r hr => ?_⟩
 ·obtain ⟨h1, h2⟩ := sil_in hr
  have := List.all_eq_true.1 sil_all r.toNat (List.mem_range.2 (by omega))
  unfold silT at this
  rw [Int.toNat_of_nonneg h1, hr] at this
  simp only [Bool.not_true, Bool.false_or, Bool.and_eq_true, Bool.or_eq_true, beq_iff_eq, Bool.not_eq_true'] at this
  obtain ⟨⟨q1, q2⟩, q3⟩ := this
  exact ⟨by rcases q1 with (q | q) | q <;> simp [q], q2, q3⟩
 ·obtain ⟨x, _, _, h3, _, h5⟩ := pj_tab a b
  exact h5 (by omega) (by omega)
 ·obtain ⟨x, _, _, h3, _, h5⟩ := pj_tab a b
  exact h5 (by omega) (by omega)
 ·have e : (pr r).Break = (lk gT r).getD (hcl r) := rfl
  rw [e] at hr
  have hh : hcl r = 9 ∨ hcl r = 10 ∨ hcl r = 11 ∨ hcl r = 0 ∨ hcl r = 12 ∨ hcl r = 13 := by
   unfold hcl
   repeat' split
   all_goals simp
  cases hx : fnd (fun x : Int × Int × Int => x.1) (fun x => x.2.1) gT r with
  | none =>
   unfold lk at hr
   rw [hx] at hr
   simp only [Option.map_none, Option.getD_none] at hr
   omega
  | some x =>
   unfold lk at hr
   rw [hx] at hr
   simp only [Option.map_some, Option.getD_some] at hr
   obtain ⟨m1, m2⟩ := fnd_mem hx
   have := List.all_eq_true.1 gT_sil x m1
   rw [onn_iff] at m2
   simp only [Bool.or_eq_true, Bool.not_eq_true', Bool.or_eq_false_iff, beq_eq_false_iff_ne, Bool.and_eq_true, decide_eq_true_eq] at this
   unfold sil
   simp only [Bool.or_eq_true, Bool.and_eq_true, decide_eq_true_eq]
   omega
def fo {α β : Type} (f : β → α → Option β) : β → List α → Option β
 | b, [] => some b
 | b, a :: l => (f b a).bind fun b' => fo f b' l
theorem fo_app {α β : Type} (f : β → α → Option β) (b : β) (l m : List α) : fo f b (l ++ m) = (fo f b l).bind fun b' => fo f b' m := by
 induction l generalizing b with
 | nil => rfl
 | cons a l ih =>
  show (f b a).bind (fun b' => fo f b' (l ++ m)) = ((f b a).bind fun b' => fo f b' l).bind fun b' => fo f b' m
  rw [Option.bind_assoc]
  congr 1
  funext b'
  exact ih b'
theorem fo_snoc {α β : Type} (f : β → α → Option β) (b : β) (l : List α) (a : α) : fo f b (l ++ [a]) = (fo f b l).bind fun b' => f b' a := by
 rw [fo_app]
 congr 1
 funext b'
 show (f b' a).bind (fun b' => some b') = f b' a
 cases f b' a <;> rfl
def do36 (q : G_linotyperef34_Pen) (r : Int) : Option G_linotyperef34_Pen := (f_linotyperef36_Do q r).map (·.1)
def w16 (c : List Int) : Int := wz (gf (c.take 16) ((c.take 16).map pr))
def layc (q : G_linotyperef34_Pen) (c : List Int) : Option G_linotyperef34_Pen :=
 if sil (c.headD 0) = true then fo do36 q c else (f_linotyperef34_Pen_Put q (w16 c) (c.take 16)).map (·.1)
theorem layc_sil {q : G_linotyperef34_Pen} {a : Int} {t : List Int} (h : sil a = true) : layc q (a :: t) = fo do36 q (a :: t) := by
 unfold layc
 rw [if_pos (show sil ((a :: t).headD 0) = true from h)]
theorem layc_not {q : G_linotyperef34_Pen} {a : Int} {t : List Int} (h : sil a = false) : layc q (a :: t) = (f_linotyperef34_Pen_Put q (w16 (a :: t)) ((a :: t).take 16)).map (·.1) := by
 unfold layc
 rw [if_neg (show ¬ sil ((a :: t).headD 0) = true by rw [List.headD_cons, h]; simp)]
end Go.Proofs.YthokmpbbkpjhbaaGreatDoor
namespace Go.Proofs.YthokmpbbkpjhbaaGreatDoor
def ld (b : Int) : Int := if b < 128 then 1 else if 194 ≤ b ∧ b ≤ 223 then 2 else if 224 ≤ b ∧ b ≤ 239 then 3 else if 240 ≤ b ∧ b ≤ 244 then 4 else 0
def slo (b : Int) : Int := if b = 224 then 160 else if b = 240 then 144 else 128
def shi (b : Int) : Int := if b = 237 then 159 else if b = 244 then 143 else 191
theorem ld_in (b : Int) : 0 ≤ ld b ∧ ld b ≤ 4 := by
 unfold ld
 repeat' split
 all_goals omega
def bg : List Int → Int
 | [a] => ld a
 | [a, b] => if 2 ≤ ld a ∧ slo a ≤ b ∧ b ≤ shi a then ld a else 0
 | [a, b, c] => if 3 ≤ ld a ∧ slo a ≤ b ∧ b ≤ shi a ∧ 128 ≤ c ∧ c ≤ 191 then ld a else 0
 | [a, b, c, d] => if ld a = 4 ∧ slo a ≤ b ∧ b ≤ shi a ∧ 128 ≤ c ∧ c ≤ 191 ∧ 128 ≤ d ∧ d ≤ 191 then 4 else 0
 | _ => 0
def b0 (a : Int) : Int := if ld a = 2 then a - 192 else if ld a = 3 then a - 224 else if ld a = 4 then a - 240 else a
def vl : List Int → Int
 | [] => 0
 | a :: l => l.foldl (fun v x => v * 64 + (x - 128)) (b0 a)
def rs0 (b : Int) : List Int × List Int := if 1 < ld b then ([], [b]) else if ld b = 1 then ([b], []) else ([65533], [])
def rstep (h : List Int) (b : Int) : List Int × List Int :=
 if h = [] then rs0 b else if (h.length : Int) + 1 < bg (h ++ [b]) then ([], h ++ [b]) else if 0 < bg (h ++ [b]) then ([vl (h ++ [b])], []) else (65533 :: (rs0 b).1, (rs0 b).2)
def rfeed : List Int → List Int → List Int × List Int
 | h, [] => ([], h)
 | h, b :: p => ((rstep h b).1 ++ (rfeed (rstep h b).2 p).1, (rfeed (rstep h b).2 p).2)
theorem rfeed_app (h a b : List Int) : rfeed h (a ++ b) = ((rfeed h a).1 ++ (rfeed (rfeed h a).2 b).1, (rfeed (rfeed h a).2 b).2) := by
 induction a generalizing h with
 | nil => simp [rfeed]
 | cons x a ih => simp [rfeed, ih]
theorem rfeed_snoc (h a : List Int) (x : Int) : rfeed h (a ++ [x]) = ((rfeed h a).1 ++ (rstep (rfeed h a).2 x).1, (rstep (rfeed h a).2 x).2) := by
 rw [rfeed_app]
 simp [rfeed]
def Hh (h : List Int) : Prop := h = [] ∨ (h.length : Int) < bg h
theorem Hh.len {h : List Int} (hh : Hh h) : h.length ≤ 3 := by
 rcases hh with rfl | hh
 ·simp
 ·match h, hh with
  | [], _ => simp
  | [_], _ => simp
  | [_, _], _ => simp
  | [_, _, _], _ => simp
  | [a, b, c, d], q => simp only [bg, List.length_cons, List.length_nil] at q; split at q <;> omega
  | _ :: _ :: _ :: _ :: _ :: _, q => simp only [bg, List.length_cons] at q; omega
end Go.Proofs.YthokmpbbkpjhbaaGreatDoor
namespace Go.Proofs.YthokmpbbkpjhbaaGreatDoor
open Go Go.Lt
def Byt (b : Int) : Prop := 0 ≤ b ∧ b ≤ 255
def Bts (l : List Int) : Prop := ∀ x ∈ l, Byt x
theorem oct_lead {b : Int} (h : Byt b) : f_octet_Lead b = some (ld b) := by
 obtain ⟨h1, h2⟩ := h
 unfold f_octet_Lead ld
 simp only [andE_some, bsm, Bool.and_eq_true, decide_eq_true_eq, ge_iff_le]
 have e1 : w64 (0 + 1) = 1 := rfl
 have e2 : w64 (1 + 1) = 2 := rfl
 have e3 : w64 (2 + 1) = 3 := rfl
 have e4 : w64 (3 + 1) = 4 := rfl
 rw [e1, e2, e3, e4]
 repeat' split
 all_goals first | rfl | omega
theorem oct_second {b : Int} (h : Byt b) (hl : 2 ≤ ld b) : f_octet_Second b = some (slo b, shi b) := by
 unfold f_octet_Second slo shi
 rw [oct_lead h]
 simp only [bsm, beq_iff_eq, decide_eq_true_eq]
 rw [if_neg (by omega)]
 have e1 : IntKind.u8.wrap (IntKind.u8.wrap (191 - 16) - 32) = 143 := by decide
 have e2 : IntKind.u8.wrap (191 - 32) = 159 := by decide
 rw [e1, e2]
 by_cases a1 : b = 224
 ·subst a1; rfl
 by_cases a2 : b = 240
 ·subst a2; rfl
 by_cases a3 : b = 244
 ·subst a3; rfl
 by_cases a4 : b = 237
 ·subst a4; rfl
 rw [if_neg a1, if_neg a2, if_neg a3, if_neg a4, if_neg a1, if_neg a2, if_neg a4, if_neg a3]
 rfl
def bitsOk (n : Nat) : Bool := (f_octet_Bits n == if ld n = 0 then some 0 else some (b0 n))
theorem bits_all : (List.range 256).all bitsOk = true := by kernel_rfl
theorem oct_bits {b : Int} (h : Byt b) (hl : 1 ≤ ld b) : f_octet_Bits b = some (b0 b) := by
 obtain ⟨h1, h2⟩ := h
 have := List.all_eq_true.1 bits_all b.toNat (List.mem_range.2 (by omega))
 unfold bitsOk at this
 rw [beq_iff_eq, Int.toNat_of_nonneg h1, if_neg (by omega)] at this
 exact this
def tailOk (n : Nat) : Bool := (ibAnd .u8 n 63 == if 128 ≤ n ∧ n ≤ 191 then (n : Int) - 128 else ibAnd .u8 n 63)
theorem tail_all : (List.range 256).all tailOk = true := by kernel_rfl
theorem tail_and {b : Int} (h1 : 128 ≤ b) (h2 : b ≤ 191) : ibAnd .u8 b 63 = b - 128 := by
 have := List.all_eq_true.1 tail_all b.toNat (List.mem_range.2 (by omega))
 unfold tailOk at this
 rw [beq_iff_eq, Int.toNat_of_nonneg (by omega), if_pos (by omega)] at this
 exact this
theorem or_add {x y : Nat} (hx : x < 1000000000) (hy : y < 64) : ibOr .i64 ((x : Int) * 64) (y : Int) = ((x * 64 + y : Nat) : Int) := by
 have e1 : BitVec.ofInt 64 ((x : Int) * 64) = BitVec.ofNat 64 (x * 64) := by
  rw [show ((x : Int) * 64) = ((x * 64 : Nat) : Int) by simp, BitVec.ofInt_natCast]
 have e2 : BitVec.ofInt 64 (y : Int) = BitVec.ofNat 64 y := BitVec.ofInt_natCast _ _
 have e3 : (x * 64) ||| y = x * 64 + y := by
  have := Nat.shiftLeft_add_eq_or_of_lt (show y < 2 ^ 6 by omega) x
  rw [Nat.shiftLeft_eq] at this
  exact this.symm
 unfold ibOr
 rw [show IntKind.i64.bits = 64 from rfl, e1, e2, BitVec.toNat_or, BitVec.toNat_ofNat, BitVec.toNat_ofNat, Nat.mod_eq_of_lt (by omega), Nat.mod_eq_of_lt (by omega), e3]
 exact w64_in (by omega)
def Dv (d : G_utfdec_Dec) (h : List Int) : Prop :=
 Hh h ∧ Bts h ∧ d = (match h with | [] => ⟨0, 0, 0, 0, 0⟩ | [a] => ⟨1, ld a - 1, slo a, shi a, b0 a⟩ | a :: b :: t => ⟨(h.length : Int), bg h - (h.length : Int), 128, 191, vl h⟩)
theorem dec_begin {b : Int} (h : Byt b) : ∃ d', f_utfdec_Dec_begin__feed_Feeder_1 ⟨0, 0, 0, 0, 0⟩ b = some (d', (rs0 b).1) ∧ Dv d' (rs0 b).2 := by
 have hb := h
 obtain ⟨h1, h2⟩ := hb
 unfold f_utfdec_Dec_begin__feed_Feeder_1 rs0
 rw [oct_lead h]
 simp only [bsm, beq_iff_eq]
 have hin := ld_in b
 by_cases e0 : ld b = 0
 ·rw [if_pos e0, if_neg (by omega), if_neg (by omega)]
  exact ⟨_, rfl, .inl rfl, fun x hx => by simp at hx, rfl⟩
 ·rw [if_neg e0]
  by_cases e1 : ld b = 1
  ·rw [if_pos e1, if_neg (by omega), if_pos e1, w32_in (by omega)]
   exact ⟨_, rfl, .inl rfl, fun x hx => by simp at hx, rfl⟩
  ·rw [if_neg e1, if_pos (by omega), oct_bits h (by omega), oct_second h (by omega)]
   simp only [bsm]
   rw [w64_in (by omega)]
   refine ⟨_, rfl, .inr ?_, fun x hx => ?_, rfl⟩
   ·simp only [List.length_cons, List.length_nil, bg]; omega
   ·rw [List.mem_singleton.1 hx]; exact h
theorem vl_snoc {h : List Int} (hne : h ≠ []) (b : Int) : vl (h ++ [b]) = vl h * 64 + (b - 128) := by
 cases h with
 | nil => exact absurd rfl hne
 | cons a t => simp [vl, List.foldl_append]
theorem b0_in {a : Int} (h : Byt a) (hl : 2 ≤ ld a) : 0 ≤ b0 a ∧ b0 a ≤ 31 := by
 obtain ⟨h1, h2⟩ := h
 unfold b0
 unfold ld at hl
 unfold ld
 repeat' split at hl
 all_goals (repeat' split)
 all_goals omega
theorem vl_in {h : List Int} (hh : Hh h) (hb : Bts h) (hne : h ≠ []) : 0 ≤ vl h ∧ vl h ≤ 131071 := by
 rcases hh with rfl | hh
 ·exact absurd rfl hne
 ·match h, hh with
  | [], _ => exact absurd rfl hne
  | [a], q =>
   have ha := hb a (by simp)
   simp only [bg, List.length_cons, List.length_nil] at q
   have := b0_in ha (by omega)
   simp only [vl, List.foldl]
   omega
  | [a, b], q =>
   have ha := hb a (by simp)
   simp only [bg, List.length_cons, List.length_nil] at q
   split at q
   ·rename_i g
    have := b0_in ha (by omega)
    have hs : 128 ≤ b ∧ b ≤ 191 := by
     have := g.2
     unfold slo shi at this
     repeat' split at this
     all_goals omega
    simp only [vl, List.foldl]
    omega
   ·omega
  | [a, b, c], q =>
   have ha := hb a (by simp)
   simp only [bg, List.length_cons, List.length_nil] at q
   split at q
   ·rename_i g
    have := b0_in ha (by omega)
    have hs : 128 ≤ b ∧ b ≤ 191 := by
     have := g.2
     unfold slo shi at this
     repeat' split at this
     all_goals omega
    simp only [vl, List.foldl]
    omega
   ·omega
  | [a, b, c, d], q => simp only [bg, List.length_cons, List.length_nil] at q; split at q <;> omega
  | _ :: _ :: _ :: _ :: _ :: _, q => simp only [bg, List.length_cons] at q; omega
theorem more_iff {h : List Int} (hh : (h.length : Int) < bg h) (hne : h ≠ []) (b : Int) : ∃ lo hi, (match h with | [a] => (slo a, shi a) | _ => (128, 191)) = (lo, hi) ∧ 128 ≤ lo ∧ hi ≤ 191 ∧
  ((lo ≤ b ∧ b ≤ hi) → bg (h ++ [b]) = bg h) ∧ (¬ (lo ≤ b ∧ b ≤ hi) → bg (h ++ [b]) = 0) := by
 match h, hh with
 | [], _ => exact absurd rfl hne
 | [a], q =>
  simp only [bg, List.length_cons, List.length_nil] at q
  refine ⟨slo a, shi a, rfl, by unfold slo; repeat' split; all_goals omega, by unfold shi; repeat' split; all_goals omega, fun g => ?_, fun g => ?_⟩
  ·simp only [List.cons_append, List.nil_append, bg]
   rw [if_pos ⟨by omega, g.1, g.2⟩]
  ·simp only [List.cons_append, List.nil_append, bg]
   rw [if_neg (fun c => g c.2)]
 | [a, c], q =>
  simp only [bg, List.length_cons, List.length_nil] at q
  refine ⟨128, 191, rfl, by omega, by omega, fun g => ?_, fun g => ?_⟩
  ·simp only [List.cons_append, List.nil_append, bg]
   split at q
   ·rename_i r
    rw [if_pos ⟨by omega, r.2.1, r.2.2, g.1, g.2⟩, if_pos r]
   ·omega
  ·simp only [List.cons_append, List.nil_append, bg]
   rw [if_neg (fun r => g r.2.2.2)]
 | [a, c, d], q =>
  have hl := ld_in a
  simp only [bg, List.length_cons, List.length_nil] at q
  refine ⟨128, 191, rfl, by omega, by omega, fun g => ?_, fun g => ?_⟩
  ·simp only [List.cons_append, List.nil_append, bg]
   split at q
   ·rename_i r
    rw [if_pos ⟨by omega, r.2.1, r.2.2.1, r.2.2.2.1, r.2.2.2.2, g.1, g.2⟩, if_pos r]
    omega
   ·omega
  ·simp only [List.cons_append, List.nil_append, bg]
   rw [if_neg (fun r => g r.2.2.2.2.2)]
 | [a, b, c, d], q => simp only [bg, List.length_cons, List.length_nil] at q; split at q <;> omega
 | _ :: _ :: _ :: _ :: _ :: _, q => simp only [bg, List.length_cons] at q; omega
theorem Dv.shape {d : G_utfdec_Dec} {h : List Int} (v : Dv d h) (hne : h ≠ []) : ∃ lo hi, (match h with | [a] => (slo a, shi a) | _ => (128, 191)) = (lo, hi) ∧ d = ⟨(h.length : Int), bg h - (h.length : Int), lo, hi, vl h⟩ := by
 obtain ⟨_, _, e⟩ := v
 match h, e with
 | [], _ => exact absurd rfl hne
 | [a], e => exact ⟨_, _, rfl, e⟩
 | a :: b :: t, e => exact ⟨_, _, rfl, e⟩
theorem dec_step {d : G_utfdec_Dec} {h : List Int} (v : Dv d h) {b : Int} (hb : Byt b) : ∃ d', f_utfdec_Dec_Step__feed_Feeder_1 d b = some (d', (rstep h b).1) ∧ Dv d' (rstep h b).2 := by
 have v0 := v
 obtain ⟨hh, hbs, e⟩ := v
 unfold f_utfdec_Dec_Step__feed_Feeder_1 rstep
 simp only [Bool.false_eq_true, if_false]
 by_cases hne : h = []
 ·subst hne
  simp only at e
  subst e
  obtain ⟨d', a1, a2⟩ := dec_begin hb
  simp only [beq_self_eq_true, eq_self, if_true, a1, bsm]
  exact ⟨d', rfl, a2⟩
 ·obtain ⟨lo, hi, e1, e2⟩ := v0.shape hne
  have hlt : (h.length : Int) < bg h := by
   rcases hh with q | q
   ·exact absurd q hne
   ·exact q
  obtain ⟨lo', hi', f1, f2, f3, f4, f5⟩ := more_iff hlt hne b
  rw [e1] at f1
  cases f1
  subst e2
  have hlen : 0 < h.length := by
   cases h with
   | nil => exact absurd rfl hne
   | cons _ _ => simp
  have hl3 := hh.len
  rw [if_neg hne]
  simp only [beq_iff_eq]
  rw [if_neg (by omega)]
  simp only [orE_some, bsm, Bool.or_eq_true, decide_eq_true_eq, gt_iff_lt]
  by_cases hr : lo ≤ b ∧ b ≤ hi
  ·have hbg := f4 hr
   have hvl := vl_in hh hbs hne
   have hbgl : bg h ≤ 4 := by
    match h, hlen with
    | [a], _ => simp only [bg]; exact (ld_in a).2
    | [a, b], _ => simp only [bg]; split <;> first | exact (ld_in a).2 | omega
    | [a, b, c], _ => simp only [bg]; split <;> first | exact (ld_in a).2 | omega
    | a :: b :: c :: x :: t, _ => simp at hl3
   have hbits : ibOr .i64 (w64 (vl h * 2 ^ 6)) (w64 (ibAnd .u8 b 63)) = vl h * 64 + (b - 128) := by
    obtain ⟨x, hx⟩ : ∃ x : Nat, vl h = (x : Int) := ⟨(vl h).toNat, by omega⟩
    obtain ⟨y, hy⟩ : ∃ y : Nat, b - 128 = (y : Int) := ⟨(b - 128).toNat, by omega⟩
    rw [tail_and (by omega) (by omega), hx, hy, show ((x : Int) * 2 ^ 6) = (x : Int) * 64 from rfl, w64_in (by omega), w64_in (by omega), or_add (by omega) (by omega)]
    simp
   have hbs' : Bts (h ++ [b]) := fun x hx => by
    rcases List.mem_append.1 hx with hx | hx
    ·exact hbs x hx
    ·rw [List.mem_singleton.1 hx]; exact hb
   have hsn := vl_snoc hne b
   rw [if_neg (by omega), w64_in (by omega), w64_in (by omega), hbits, ← hsn]
   by_cases hm : (h.length : Int) + 1 < bg h
   ·rw [if_pos (by omega), if_pos (by rw [hbg]; omega)]
    refine ⟨_, rfl, .inr (by rw [hbg]; simp; omega), hbs', ?_⟩
    simp only [hbg]
    match h, hlen with
    | a :: t, _ =>
     cases t with
     | nil => simp only [List.cons_append, List.nil_append, List.length_cons, List.length_nil, G_utfdec_Dec.mk.injEq, and_true, true_and]; omega
     | cons b2 t => simp only [List.cons_append, List.length_cons, List.length_append, List.length_nil, G_utfdec_Dec.mk.injEq, and_true, true_and]; omega
   ·rw [if_neg (by omega), if_neg (by rw [hbg]; omega), if_pos (by rw [hbg]; omega), w32_in (by rw [hsn]; omega)]
    exact ⟨_, rfl, .inl rfl, fun x hx => by simp at hx, rfl⟩
  ·have hz := f5 hr
   rw [if_pos (by omega), if_neg (by rw [hz]; omega), if_neg (by rw [hz]; omega)]
   have hfl : f_utfdec_Dec_Flush__feed_Feeder_1 ⟨(h.length : Int), bg h - (h.length : Int), lo, hi, vl h⟩ = some (⟨0, 0, 0, 0, 0⟩, [65533]) := by
    unfold f_utfdec_Dec_Flush__feed_Feeder_1 f_utfdec_Dec_Held__feed_Feeder_1
    simp only [Bool.false_eq_true, if_false, bsm, beq_iff_eq]
    rw [if_neg (by omega)]
   rw [hfl]
   simp only [bsm]
   obtain ⟨d', a1, a2⟩ := dec_begin hb
   rw [a1]
   simp only [bsm]
   have hrl : (rs0 b).1.length ≤ 1 := by
    unfold rs0
    split
    ·simp
    ·split <;> simp
   rw [app_eq (by simp; omega)]
   exact ⟨d', rfl, a2⟩
theorem dec_held {d : G_utfdec_Dec} {h : List Int} (v : Dv d h) : f_utfdec_Dec_Held__feed_Feeder_1 d = some (h.length : Int) := by
 unfold f_utfdec_Dec_Held__feed_Feeder_1
 simp only [Bool.false_eq_true, if_false]
 by_cases hne : h = []
 ·subst hne
  obtain ⟨_, _, e⟩ := v
  simp only at e
  rw [e]
  rfl
 ·obtain ⟨lo, hi, _, e⟩ := v.shape hne
  rw [e]
theorem dec_flush {d : G_utfdec_Dec} {h : List Int} (v : Dv d h) : f_utfdec_Dec_Flush__feed_Feeder_1 d = some (⟨0, 0, 0, 0, 0⟩, if h = [] then [] else [65533]) := by
 unfold f_utfdec_Dec_Flush__feed_Feeder_1
 rw [dec_held v]
 simp only [bsm, beq_iff_eq]
 by_cases hne : h = []
 ·subst hne
  obtain ⟨_, _, e⟩ := v
  simp only at e
  rw [if_pos (by simp), if_pos rfl, e]
 ·rw [if_neg (fun e => hne (List.eq_nil_of_length_eq_zero (by omega))), if_neg hne]
theorem Dv.zero : Dv ⟨0, 0, 0, 0, 0⟩ [] := ⟨.inl rfl, fun x hx => by simp at hx, rfl⟩
def fr (n : Nat) : Int := if n = 2 then 128 else if n = 3 then 2048 else if n = 4 then 65536 else 0
theorem ld_cases (a : Int) : (ld a = 1 ∧ a < 128) ∨ (ld a = 2 ∧ 194 ≤ a ∧ a ≤ 223) ∨ (ld a = 3 ∧ 224 ≤ a ∧ a ≤ 239) ∨ (ld a = 4 ∧ 240 ≤ a ∧ a ≤ 244) ∨ (ld a = 0 ∧ 128 ≤ a ∧ ¬ (194 ≤ a ∧ a ≤ 244)) := by
 unfold ld
 repeat' split
 all_goals omega
theorem bg_ge {p : List Int} (h : 0 < bg p) : (p.length : Int) ≤ bg p := by
 match p, h with
 | [], h => simp [bg] at h
 | [a], h => simp only [bg, List.length_cons, List.length_nil] at h ⊢; omega
 | [a, b], h => simp only [bg, List.length_cons, List.length_nil] at h ⊢; split at h <;> rename_i g; rw [if_pos g]; omega; omega
 | [a, b, c], h => simp only [bg, List.length_cons, List.length_nil] at h ⊢; split at h <;> rename_i g; rw [if_pos g]; omega; omega
 | [a, b, c, d], h => simp only [bg, List.length_cons, List.length_nil] at h ⊢; split at h <;> rename_i g; rw [if_pos g]; omega; omega
 | _ :: _ :: _ :: _ :: _ :: _, h => simp [bg] at h
theorem bg_le (p : List Int) : 0 ≤ bg p ∧ bg p ≤ 4 := by
 match p with
 | [] => simp [bg]
 | [a] => exact ld_in a
 | [a, b] => simp only [bg]; split <;> first | exact ld_in a | omega
 | [a, b, c] => simp only [bg]; split <;> first | exact ld_in a | omega
 | [a, b, c, d] => simp only [bg]; split <;> omega
 | _ :: _ :: _ :: _ :: _ :: _ => simp [bg]
theorem Bts.snoc {h : List Int} (hb : Bts h) {b : Int} (h1 : Byt b) : Bts (h ++ [b]) := fun x hx => by
 rcases List.mem_append.1 hx with hx | hx
 ·exact hb x hx
 ·rw [List.mem_singleton.1 hx]; exact h1
theorem rstep_len (h : List Int) (b : Int) : (rstep h b).1.length ≤ 2 := by
 have hrl : (rs0 b).1.length ≤ 1 := by
  unfold rs0
  split
  ·simp
  ·split <;> simp
 unfold rstep
 split
 ·omega
 ·split
  ·simp
  ·split
   ·simp
   ·simp; omega
theorem rstep_bts {h : List Int} (hb : Bts h) {b : Int} (h1 : Byt b) : Bts (rstep h b).2 := by
 have h0 : Bts (rs0 b).2 := by
  unfold rs0
  split
  ·intro x hx; rw [List.mem_singleton.1 hx]; exact h1
  ·split <;> (intro x hx; simp at hx)
 unfold rstep
 split
 ·exact h0
 ·split
  ·exact hb.snoc h1
  ·split
   ·intro x hx; simp at hx
   ·exact h0
theorem rfeed_bts {h p : List Int} (hb : Bts h) (hp : Bts p) : Bts (rfeed h p).2 := by
 induction p generalizing h with
 | nil => exact hb
 | cons b p ih => exact ih (rstep_bts hb (hp b (by simp))) (fun x hx => hp x (List.mem_cons_of_mem _ hx))
theorem Bts.nil : Bts [] := fun x hx => by simp at hx
end Go.Proofs.YthokmpbbkpjhbaaGreatDoor
namespace Go.Proofs.YthokmpbbkpjhbaaGreatDoor
open Go Go.Lt
variable {s C : Sto} {f k g W H : Nat} {q P : G_linotyperef34_Pen} {ks : List Nat}
def Sto.sf (s : Sto) (f : Nat) (x : G_feed_Feeder) : Sto := { s with feed_Feeder := s.feed_Feeder.set f x }
theorem set_fd {x : G_feed_Feeder} (h : f < s.feed_Feeder.length) : s.set_feed_Feeder f x = some (s.sf f x) := by
 unfold Sto.set_feed_Feeder
 rw [if_pos h]
 rfl
theorem sf_get {x : G_feed_Feeder} (h : f < s.feed_Feeder.length) : (s.sf f x).feed_Feeder[f]? = some x := by simp [Sto.sf, h]
theorem sf_sf (s : Sto) (f : Nat) (x y : G_feed_Feeder) : (s.sf f x).sf f y = s.sf f y := by simp [Sto.sf]
theorem sf_len (s : Sto) (f : Nat) (x : G_feed_Feeder) : (s.sf f x).feed_Feeder.length = s.feed_Feeder.length := by simp [Sto.sf]
theorem Pv.sf (h : Pv s s k g W q ks) (x : G_feed_Feeder) : Pv (s.sf f x) (s.sf f x) k g W q ks :=
 ⟨h.p, ⟨h.g.g, h.g.r, h.g.h1, h.g.h2, h.g.w1, h.g.w2⟩, h.nd, h.l, rfl, h.f.rgp ⟨rfl, rfl, rfl⟩ ⟨rfl, rfl, rfl⟩⟩
theorem Wc.sf {j : Nat} {c : G_api_Cursor} {y : G_cwidth_Gauge} {t : List Int} {n : Int} (h : Wc s j c y t n) (x : G_feed_Feeder) : Wc (s.sf f x) j c y t n := ⟨h.x⟩
def ownC (C : Sto) (f j : Nat) : Prop := ∃ x, C.feed_Feeder[f]? = some x ∧ x.open_ = some j
structure Fz (C s : Sto) (f : Nat) (op : Option Nat) : Prop where
 fl : C.feed_Feeder.length ≤ s.feed_Feeder.length
 ff : ∀ j, j < C.feed_Feeder.length → j ≠ f → s.feed_Feeder[j]? = C.feed_Feeder[j]?
 wl : C.widen_Cluster.length ≤ s.widen_Cluster.length
 wc : ∀ j, j < C.widen_Cluster.length → ¬ ownC C f j → s.widen_Cluster[j]? = C.widen_Cluster[j]?
 oc : ∀ j, op = some j → ownC C f j ∨ C.widen_Cluster.length ≤ j
 sc : s.screen_Screen = C.screen_Screen
theorem oth_fd {a b : Sto} (h : a.oth = b.oth) : a.feed_Feeder = b.feed_Feeder := by
 have := congrArg Sto.feed_Feeder h
 exact this
theorem oth_sc {a b : Sto} (h : a.oth = b.oth) : a.screen_Screen = b.screen_Screen := by
 have := congrArg Sto.screen_Screen h
 exact this
theorem Fz.oth {s' : Sto} {op : Option Nat} (h : Fz C s f op) (e : s'.oth = s.oth) : Fz C s' f op := by
 refine ⟨by rw [oth_fd e]; exact h.fl, by rw [oth_fd e]; exact h.ff, by rw [oth_cl e]; exact h.wl, by rw [oth_cl e]; exact h.wc, h.oc, by rw [oth_sc e]; exact h.sc⟩
theorem Fz.sf {op : Option Nat} (h : Fz C s f op) (x : G_feed_Feeder) (op' : Option Nat) (ho : ∀ j, op' = some j → ownC C f j ∨ C.widen_Cluster.length ≤ j) : Fz C (s.sf f x) f op' :=
 ⟨by rw [sf_len]; exact h.fl, fun j a b => by simp only [Sto.sf]; rw [List.getElem?_set_ne (Ne.symm b)]; exact h.ff j a b, h.wl, h.wc, ho, h.sc⟩
theorem Fz.more {op : Option Nat} (h : Fz C s f op) {s' : Sto} {z : G_widen_Cluster} (e : s'.oth = (s.add_widen_Cluster z).oth) : Fz C s' f op := by
 have e1 : s'.feed_Feeder = s.feed_Feeder := (oth_fd e).trans rfl
 have e2 : s'.widen_Cluster = s.widen_Cluster ++ [z] := (oth_cl e).trans rfl
 have e3 : s'.screen_Screen = s.screen_Screen := (oth_sc e).trans rfl
 have hl := h.wl
 exact ⟨by rw [e1]; exact h.fl, by rw [e1]; exact h.ff, by rw [e2, List.length_append]; omega, fun j a b => by rw [e2, List.getElem?_append_left (by omega)]; exact h.wc j a b, h.oc, by rw [e3]; exact h.sc⟩
theorem Fz.grow {j : Nat} (h : Fz C s f (some j)) {s' : Sto} {z : G_widen_Cluster} (e : s'.oth = (s.sc j z).oth) : Fz C s' f (some j) := by
 have e1 : s'.feed_Feeder = s.feed_Feeder := (oth_fd e).trans rfl
 have e2 : s'.widen_Cluster = s.widen_Cluster.set j z := (oth_cl e).trans rfl
 have e3 : s'.screen_Screen = s.screen_Screen := (oth_sc e).trans rfl
 refine ⟨by rw [e1]; exact h.fl, by rw [e1]; exact h.ff, by rw [e2, List.length_set]; exact h.wl, fun i a b => ?_, h.oc, by rw [e3]; exact h.sc⟩
 rw [e2, List.getElem?_set_ne ?_]
 ·exact h.wc i a b
 ·rintro rfl
  rcases h.oc j rfl with q | q
  ·exact b q
  ·omega
def lsil (G : List Int) : Bool := match G.getLast? with | none => true | some x => sil x
theorem lsil_snoc (G : List Int) (r : Int) : lsil (G ++ [r]) = sil r := by simp [lsil]
def sgOf (G : List Int) : Sg := if lsil G = true then sg0 else sgF (G.map pr)
structure Op (s : Sto) (k g W H : Nat) (P : G_linotyperef34_Pen) (G : List Int) (q : G_linotyperef34_Pen) (j : Nat) : Prop where
 x : ∃ q0 c C0 s0 ks0 cs0 cl, cls pj pr G = cs0 ++ [cl] ∧ cl ≠ [] ∧ sil (cl.headD 0) = false ∧ fo layc P cs0 = some q0 ∧ Pv C0 s0 k g W q0 ks0 ∧ ks0.length = H ∧
  Wc s j c (gf (cl.take 16) ((cl.take 16).map pr)) (cl.take 16) (w16 cl) ∧ f_linotyperef34_Pen_Put q0 (w16 cl) (cl.take 16) = some (q, c)
structure Fd (C s : Sto) (f k g W H : Nat) (P : G_linotyperef34_Pen) (G h : List Int) (q : G_linotyperef34_Pen) (ks : List Nat) (op : Option Nat) : Prop where
 v : Pv s s k g W q ks
 fr : Fr C s k g ks
 fz : Fz C s f op
 n : ks.length = H
 hd : Hd q.At W H
 l : fo layc P (cls pj pr G) = some q
 gv : ∀ x ∈ G, vld x = true
 d : ∃ d, s.feed_Feeder[f]? = some ⟨some k, d, sgB (sgOf G), op⟩ ∧ Dv d h
 o1 : lsil G = true → op = none
 o2 : lsil G = false → ∃ j, op = some j ∧ Op s k g W H P G q j
theorem vld_32 {x : Int} (h : vld x = true) : r32 x := by
 unfold vld at h
 unfold r32
 simp only [Bool.and_eq_true, decide_eq_true_eq] at h
 omega
theorem do36_of {q q' : G_linotyperef34_Pen} {r : Int} {b : Bool} (h : f_linotyperef36_Do q r = some (q', b)) : do36 q r = some q' := by
 unfold do36
 rw [h]
 rfl
theorem w16_len (c : List Int) : (c.take 16).length ≤ 16 := by rw [List.length_take]; omega
theorem gf_map_snoc (t : List Int) (r : Int) : gf (t ++ [r]) ((t ++ [r]).map pr) = gz (gf t (t.map pr)) r (pr r) := by
 rw [gf_snoc (by simp) r]
 have e : ((t ++ [r]).map pr).take t.length = t.map pr := by simp
 rw [← gf_take t ((t ++ [r]).map pr) (Nat.le_refl _), e]
 simp
theorem fixv_vld {r : Int} (h : vld r = true) : fixv r = r := by unfold fixv; rw [if_pos h]
theorem put_hd {C s : Sto} {k g W H : Nat} {q0 q : G_linotyperef34_Pen} {ks : List Nat} (h : Pv C s k g W q0 ks) (hn : ks.length = H) {n : Int} {t : List Int} (ht : t.length ≤ 1000000) {c : G_api_Cursor} (hp : f_linotyperef34_Pen_Put q0 n t = some (q, c)) : Hd q.At W H := by
 obtain ⟨s', q', ks', i, a, _, _, a2, _, _, a5, _⟩ := put_eq h n t ht
 rw [hp] at a2
 cases a2
 rw [← hn]
 exact a5
theorem comes_eq {G h : List Int} {op : Option Nat} (F : Fd C s f k g W H P G h q ks op) {r : Int} (hr : vld r = true) : ∃ s' q' ks' op', f_feed_Feeder_comes s (some f) r = some s' ∧ Fd C s' f k g W H P (G ++ [r]) h q' ks' op' := by
 obtain ⟨d, hd, hdv⟩ := F.d
 have hf := get_lt hd
 have hgv : ∀ x ∈ G ++ [r], vld x = true := fun x hx => by
  rcases List.mem_append.1 hx with hx | hx
  ·exact F.gv x hx
  ·rw [List.mem_singleton.1 hx]; exact hr
 have hcs := cls_snoc pj pr G r
 unfold f_feed_Feeder_comes
 rw [silent]
 simp only [bsm]
 cases hs : sil r with
 | true =>
  simp only [if_true]
  unfold f_feed_Feeder_Close
  simp only [Option.isNone_some, Bool.not_false, if_true, bsm, hd]
  rw [set_fd hf]
  simp only [bsm, seg_reset]
  rw [set_fd (by rw [sf_len]; exact hf), sf_sf]
  simp only [bsm]
  rw [sf_get hf]
  simp only [bsm]
  obtain ⟨s', q', ks', a1, a2, a3, hks, hcd⟩ := ctrl_eq (F.v.sf (f := f) ⟨some k, d, sgB sg0, none⟩) r
  rw [a1]
  have hdo := do36_of a2
  have hf1 : Fr C (s.sf f ⟨some k, d, sgB sg0, none⟩) k g ks := F.fr.rgp (Rgp.self _) ⟨rfl, rfl, rfl⟩
  have hv1 := F.v.sf (f := f) ⟨some k, d, sgB sg0, none⟩
  refine ⟨s', q', ks', none, rfl, ⟨a3.self, hf1.trans hv1.oG hv1.oR a3.f, (F.fz.sf ⟨some k, d, sgB sg0, none⟩ none (fun j e => by cases e)).oth a3.o, by rw [hks]; exact F.n, by rw [← F.n]; exact hcd (by rw [F.n]; exact F.hd), ?_, hgv, ⟨d, ?_, hdv⟩, fun _ => rfl, fun e => ?_⟩⟩
  ·
   rw [hcs]
   split
   ·rename_i hj
    obtain ⟨l0, x, rfl, hx⟩ := silS.yes hs hj
    obtain ⟨cs0, c, ec⟩ := snoc_cases ((cls_flat (pj := pj) (pr := pr) (l0 ++ [x])).2.2 (by simp))
    obtain ⟨c', rfl⟩ := cls_last ec
    rw [ec, addL_snoc]
    have hall := silS.all (l0 ++ [x]) (c' ++ [x]) (by rw [ec]; simp)
    have hal : ∀ y ∈ c' ++ [x], sil y = true := by
     rcases hall with q | q
     ·exact q
     ·have := q x (by simp); rw [hx] at this; cases this
    have hl := F.l
    rw [ec, fo_snoc] at hl
    rw [fo_snoc]
    cases hq0 : fo layc P cs0 with
    | none => rw [hq0] at hl; cases hl
    | some q0 =>
     rw [hq0] at hl
     simp only [bsm] at hl ⊢
     obtain ⟨a, t, ea⟩ : ∃ a t, c' ++ [x] = a :: t := by
      cases h : c' ++ [x] with
      | nil => simp at h
      | cons a t => exact ⟨a, t, rfl⟩
     have ha : sil a = true := hal a (by rw [ea]; simp)
     rw [ea, layc_sil ha] at hl
     rw [ea, List.cons_append, layc_sil ha, ← List.cons_append, fo_snoc, hl]
     exact hdo
   ·rw [fo_snoc, F.l]
    simp only [bsm]
    rw [layc_sil hs]
    show (do36 q r).bind (fun b => some b) = _
    rw [hdo]
    rfl
  ·have : sgOf (G ++ [r]) = sg0 := by unfold sgOf; rw [lsil_snoc, if_pos hs]
   rw [this, oth_fd a3.o]
   exact sf_get hf
  ·rw [lsil_snoc, hs] at e
   cases e
 | false =>
  simp only [Bool.false_eq_true, if_false]
  rw [ucd_of r (vld_32 hr)]
  simp only [bsm, hd]
  rw [seg_step]
  simp only [bsm]
  rw [set_fd hf]
  simp only [bsm]
  have hsj : sgJ pj (sgOf G) (pr r) = jn pj pr G r ∧ sgN (sgOf G) (pr r) = sgF ((G ++ [r]).map pr) := by
   unfold sgOf
   rw [List.map_append, List.map_singleton, sgF_snoc]
   cases hL : lsil G with
   | false => simp only [Bool.false_eq_true, if_false]; exact ⟨rfl, trivial⟩
   | true =>
    simp only [if_true]
    by_cases hG : G = []
    ·subst hG; exact ⟨rfl, rfl⟩
    ·obtain ⟨G0, x, rfl⟩ := snoc_cases hG
     rw [lsil_snoc] at hL
     rw [silS.no G0 hL hs, silS.new G0 hL]
     exact ⟨rfl, rfl⟩
  rw [hsj.1, hsj.2]
  have hsg : sgOf (G ++ [r]) = sgF ((G ++ [r]).map pr) := by unfold sgOf; rw [lsil_snoc, hs]; rfl
  rw [← hsg]
  have hv1 := F.v.sf (f := f) ⟨some k, d, sgB (sgOf (G ++ [r])), op⟩
  have hf1 : Fr C (s.sf f ⟨some k, d, sgB (sgOf (G ++ [r])), op⟩) k g ks := F.fr.rgp (Rgp.self _) ⟨rfl, rfl, rfl⟩
  have hz1 := F.fz.sf ⟨some k, d, sgB (sgOf (G ++ [r])), op⟩ op F.fz.oc
  have hg1 : (s.sf f ⟨some k, d, sgB (sgOf (G ++ [r])), op⟩).feed_Feeder[f]? = some ⟨some k, d, sgB (sgOf (G ++ [r])), op⟩ := sf_get hf
  simp only [andE_some, bsm]
  rw [hg1]
  simp only [bsm]
  have hfix := fixv_vld hr
  cases hj : jn pj pr G r with
  | true =>
   have hL : lsil G = false := by
    cases hL : lsil G with
    | false => rfl
    | true =>
     obtain ⟨G0, x, rfl⟩ := snoc_cases (jn_ne pj pr hj)
     rw [lsil_snoc] at hL
     rw [silS.no G0 hL hs] at hj
     cases hj
   obtain ⟨j, rfl, ⟨q0, c, C0, s0, ks0, cs0, cl, ec, hcne, hcs0, hq0, hp0, hn0, hw, hput⟩⟩ := F.o2 hL
   simp only [Option.isNone_some, Bool.not_false, Bool.and_self, if_true]
   have hcs2 : cls pj pr (G ++ [r]) = cs0 ++ [cl ++ [r]] := by rw [hcs, if_pos hj, ec, addL_snoc]
   have hclv : ∀ x ∈ cl.take 16, vld x = true := fun x hx => F.gv x (by
    rw [← (cls_flat (pj := pj) (pr := pr) G).1, ec]
    exact List.mem_flatten.2 ⟨cl, by simp, List.mem_of_mem_take hx⟩)
   have hhd : sil ((cl ++ [r]).headD 0) = false := by
    cases cl with
    | nil => exact absurd rfl hcne
    | cons a t => exact hcs0
   have hw16 : w16 cl = wz (gf (cl.take 16) ((cl.take 16).map pr)) := rfl
   rw [hw16] at hw hput
   have on : On C (s.sf f ⟨some k, d, sgB (sgOf (G ++ [r])), some j⟩) k g W H j q0 (gf (cl.take 16) ((cl.take 16).map pr)) (cl.take 16) q c ks := ⟨hv1, hf1, hw.sf _, F.n, hput⟩
   have hlayc : ∀ q2 c2, f_linotyperef34_Pen_Put q0 (w16 (cl ++ [r])) ((cl ++ [r]).take 16) = some (q2, c2) → fo layc P (cls pj pr (G ++ [r])) = some q2 := fun q2 c2 e => by
    rw [hcs2, fo_snoc, hq0]
    simp only [bsm]
    cases hcc : cl ++ [r] with
    | nil => simp at hcc
    | cons a t =>
     rw [hcc] at e hhd
     rw [layc_not (by simpa using hhd), e]
     rfl
   have hlen : cl.length < 16 ∨ 16 ≤ cl.length := by omega
   have hcl1 : 1 ≤ cl.length := by
    cases cl with
    | nil => exact absurd rfl hcne
    | cons _ _ => simp
   rcases hlen with hlt | hge
   ·have et : cl.take 16 = cl := List.take_of_length_le (by omega)
    have et2 : (cl ++ [r]).take 16 = cl ++ [r] := List.take_of_length_le (by simp; omega)
    rw [et] at on hclv
    obtain ⟨s', q', c', ks', b1, b2, z, b3⟩ := join_eq hp0 hn0 on hcl1 hlt hclv r (pr r)
    rw [b1]
    simp only [bsm]
    rw [hfix, ← gf_map_snoc] at b2
    have hw2 : w16 (cl ++ [r]) = wz (gf (cl ++ [r]) ((cl ++ [r]).map pr)) := by unfold w16; rw [et2]
    refine ⟨s', q', ks', some j, rfl, ⟨b2.v, b2.f, hz1.grow b3, b2.n, put_hd hp0 hn0 (w16_len cl |> fun _ => by simp; omega) b2.p, hlayc q' c' (by rw [hw2, et2]; exact b2.p), hgv, ⟨d, ?_, hdv⟩, fun e => ?_, fun _ => ⟨j, rfl, ⟨q0, c', C0, s0, ks0, cs0, cl ++ [r], hcs2, by simp, hhd, hq0, hp0, hn0, ?_, by rw [hw2, et2]; exact b2.p⟩⟩⟩⟩
    ·rw [show s'.feed_Feeder = (s.sf f ⟨some k, d, sgB (sgOf (G ++ [r])), some j⟩).feed_Feeder from (oth_fd b3).trans rfl]
     exact hg1
    ·rw [lsil_snoc, hs] at e; cases e
    ·rw [hw2, et2]
     exact b2.w
   ·have hfl : (cl.take 16).length = 16 := by rw [List.length_take]; omega
    have et2 : (cl ++ [r]).take 16 = cl.take 16 := List.take_append_of_le_length hge
    have hw2 : w16 (cl ++ [r]) = w16 cl := by unfold w16; rw [et2]
    rw [join_full on hfl r (pr r)]
    simp only [bsm]
    refine ⟨_, q, ks, some j, rfl, ⟨hv1, hf1, hz1, F.n, F.hd, hlayc q c (by rw [hw2, et2]; exact hput), hgv, ⟨d, hg1, hdv⟩, fun e => ?_, fun _ => ⟨j, rfl, ⟨q0, c, C0, s0, ks0, cs0, cl ++ [r], hcs2, by simp, hhd, hq0, hp0, hn0, ?_, by rw [hw2, et2]; exact hput⟩⟩⟩⟩
    ·rw [lsil_snoc, hs] at e; cases e
    ·rw [hw2, et2]
     exact hw.sf _
  | false =>
   simp only [Bool.false_and, Bool.false_eq_true, if_false]
   obtain ⟨s2, q2, c2, ks2, b1, b2, z, b3⟩ := begin_eq hv1 r (pr r)
   rw [b1]
   simp only [bsm]
   have e1 : s2.feed_Feeder = (s.sf f ⟨some k, d, sgB (sgOf (G ++ [r])), op⟩).feed_Feeder := (oth_fd b3).trans rfl
   rw [e1, hg1]
   simp only [bsm]
   have hf2 : f < s2.feed_Feeder.length := by rw [e1, sf_len]; exact hf
   rw [set_fd hf2]
   rw [hfix] at b2
   have hgf : gz ⟨false, false, false⟩ r (pr r) = gf [r] ([r].map pr) := by
    have := gf_map_snoc [] r
    simp only [List.nil_append] at this
    rw [this]
    rfl
   rw [hgf] at b2
   have hcs2 : cls pj pr (G ++ [r]) = cls pj pr G ++ [[r]] := by rw [hcs, hj]; rfl
   have hlay : fo layc P (cls pj pr (G ++ [r])) = some q2 := by
    rw [hcs2, fo_snoc, F.l]
    simp only [bsm]
    rw [layc_not hs]
    show (f_linotyperef34_Pen_Put q (wz (gf [r] ([r].map pr))) [r]).map (·.1) = some q2
    rw [b2.p]
    rfl
   refine ⟨_, q2, ks2, some (s.sf f ⟨some k, d, sgB (sgOf (G ++ [r])), op⟩).widen_Cluster.length, rfl, ⟨b2.v.sf _, ?_, (hz1.more b3).sf _ _ (fun j e => ?_), b2.n.trans F.n, put_hd F.v F.n (by simp) b2.p, hlay, hgv, ⟨d, sf_get hf2, hdv⟩, fun e => ?_, fun _ => ⟨_, rfl, ⟨q, c2, _, _, ks, cls pj pr G, [r], hcs2, by simp, hs, F.l, F.v, F.n, b2.w.sf _, b2.p⟩⟩⟩⟩
   ·exact (hf1.trans hv1.oG hv1.oR b2.f).rgp (Rgp.self _) ⟨rfl, rfl, rfl⟩
   ·cases e
    exact .inr hz1.wl
   ·rw [lsil_snoc, hs] at e; cases e
end Go.Proofs.YthokmpbbkpjhbaaGreatDoor
namespace Go.Proofs.YthokmpbbkpjhbaaGreatDoor
open Go Go.Lt
variable {s C : Sto} {f k g W H : Nat} {q P : G_linotyperef34_Pen} {ks : List Nat} {op : Option Nat}
theorem vl_vld {p : List Int} (hp : Bts p) (hb : bg p = (p.length : Int)) (hne : p ≠ []) : vld (vl p) = true := by
 have h4 := bg_le p
 unfold vld
 simp only [Bool.and_eq_true, decide_eq_true_eq]
 match p, hne with
 | [a], _ =>
  obtain ⟨a1, a2⟩ := hp a (by simp)
  have hl := ld_cases a
  simp only [bg, List.length_cons, List.length_nil] at hb
  simp only [vl, List.foldl, b0]
  repeat' split
  all_goals simp only [Bool.or_eq_true, decide_eq_true_eq]
  all_goals omega
 | [a, b], _ =>
  obtain ⟨a1, a2⟩ := hp a (by simp)
  have hl := ld_cases a
  simp only [bg, List.length_cons, List.length_nil] at hb
  split at hb
  ·rename_i g
   have hs : 128 ≤ b ∧ b ≤ 191 := by
    have := g.2
    unfold slo shi at this
    repeat' split at this
    all_goals omega
   simp only [vl, List.foldl, b0]
   repeat' split
   all_goals simp only [Bool.or_eq_true, decide_eq_true_eq]
   all_goals omega
  ·omega
 | [a, b, c], _ =>
  obtain ⟨a1, a2⟩ := hp a (by simp)
  have hl := ld_cases a
  simp only [bg, List.length_cons, List.length_nil] at hb
  split at hb
  ·rename_i g
   have hs : 128 ≤ b ∧ b ≤ 191 ∧ (a = 237 → b ≤ 159) := by
    have := g.2
    unfold slo shi at this
    repeat' split at this
    all_goals omega
   simp only [vl, List.foldl, b0]
   repeat' split
   all_goals simp only [Bool.or_eq_true, decide_eq_true_eq]
   all_goals omega
  ·omega
 | [a, b, c, d], _ =>
  obtain ⟨a1, a2⟩ := hp a (by simp)
  have hl := ld_cases a
  simp only [bg, List.length_cons, List.length_nil] at hb
  split at hb
  ·rename_i g
   have hs : 128 ≤ b ∧ b ≤ 191 ∧ (a = 240 → 144 ≤ b) ∧ (a = 244 → b ≤ 143) := by
    have := g.2
    unfold slo shi at this
    repeat' split at this
    all_goals omega
   simp only [vl, List.foldl, b0]
   repeat' split
   all_goals simp only [Bool.or_eq_true, decide_eq_true_eq]
   all_goals omega
  ·omega
 | _ :: _ :: _ :: _ :: _ :: _, _ => simp only [bg, List.length_cons] at hb; omega
theorem rs0_vld {b : Int} (h : Byt b) : ∀ x ∈ (rs0 b).1, vld x = true := fun x hx => by
 obtain ⟨h1, h2⟩ := h
 have hl := ld_cases b
 unfold rs0 at hx
 split at hx
 ·simp at hx
 ·split at hx
  ·rw [List.mem_singleton.1 hx]
   unfold vld
   simp only [Bool.and_eq_true, Bool.or_eq_true, decide_eq_true_eq]
   omega
  ·rw [List.mem_singleton.1 hx]; rfl
theorem rstep_vld {h : List Int} (hb : Bts h) {b : Int} (h1 : Byt b) : ∀ x ∈ (rstep h b).1, vld x = true := fun x hx => by
 unfold rstep at hx
 split at hx
 ·exact rs0_vld h1 x hx
 ·split at hx
  ·simp at hx
  ·split at hx
   ·rename_i g1 g2
    rw [List.mem_singleton.1 hx]
    refine vl_vld (hb.snoc h1) ?_ (by simp)
    have := bg_ge g2
    simp only [List.length_append, List.length_cons, List.length_nil] at this ⊢
    omega
   ·rcases List.mem_cons.1 hx with hx | hx
    ·rw [hx]; rfl
    ·exact rs0_vld h1 x hx
theorem ex4 {α β γ δ : Type} {X : Option α} {Q : α → β → γ → δ → Prop} (h : ∃ a, X = some a ∧ ∃ b c d, Q a b c d) : ∃ a b c d, X = some a ∧ Q a b c d := by
 obtain ⟨a, h1, b, c, d, h2⟩ := h
 exact ⟨a, b, c, d, h1, h2⟩
theorem fall_eq {G h : List Int} (F : Fd C s f k g W H P G h q ks op) {l : List Int} (hl : l.length ≤ 1000000) (hv : ∀ x ∈ l, vld x = true) : ∃ s' q' ks' op', f_feed_Feeder_all s (some f) l = some s' ∧ Fd C s' f k g W H P (G ++ l) h q' ks' op' := by
 unfold f_feed_Feeder_all
 refine ex4 (iter_forE (n := l.length) (fun i (st : Int × Sto) => st.1 = (i : Int) ∧ ∃ q' ks' op', Fd C st.2 f k g W H P (G ++ l.take i) h q' ks' op') (fun u : Sto => ∃ q' ks' op', Fd C u f k g W H P (G ++ l) h q' ks' op') (p := fun s' : Sto => ∃ q' ks' op', Fd C s' f k g W H P (G ++ l) h q' ks' op') (fun i st hi hI => ?_) (fun st hI => ?_) ⟨rfl, q, ks, op, by simpa using F⟩ (by omega) (fun u hu => ⟨u, rfl, hu⟩))
 ·obtain ⟨i', st⟩ := st
  obtain ⟨e, q1, ks1, op1, F1⟩ := hI
  simp only at e F1
  subst e
  simp only
  rw [if_pos (dlt hi), idx_at hi, w64_succ hi (by omega)]
  simp only [bsm]
  obtain ⟨s2, q2, ks2, op2, b1, b2⟩ := comes_eq F1 (hv _ (List.getElem_mem hi))
  rw [b1]
  refine .inl ⟨_, rfl, rfl, q2, ks2, op2, ?_⟩
  rw [List.take_succ_eq_append_getElem hi, ← List.append_assoc]
  exact b2
 ·obtain ⟨i', st⟩ := st
  obtain ⟨e, q1, ks1, op1, F1⟩ := hI
  simp only at e F1
  subst e
  refine ⟨st, by simp only; rw [if_neg (by simp)], q1, ks1, op1, ?_⟩
  rw [List.take_of_length_le (Nat.le_refl _)] at F1
  exact F1
theorem Fd.dec {G h h' : List Int} (F : Fd C s f k g W H P G h q ks op) {d d' : G_utfdec_Dec} (hd : s.feed_Feeder[f]? = some ⟨some k, d, sgB (sgOf G), op⟩) (hv : Dv d' h') : Fd C (s.sf f ⟨some k, d', sgB (sgOf G), op⟩) f k g W H P G h' q ks op := by
 have hf := get_lt hd
 refine ⟨F.v.sf _, F.fr.rgp (Rgp.self _) ⟨rfl, rfl, rfl⟩, F.fz.sf _ _ F.fz.oc, F.n, F.hd, F.l, F.gv, ⟨d', sf_get hf, hv⟩, F.o1, fun e => ?_⟩
 obtain ⟨j, e1, ⟨q0, c, C0, s0, ks0, cs0, cl, a1, a2, a3, a4, a5, a6, a7, a8⟩⟩ := F.o2 e
 exact ⟨j, e1, ⟨q0, c, C0, s0, ks0, cs0, cl, a1, a2, a3, a4, a5, a6, a7.sf _, a8⟩⟩
theorem fbytes_eq {G h : List Int} (F : Fd C s f k g W H P G h q ks op) (hb : Bts h) {b : List Int} (hl : b.length ≤ 9223372036854775807) (hbt : Bts b) : ∃ s' q' ks' op', f_feed_Feeder_Bytes s (some f) b = some s' ∧ Fd C s' f k g W H P (G ++ (rfeed h b).1) (rfeed h b).2 q' ks' op' := by
 unfold f_feed_Feeder_Bytes
 simp only [Option.isNone_some, Bool.false_eq_true, if_false, bsm]
 refine ex4 (iter_forE (n := b.length) (fun i (st : Int × Sto) => st.1 = (i : Int) ∧ ∃ q' ks' op', Fd C st.2 f k g W H P (G ++ (rfeed h (b.take i)).1) (rfeed h (b.take i)).2 q' ks' op') (fun u : Sto => ∃ q' ks' op', Fd C u f k g W H P (G ++ (rfeed h b).1) (rfeed h b).2 q' ks' op') (p := fun s' : Sto => ∃ q' ks' op', Fd C s' f k g W H P (G ++ (rfeed h b).1) (rfeed h b).2 q' ks' op') (fun i st hi hI => ?_) (fun st hI => ?_) ⟨rfl, q, ks, op, by simpa [rfeed] using F⟩ (by omega) (fun u hu => ⟨u, rfl, hu⟩))
 ·obtain ⟨i', st⟩ := st
  obtain ⟨e, q1, ks1, op1, F1⟩ := hI
  simp only at e F1
  subst e
  simp only
  rw [if_pos (dlt hi), idx_at hi, w64_succ hi (by omega)]
  obtain ⟨d, hd, hdv⟩ := F1.d
  simp only [bsm, hd]
  have hx := hbt _ (List.getElem_mem hi)
  obtain ⟨d', c1, c2⟩ := dec_step hdv hx
  rw [c1]
  simp only [bsm]
  rw [set_fd (get_lt hd)]
  simp only [bsm]
  have hbt' : Bts (b.take i) := fun x hx => hbt x (List.mem_of_mem_take hx)
  obtain ⟨s2, q2, ks2, op2, b1, b2⟩ := fall_eq (F1.dec hd c2) (l := (rstep (rfeed h (b.take i)).2 b[i]).1) (by have := rstep_len (rfeed h (b.take i)).2 b[i]; omega) (rstep_vld (rfeed_bts hb hbt') hx)
  rw [b1]
  refine .inl ⟨_, rfl, rfl, q2, ks2, op2, ?_⟩
  rw [List.take_succ_eq_append_getElem hi, rfeed_snoc]
  simp only
  rw [← List.append_assoc]
  exact b2
 ·obtain ⟨i', st⟩ := st
  obtain ⟨e, q1, ks1, op1, F1⟩ := hI
  simp only at e F1
  subst e
  refine ⟨st, by simp only; rw [if_neg (by simp)], q1, ks1, op1, ?_⟩
  rw [List.take_of_length_le (Nat.le_refl _)] at F1
  exact F1
theorem fclose_eq {G h : List Int} (F : Fd C s f k g W H P G h q ks op) : ∃ s', f_feed_Feeder_Close s (some f) = some s' ∧ Fd C s' f k g W H q [] h q ks none := by
 obtain ⟨d, hd, hdv⟩ := F.d
 have hf := get_lt hd
 unfold f_feed_Feeder_Close
 simp only [Option.isNone_some, Bool.not_false, if_true, bsm, hd]
 rw [set_fd hf]
 simp only [bsm, seg_reset]
 rw [set_fd (by rw [sf_len]; exact hf), sf_sf]
 refine ⟨_, rfl, ⟨F.v.sf _, F.fr.rgp (Rgp.self _) ⟨rfl, rfl, rfl⟩, F.fz.sf _ none (fun j e => by cases e), F.n, F.hd, rfl, fun x hx => by simp at hx, ⟨d, sf_get hf, hdv⟩, fun _ => rfl, fun e => by cases e⟩⟩
theorem fflush_eq {G h : List Int} (F : Fd C s f k g W H P G h q ks op) : ∃ s' q' ks', f_feed_Feeder_Flush s (some f) = some s' ∧ Fd C s' f k g W H q' [] [] q' ks' none ∧ fo layc P (cls pj pr (G ++ (if h = [] then [] else [65533]))) = some q' := by
 obtain ⟨d, hd, hdv⟩ := F.d
 have hf := get_lt hd
 unfold f_feed_Feeder_Flush
 simp only [Option.isNone_some, Bool.false_eq_true, if_false, bsm, hd]
 rw [dec_flush hdv]
 simp only [bsm]
 rw [set_fd hf]
 simp only [bsm]
 obtain ⟨s2, q2, ks2, op2, b1, b2⟩ := fall_eq (F.dec hd Dv.zero) (l := if h = [] then [] else [65533]) (by split <;> simp) (fun x hx => by
  split at hx
  ·simp at hx
  ·rw [List.mem_singleton.1 hx]; rfl)
 rw [b1]
 simp only [bsm]
 obtain ⟨s3, c1, c2⟩ := fclose_eq b2
 rw [c1]
 exact ⟨s3, q2, ks2, rfl, c2, b2.l⟩
theorem Fz.self (s : Sto) (f : Nat) (op : Option Nat) (h : ∀ x, s.feed_Feeder[f]? = some x → x.open_ = op) (hf : f < s.feed_Feeder.length) : Fz s s f op :=
 ⟨Nat.le_refl _, fun _ _ _ => rfl, Nat.le_refl _, fun _ _ _ => rfl, fun j e => .inl ⟨s.feed_Feeder[f], List.getElem?_eq_getElem hf, by rw [h _ (List.getElem?_eq_getElem hf)]; exact e⟩, rfl⟩
theorem Pv.addf (h : Pv s s k g W q ks) (x : G_feed_Feeder) : Pv (s.add_feed_Feeder x) (s.add_feed_Feeder x) k g W q ks :=
 ⟨h.p, ⟨h.g.g, h.g.r, h.g.h1, h.g.h2, h.g.w1, h.g.w2⟩, h.nd, h.l, rfl, h.f.rgp ⟨rfl, rfl, rfl⟩ ⟨rfl, rfl, rfl⟩⟩
theorem feed_new (h : Pv s s k g W q ks) (hh : Hd q.At W ks.length) : ∃ s', f_feed_New s (some k) = some (s', some s.feed_Feeder.length) ∧ Fd s' s' s.feed_Feeder.length k g W ks.length q [] [] q ks none ∧ s' = s.add_feed_Feeder ⟨some k, ⟨0, 0, 0, 0, 0⟩, ⟨false, 0, 0, 0, false⟩, none⟩ := by
 unfold f_feed_New
 simp only [Option.isNone_some, orE_false, bsm, h.p, Bool.false_eq_true, if_false]
 have hg : (s.add_feed_Feeder ⟨some k, ⟨0, 0, 0, 0, 0⟩, ⟨false, 0, 0, 0, false⟩, none⟩).feed_Feeder[s.feed_Feeder.length]? = some ⟨some k, ⟨0, 0, 0, 0, 0⟩, ⟨false, 0, 0, 0, false⟩, none⟩ := by simp [Sto.add_feed_Feeder]
 refine ⟨_, rfl, ⟨h.addf _, (h.addf _).f, Fz.self _ _ _ (fun x hx => ?_) (get_lt hg), rfl, hh, rfl, fun x hx => by simp at hx, ⟨_, hg, Dv.zero⟩, fun _ => rfl, fun e => by cases e⟩, rfl⟩
 rw [hg] at hx
 cases hx
 rfl
end Go.Proofs.YthokmpbbkpjhbaaGreatDoor
namespace Go.Proofs.YthokmpbbkpjhbaaGreatDoor
open Go Go.Lt
variable {s : Sto} {k : Nat} {l p : List G_api_Cell} {w : Bool}
theorem cl_id {c m : Nat} (h : c ≤ m) : cl (c : Int) m = c := by unfold cl; omega
theorem held_eq (n : Int) (m : Nat) : f_erase_held n 0 m = some ((cl n m : Nat) : Int) := by
 simp only [f_erase_held, imax_eq, imin_eq, cl, Option.some.injEq]
 omega
def rg (l : List G_api_Cell) (w : Bool) (a b : Nat) : G_row_Row := if a < b then ⟨pl l a (List.replicate (b - a) bl), pw l w a (b - a)⟩ else ⟨l, w⟩
theorem rg_snd {a b : Nat} (h : Snd l) (hb : b ≤ l.length) : Snd (rg l w a b).cells := by
 unfold rg
 split
 ·exact h.paint (snd_bl _) (by simp; omega)
 ·exact h
theorem rg_len (a b : Nat) : (rg l w a b).cells.length = l.length := by
 unfold rg
 split
 ·exact pl_len _ _ _
 ·rfl
theorem range_eq (h : s.row_Row[k]? = some ⟨l, w⟩) (hs : Snd l) (hl : l.length ≤ 1024) (a b : Int) :
  f_erase_Range s (some k) a b = some (s.sr k (rg l w (cl a l.length) (cl b l.length))) := by
 unfold f_erase_Range
 simp only [row_wide h, bsm, held_eq]
 have ha := cl_le a l.length
 have hb := cl_le b l.length
 generalize cl a l.length = a' at *
 generalize cl b l.length = b' at *
 unfold rg
 by_cases hab : a' < b'
 ·have e : w64 ((b' : Int) - (a' : Int)) = ((b' - a' : Nat) : Int) := by rw [w64_in (by omega)]; omega
  rw [if_pos (by simp; omega), if_pos hab, e, blanks, show (max 0 (min (((b' - a' : Nat)) : Int) 1024)).toNat = b' - a' by omega]
  simp only [bsm]
  rw [row_paint h hs hl (snd_bl _) (by simp; omega) (by simp; omega)]
  simp
 ·rw [if_neg (by simp; omega), if_neg hab, sr_id h]
theorem ref_range (l : List G_api_Cell) (w : Bool) (hl : l.length ≤ 1024) (a b : Int) : f_linotyperef26_Range l w a b = some ((rg l w (cl a l.length) (cl b l.length)).cells, (rg l w (cl a l.length) (cl b l.length)).wrap) := by
 unfold f_linotyperef26_Range
 have ha := cl_le a l.length
 have hb := cl_le b l.length
 have ea : imax 0 (imin a (l.length : Int)) = ((cl a l.length : Nat) : Int) := by simp only [imax_eq, imin_eq, cl]; omega
 have eb : imax 0 (imin b (l.length : Int)) = ((cl b l.length : Nat) : Int) := by simp only [imax_eq, imin_eq, cl]; omega
 rw [ea, eb]
 generalize cl a l.length = a' at *
 generalize cl b l.length = b' at *
 unfold rg
 by_cases hab : a' < b'
 ·have e : w64 ((b' : Int) - (a' : Int)) = ((b' - a' : Nat) : Int) := by rw [w64_in (by omega)]; omega
  rw [if_neg (by simp; omega), if_pos hab, e, rep_eq _ (by omega)]
  simp only [bsm]
  have := ref_paint l w a' (List.replicate (b' - a') bl) (by omega) (by omega) (by simp; omega)
  rw [List.length_replicate] at this
  rw [show (List.replicate (((b' - a' : Nat) : Int).toNat) (⟨0, ([] : List Int)⟩ : G_api_Cell)) = List.replicate (b' - a') bl by rfl, this]
  rfl
 ·rw [if_pos (by simp; omega), if_neg hab]
theorem cells_eq (h : s.row_Row[k]? = some ⟨l, w⟩) (hs : Snd l) (hl : l.length ≤ 1024) (col n : Int) :
  f_erase_Cells s (some k) col n = some (if 0 ≤ col ∧ 0 < n then s.sr k (rg l w (cl col l.length) (cl (((cl col l.length : Nat) : Int) + ((cl n l.length : Nat) : Int)) l.length)) else s) := by
 unfold f_erase_Cells
 simp only [andE_some, bsm]
 by_cases hc : 0 ≤ col ∧ 0 < n
 ·rw [if_pos (by simp; omega), if_pos hc]
  simp only [row_wide h, bsm, held_eq]
  have h1 := cl_le col l.length
  have h2 := cl_le n l.length
  rw [w64_in (by omega), range_eq h hs hl]
  simp only [bsm, cl_id h1]
 ·rw [if_neg (by simp; omega), if_neg hc]
def ac (l : List G_api_Cell) (w : Bool) (x A B : Int) : G_row_Row :=
 if x = 0 then rg l w (cl A l.length) (cl B l.length)
 else if x = 1 then rg l w 0 (cl (max (-1) (min A l.length) + 1) l.length)
 else if x = 2 then rg l w (cl A l.length) l.length
 else if x = 3 then ⟨(rg l w 0 l.length).cells, false⟩
 else if 0 ≤ A ∧ 0 < B then rg l w (cl A l.length) (cl (((cl A l.length : Nat) : Int) + ((cl B l.length : Nat) : Int)) l.length) else ⟨l, w⟩
theorem rg_no {a b : Nat} (h : b ≤ a) : rg l w a b = ⟨l, w⟩ := by
 unfold rg
 rw [if_neg (by omega)]
theorem cl_0 (m : Nat) : cl 0 m = 0 := by unfold cl; omega
theorem cl_self (m : Nat) : cl (m : Int) m = m := by unfold cl; omega
theorem erase_left (h : s.row_Row[k]? = some ⟨l, w⟩) (hs : Snd l) (hl : l.length ≤ 1024) (a b : Int) : f_erase_Left s (some k) a = some (s.sr k (ac l w 1 a b)) := by
 unfold f_erase_Left f_erase_held
 simp only [row_wide h, bsm, imax_eq, imin_eq]
 rw [w64_in (by omega), range_eq h hs hl, cl_0]
 rfl
theorem erase_right (h : s.row_Row[k]? = some ⟨l, w⟩) (hs : Snd l) (hl : l.length ≤ 1024) (a b : Int) : f_erase_Right s (some k) a = some (s.sr k (ac l w 2 a b)) := by
 unfold f_erase_Right
 simp only [row_wide h, bsm]
 rw [range_eq h hs hl, cl_self]
 rfl
theorem erase_all (h : s.row_Row[k]? = some ⟨l, w⟩) (hs : Snd l) (hl : l.length ≤ 1024) (a b : Int) : f_erase_All s (some k) = some (s.sr k (ac l w 3 a b)) := by
 have hk := get_lt h
 unfold f_erase_All
 simp only [row_wide h, bsm]
 rw [range_eq h hs hl, cl_self, cl_0]
 simp only [bsm]
 rw [row_goon (l := (rg l w 0 l.length).cells) (w := (rg l w 0 l.length).wrap) (sr_get hk), sr_sr]
 rfl
theorem erase_cells (h : s.row_Row[k]? = some ⟨l, w⟩) (hs : Snd l) (hl : l.length ≤ 1024) (a b : Int) : f_erase_Cells s (some k) a b = some (s.sr k (ac l w 4 a b)) := by
 rw [cells_eq h hs hl, show ac l w 4 a b = if 0 ≤ a ∧ 0 < b then rg l w (cl a l.length) (cl (((cl a l.length : Nat) : Int) + ((cl b l.length : Nat) : Int)) l.length) else ⟨l, w⟩ by rfl]
 split
 ·rfl
 ·rw [sr_id h]
theorem ref_act (l : List G_api_Cell) (w : Bool) (hl : l.length ≤ 1024) (x A B : Int) : f_linotyperef26_Act l w x A B = some ((ac l w x A B).cells, (ac l w x A B).wrap) := by
 unfold f_linotyperef26_Act ac
 by_cases h0 : x = 0
 ·rw [if_pos (by simpa using h0), if_pos h0, ref_range l w hl]
  rfl
 rw [if_neg (by simpa using h0), if_neg h0]
 by_cases h1 : x = 1
 ·rw [if_pos (by simpa using h1), if_pos h1]
  by_cases hA : A < 0
  ·rw [if_pos (by simpa using hA), show max (-1) (min A (l.length : Int)) + 1 = 0 by omega, cl_0, rg_no (Nat.le_refl _)]
  ·rw [if_neg (by simpa using hA), imin_eq, w64_in (by omega), ref_range l w hl, cl_0, show max (-1) (min A (l.length : Int)) = min A (l.length : Int) by omega]
   rfl
 rw [if_neg (by simpa using h1), if_neg h1]
 by_cases h2 : x = 2
 ·rw [if_pos (by simpa using h2), if_pos h2, ref_range l w hl, cl_self]
  rfl
 rw [if_neg (by simpa using h2), if_neg h2]
 by_cases h3 : x = 3
 ·rw [if_pos (by simpa using h3), if_pos h3, ref_range l w hl, cl_self, cl_0]
  rfl
 rw [if_neg (by simpa using h3), if_neg h3]
 simp only [orE_some, bsm]
 by_cases hA : 0 ≤ A ∧ 0 < B
 ·rw [if_pos hA]
  by_cases hg : (l.length : Int) ≤ A
  ·rw [if_pos (by simp; omega), show cl A l.length = l.length by unfold cl; omega, rg_no (cl_le _ _)]
  ·rw [if_neg (by simp; omega), imin_eq, w64_in (by omega), ref_range l w hl]
   rw [show cl (A + min B (l.length : Int)) l.length = cl (((cl A l.length : Nat) : Int) + ((cl B l.length : Nat) : Int)) l.length by unfold cl; omega]
   rfl
 ·rw [if_neg hA, if_pos (by simp; omega)]
theorem ac_snd (hs : Snd l) (x A B : Int) : Snd (ac l w x A B).cells := by
 unfold ac
 repeat' split
 all_goals first | exact hs | exact rg_snd hs (cl_le _ _) | exact rg_snd hs (Nat.le_refl _)
theorem ac_len (x A B : Int) : (ac l w x A B).cells.length = l.length := by
 unfold ac
 repeat' split
 all_goals first | rfl | exact rg_len _ _
theorem list_eq_range {α : Type} {l : List α} {n : Nat} {f : Nat → α} (hl : l.length = n) (h : ∀ i, i < n → l[i]? = some (f i)) : l = (List.range n).map f := by
 apply List.ext_getElem?
 intro i
 rcases Nat.lt_or_ge i n with hi | hi
 ·rw [h i hi]; simp [hi]
 ·rw [List.getElem?_eq_none (by omega), List.getElem?_eq_none (by simp; exact hi)]
def trc (l : List G_api_Cell) (c j : Nat) : G_api_Cell := if kd l c = 3 ∧ (j = c ∨ j + 1 = c) then bl else l.getD j bl
def tr (l : List G_api_Cell) (c : Nat) : List G_api_Cell := (List.range l.length).map (trc l c)
theorem tr_len (l : List G_api_Cell) (c : Nat) : (tr l c).length = l.length := by simp [tr]
theorem tr_get {c j : Nat} (h : j < l.length) : (tr l c)[j]? = some (trc l c j) := by simp [tr, h]
theorem trc_kd (l : List G_api_Cell) (c j : Nat) : (trc l c j).Kind = if kd l c = 3 ∧ (j = c ∨ j + 1 = c) then 0 else kd l j := by
 unfold trc
 split
 ·rfl
 ·exact kd_getD l j
theorem kd_tr (c j : Nat) : kd (tr l c) j = if kd l c = 3 ∧ (j = c ∨ j + 1 = c) then 0 else kd l j := by
 rcases Nat.lt_or_ge j l.length with h | h
 ·rw [← trc_kd]; simp [kd, tr_get h]
 ·rw [kd_out (by rw [tr_len]; exact h), kd_out (l := l) h]; simp
theorem tr_no {c : Nat} (h : kd l c ≠ 3) : tr l c = l := by
 symm
 refine list_eq_range rfl fun i hi => ?_
 unfold trc
 rw [if_neg (by intro e; exact h e.1), List.getD_eq_getElem?_getD, List.getElem?_eq_getElem hi]
 rfl
theorem tr_snd (hs : Snd l) (c : Nat) : Snd (tr l c) := fun j hj => by
 have hj' : j < l.length := by rw [tr_len] at hj; exact hj
 have he : (tr l c)[j] = trc l c j := by
  have := tr_get (c := c) hj'
  rw [List.getElem?_eq_getElem hj] at this
  exact Option.some.inj this
 have h2 := fun (h : kd l j = 2) => hs.two h
 have h3 := fun (h : kd l j = 3) => hs.three h
 have hc := fun (h : kd l c = 3) => hs.three h
 rw [he, trc_kd, kd_tr, kd_tr]
 refine ⟨?_, ?_, ?_⟩
 ·unfold trc
  split
  ·rfl
  ·exact hs.rg hj'
 ·intro e
  split at e
  ·cases e
  ·rename_i hn
   have := h2 e
   rw [if_neg]
   ·exact this
   ·rintro ⟨q1, q2⟩
    have := hc q1
    rcases q2 with rfl | q2
    ·exact hn ⟨q1, .inr rfl⟩
    ·obtain rfl : c = j + 2 := by omega
     rw [show j + 2 - 1 = j + 1 by omega] at this
     omega
 ·intro e
  split at e
  ·cases e
  ·rename_i hn
   have := h3 e
   refine ⟨this.1, ?_⟩
   rw [if_neg]
   ·exact this.2
   ·rintro ⟨q1, q2⟩
    have := hc q1
    rcases q2 with q2 | q2
    ·rw [← q2] at q1
     omega
    ·exact hn ⟨q1, .inl (by omega)⟩
theorem kd_tr_at (l : List G_api_Cell) (c : Nat) : kd (tr l c) c ≠ 3 := by
 rw [kd_tr]
 split
 ·decide
 ·rename_i h
  intro e
  exact h ⟨e, .inl rfl⟩
theorem tear_eq (hs : Snd l) (hl : l.length ≤ 1024) (c : Nat) : f_shift_tear l c = some (tr l c) := by
 unfold f_shift_tear
 rcases Nat.lt_or_ge c l.length with h | h
 ·have hd : decide ((c : Int) < (l.length : Int)) = true := by simp; exact h
  simp only [hd, andE_true, idx_at h, bsm]
  by_cases h3 : kd l c = 3
  ·have hb : (l[c].Kind == 3) = true := by rw [← kd_at h, h3]; rfl
   obtain ⟨h0, _⟩ := hs.three h3
   have e1 : w64 ((c : Int) - 1) = ((c - 1 : Nat) : Int) := by rw [w64_in (by omega)]; omega
   rw [hb, if_pos rfl, e1, idx_at (by omega : c - 1 < l.length)]
   simp only [bsm]
   rw [sets_nat (by omega)]
   simp only [bsm]
   rw [idx_at (by rw [List.length_set]; exact h)]
   simp only [bsm]
   rw [sets_nat (by rw [List.length_set]; exact h)]
   simp only [bsm]
   congr 1
   refine list_eq_range (by simp) fun i hi => ?_
   unfold trc
   by_cases q1 : c = i
   ·subst q1
    rw [List.getElem?_set_self (by rw [List.length_set]; exact h), if_pos ⟨h3, .inl rfl⟩]
    rfl
   ·rw [List.getElem?_set_ne q1]
    by_cases q2 : c - 1 = i
    ·subst q2
     rw [List.getElem?_set_self (by omega), if_pos ⟨h3, .inr (by omega)⟩]
     rfl
    ·rw [List.getElem?_set_ne q2, if_neg (by rintro ⟨_, q⟩; omega), List.getD_eq_getElem?_getD, List.getElem?_eq_getElem hi]
     rfl
  ·have hb : (l[c].Kind == 3) = false := by rw [← kd_at h]; simp [h3]
   rw [hb, if_neg (by decide), tr_no h3]
 ·have hd : decide ((c : Int) < (l.length : Int)) = false := by simp; exact h
  simp only [hd, andE_false, bsm]
  rw [if_neg (by decide), tr_no (by rw [kd_out h]; decide)]
theorem torn_eq (hl : l.length ≤ 1024) (c : Nat) : f_linotyperef27_torn l c = some (tr l c) := by
 unfold f_linotyperef27_torn
 refine bind_of (iter_map (n := l.length) (trc l c) (t := tr l c) (fun i hi => ?_) ?_ (by omega)) rfl
 ·simp only [dlt hi, if_true, idx_at hi, bsm, w64_succ hi (by omega), orE_some]
  have hz : andE (decide ((c : Int) < (l.length : Int))) ((idx l c).bind fun x_29 => some (x_29.Kind == 3)) = some (kd l c == 3) := by
   rcases Nat.lt_or_ge c l.length with h | h
   ·have hd : decide ((c : Int) < (l.length : Int)) = true := by simp; exact h
    simp only [hd, andE_true, idx_at h, bsm, ← kd_at h]
   ·have hd : decide ((c : Int) < (l.length : Int)) = false := by simp; exact h
    simp only [hd, andE_false]
    rw [kd_out h]
    rfl
  simp only [hz, bsm, andE_some]
  rw [show (kd l c == 3 && ((i : Int) == (c : Int) || ((i + 1 : Nat) : Int) == (c : Int))) = decide (kd l c = 3 ∧ (i = c ∨ i + 1 = c)) by
   rw [Bool.eq_iff_iff]
   simp only [Bool.and_eq_true, Bool.or_eq_true, beq_iff_eq, decide_eq_true_eq]
   omega]
  have hx : (if decide (kd l c = 3 ∧ (i = c ∨ i + 1 = c)) = true then (some (0, ([] : List Int)) : Option (Int × (List Int))) else (some (l[i].Kind, l[i].Text) : Option (Int × (List Int)))) = some ((trc l c i).Kind, (trc l c i).Text) := by
   unfold trc
   split
   ·rename_i h
    rw [if_pos (of_decide_eq_true h)]
    rfl
   ·rename_i h
    rw [if_neg (by simpa using h), List.getD_eq_getElem?_getD, List.getElem?_eq_getElem hi]
    rfl
  rw [hx]
  simp only [bsm]
  rw [app_eq (by simp; omega)]
  rfl
 ·simp only [dnl]
  rfl
def inx (l : List G_api_Cell) (c n j : Nat) : G_api_Cell := if j < c then (tr l c).getD j bl else if j < c + n then bl else (tr l c).getD (j - n) bl
def ins1 (l : List G_api_Cell) (c n j : Nat) : G_api_Cell := if j + 1 = l.length ∧ (inx l c n j).Kind = 2 then bl else inx l c n j
def insl (l : List G_api_Cell) (c n : Nat) : List G_api_Cell := (List.range l.length).map (ins1 l c n)
theorem insl_len (l : List G_api_Cell) (c n : Nat) : (insl l c n).length = l.length := by simp [insl]
theorem insl_get {c n j : Nat} (h : j < l.length) : (insl l c n)[j]? = some (ins1 l c n j) := by simp [insl, h]
theorem inx_kd (l : List G_api_Cell) (c n j : Nat) : (inx l c n j).Kind = if j < c then kd (tr l c) j else if j < c + n then 0 else kd (tr l c) (j - n) := by
 unfold inx
 split
 ·exact kd_getD _ _
 ·split
  ·rfl
  ·exact kd_getD _ _
theorem kd_insl (l : List G_api_Cell) (c n j : Nat) (h : j < l.length) : kd (insl l c n) j = if j + 1 = l.length ∧ (inx l c n j).Kind = 2 then 0 else (inx l c n j).Kind := by
 rw [show kd (insl l c n) j = (ins1 l c n j).Kind by simp [kd, insl_get h]]
 unfold ins1
 split <;> rfl
theorem rgt_getD (hs : Snd l) (j : Nat) : rgt (l.getD j bl) = true := by
 rcases Nat.lt_or_ge j l.length with h | h
 ·exact hs.rg h
 ·rw [List.getD_eq_getElem?_getD, List.getElem?_eq_none h]
  rfl
theorem ite_two {A : Prop} [Decidable A] {X : Int} (h : (if A ∧ X = 2 then (0 : Int) else X) = 2) : X = 2 ∧ ¬ A := by
 by_cases q : A ∧ X = 2
 ·rw [if_pos q] at h; omega
 ·rw [if_neg q] at h; exact ⟨h, fun a => q ⟨a, h⟩⟩
theorem ite_three {A : Prop} [Decidable A] {X : Int} (h : (if A ∧ X = 2 then (0 : Int) else X) = 3) : X = 3 := by
 by_cases q : A ∧ X = 2
 ·rw [if_pos q] at h; omega
 ·rwa [if_neg q] at h
theorem ite_keep {A : Prop} [Decidable A] {X : Int} (h : X ≠ 2) : (if A ∧ X = 2 then (0 : Int) else X) = X := if_neg fun q => h q.2
theorem insl_snd (hs : Snd l) (c n : Nat) : Snd (insl l c n) := fun j hj => by
 have hj' : j < l.length := by rw [insl_len] at hj; exact hj
 have he : (insl l c n)[j] = ins1 l c n j := by
  have := insl_get (c := c) (n := n) hj'
  rw [List.getElem?_eq_getElem hj] at this
  exact Option.some.inj this
 have ht := tr_snd hs c
 have hlen := tr_len l c
 have hat := kd_tr_at l c
 rw [← kd_at hj, he]
 refine ⟨?_, ?_, ?_⟩
 ·unfold ins1
  split
  ·rfl
  ·unfold inx
   split
   ·exact rgt_getD ht j
   ·split
    ·rfl
    ·exact rgt_getD ht (j - n)
 ·intro e
  rw [kd_insl l c n j hj', inx_kd] at e
  obtain ⟨e, hl⟩ := ite_two e
  ·rw [kd_insl l c n (j + 1) (by omega), inx_kd]
   have key : (if j + 1 < c then kd (tr l c) (j + 1) else if j + 1 < c + n then 0 else kd (tr l c) (j + 1 - n)) = 3 := by
    split at e
    ·have h3 := ht.two e
     rw [if_pos]
     ·exact h3
     ·rcases Nat.lt_or_ge (j + 1) c with q | q
      ·exact q
      ·obtain rfl : c = j + 1 := by omega
       exact absurd h3 hat
    ·split at e
     ·cases e
     ·have h3 := ht.two e
      rw [if_neg (by omega), if_neg (by omega), show j + 1 - n = j - n + 1 by omega]
      exact h3
   rw [key]
   exact ite_keep (by decide)
 ·intro e
  rw [kd_insl l c n j hj', inx_kd] at e
  have e' := ite_three e
  split at e'
  ·obtain ⟨h0, h2⟩ := ht.three e'
   refine ⟨h0, ?_⟩
   rw [kd_insl l c n (j - 1) (by omega), inx_kd, if_neg (by rintro ⟨q, _⟩; omega), if_pos (by omega)]
   exact h2
  ·split at e'
   ·cases e'
   ·obtain ⟨h0, h2⟩ := ht.three e'
    have hne : j - n ≠ c := by
     intro q
     rw [q] at e'
     exact hat e'
    refine ⟨by omega, ?_⟩
    rw [kd_insl l c n (j - 1) (by omega), inx_kd, if_neg (by rintro ⟨q, _⟩; omega), if_neg (by omega), if_neg (by omega), show j - 1 - n = j - n - 1 by omega]
    exact h2
theorem ins_fn (hl : l.length ≤ 1024) {c n : Nat} (hc : c < l.length) (h1 : 1 ≤ n) (hn : c + n ≤ l.length) : f_shift_Insert_1 (tr l c) n c = some (insl l c n) := by
 unfold f_shift_Insert_1
 have htl := tr_len l c
 rw [blanks, show (max 0 (min (n : Int) 1024)).toNat = n by omega]
 simp only [bsm]
 have hi : f_slices_Insert (tr l c) c (List.replicate n bl) = some ((tr l c).take c ++ List.replicate n bl ++ (tr l c).drop c) := by
  unfold f_slices_Insert
  rw [if_pos (by rw [htl, List.length_replicate]; unfold far; omega), Int.toNat_natCast]
 rw [hi]
 simp only [bsm]
 have hO : slc ((tr l c).take c ++ List.replicate n bl ++ (tr l c).drop c) 0 ((tr l c).length : Int) = some ((List.range l.length).map (inx l c n)) := by
  have := slc_eq (xs := (tr l c).take c ++ List.replicate n bl ++ (tr l c).drop c) (i := 0) (j := (tr l c).length) (by omega) (by simp [htl]; omega)
  rw [show ((0 : Nat) : Int) = 0 by rfl] at this
  rw [this]
  congr 1
  refine list_eq_range (by simp [htl]; omega) fun i hi => ?_
  rw [List.drop_zero, List.getElem?_take, if_pos (by omega), List.append_assoc]
  unfold inx
  have htk : ((tr l c).take c).length = c := by simp [htl]; omega
  split
  ·rename_i q
   rw [List.getElem?_append_left (by omega), List.getElem?_take, if_pos q, List.getD_eq_getElem?_getD, List.getElem?_eq_getElem (by omega : i < (tr l c).length)]
   rfl
  ·rename_i q
   rw [List.getElem?_append_right (by omega), htk]
   split
   ·rw [List.getElem?_append_left (by simp; omega), List.getElem?_replicate, if_pos (by omega)]
   ·rw [List.getElem?_append_right (by simp; omega), List.length_replicate, List.getElem?_drop, show c + (i - c - n) = i - n by omega, List.getD_eq_getElem?_getD, List.getElem?_eq_getElem (by omega : i - n < (tr l c).length)]
    rfl
 rw [hO]
 simp only [bsm]
 have e1 : w64 (((tr l c).length : Int) - 1) = ((l.length - 1 : Nat) : Int) := by rw [w64_in (by omega), htl]; omega
 rw [e1, idx_at (by simp; omega)]
 simp only [bsm, List.getElem_map, List.getElem_range]
 by_cases hk : (inx l c n (l.length - 1)).Kind = 2
 ·rw [if_pos (by rw [hk]; rfl), sets_nat (by simp; omega)]
  simp only [bsm]
  congr 1
  refine list_eq_range (by simp) fun i hi => ?_
  unfold ins1
  by_cases q : l.length - 1 = i
  ·subst q
   rw [List.getElem?_set_self (by simp; omega), if_pos ⟨by omega, hk⟩]
   rfl
  ·rw [List.getElem?_set_ne q, if_neg (by rintro ⟨q, _⟩; omega)]
   simp [hi]
 ·rw [if_neg (by simp; exact hk)]
  simp only [bsm]
  congr 1
  refine list_eq_range (by simp) fun i hi => ?_
  unfold ins1
  by_cases q : l.length - 1 = i
  ·subst q
   rw [if_neg (by rintro ⟨_, q⟩; exact hk q)]
   simp [hi]
  ·rw [if_neg (by rintro ⟨q, _⟩; omega)]
   simp [hi]
def tt (l : List G_api_Cell) (c n : Nat) : List G_api_Cell := tr (tr l c) (c + n)
theorem tt_len (l : List G_api_Cell) (c n : Nat) : (tt l c n).length = l.length := by simp [tt, tr_len]
def dlx (l : List G_api_Cell) (c n j : Nat) : G_api_Cell := if j < c then (tt l c n).getD j bl else if j + n < l.length then (tt l c n).getD (j + n) bl else bl
def dell (l : List G_api_Cell) (c n : Nat) : List G_api_Cell := (List.range l.length).map (dlx l c n)
theorem dell_len (l : List G_api_Cell) (c n : Nat) : (dell l c n).length = l.length := by simp [dell]
theorem dell_get {c n j : Nat} (h : j < l.length) : (dell l c n)[j]? = some (dlx l c n j) := by simp [dell, h]
theorem kd_dell (l : List G_api_Cell) (c n j : Nat) (h : j < l.length) : kd (dell l c n) j = if j < c then kd (tt l c n) j else if j + n < l.length then kd (tt l c n) (j + n) else 0 := by
 rw [show kd (dell l c n) j = (dlx l c n j).Kind by simp [kd, dell_get h]]
 unfold dlx
 split
 ·exact kd_getD _ _
 ·split
  ·exact kd_getD _ _
  ·rfl
theorem dell_snd (hs : Snd l) (c n : Nat) : Snd (dell l c n) := fun j hj => by
 have hj' : j < l.length := by rw [dell_len] at hj; exact hj
 have he : (dell l c n)[j] = dlx l c n j := by
  have := dell_get (c := c) (n := n) hj'
  rw [List.getElem?_eq_getElem hj] at this
  exact Option.some.inj this
 have ht : Snd (tt l c n) := tr_snd (tr_snd hs c) (c + n)
 have hlen := tt_len l c n
 have hat1 : kd (tt l c n) c ≠ 3 := by
  unfold tt
  rw [kd_tr]
  split
  ·decide
  ·exact kd_tr_at l c
 have hat2 : kd (tt l c n) (c + n) ≠ 3 := kd_tr_at _ _
 rw [← kd_at hj, he]
 refine ⟨?_, ?_, ?_⟩
 ·unfold dlx
  split
  ·exact rgt_getD ht j
  ·split
   ·exact rgt_getD ht _
   ·rfl
 ·intro e
  rw [kd_dell l c n j hj'] at e
  split at e
  ·have h3 := ht.two e
   have hlt := kd_lt (l := tt l c n) (j := j + 1) (by omega)
   rw [kd_dell l c n (j + 1) (by omega), if_pos]
   ·exact h3
   ·rcases Nat.lt_or_ge (j + 1) c with q | q
    ·exact q
    ·obtain rfl : c = j + 1 := by omega
     exact absurd h3 hat1
  ·split at e
   ·have h3 := ht.two e
    have hlt := kd_lt (l := tt l c n) (j := j + n + 1) (by omega)
    rw [kd_dell l c n (j + 1) (by omega), if_neg (by omega), if_pos (by omega), show j + 1 + n = j + n + 1 by omega]
    exact h3
   ·omega
 ·intro e
  rw [kd_dell l c n j hj'] at e
  split at e
  ·obtain ⟨h0, h2⟩ := ht.three e
   refine ⟨h0, ?_⟩
   rw [kd_dell l c n (j - 1) (by omega), if_pos (by omega)]
   exact h2
  ·split at e
   ·obtain ⟨h0, h2⟩ := ht.three e
    have hne : j ≠ c := by
     intro q
     rw [q] at e
     exact hat2 e
    refine ⟨by omega, ?_⟩
    rw [kd_dell l c n (j - 1) (by omega), if_neg (by omega), if_pos (by omega), show j - 1 + n = j + n - 1 by omega]
    exact h2
   ·omega
theorem del_fn (hs : Snd l) (hl : l.length ≤ 1024) {c n : Nat} (hc : c < l.length) (h1 : 1 ≤ n) (hn : c + n ≤ l.length) : f_shift_Delete_1 (tr l c) n c = some (dell l c n) := by
 unfold f_shift_Delete_1
 have htl := tt_len l c n
 have e1 : w64 ((c : Int) + (n : Int)) = ((c + n : Nat) : Int) := by rw [w64_in (by omega)]; simp
 rw [e1, tear_eq (tr_snd hs c) (by rw [tr_len]; exact hl)]
 simp only [bsm]
 rw [show tr (tr l c) (c + n) = tt l c n by rfl]
 have hd : f_slices_Delete (tt l c n) c ((c + n : Nat) : Int) = some ((tt l c n).take c ++ (tt l c n).drop (c + n)) := by
  unfold f_slices_Delete
  rw [if_pos (by rw [htl]; omega), Int.toNat_natCast, Int.toNat_natCast]
 rw [hd, blanks, show (max 0 (min (n : Int) 1024)).toNat = n by omega]
 simp only [bsm]
 rw [app_eq (by simp [htl]; omega)]
 simp only [bsm]
 congr 1
 refine list_eq_range (by simp [htl]; omega) fun i hi => ?_
 unfold dlx
 have htk : ((tt l c n).take c).length = c := by simp [htl]; omega
 rw [List.append_assoc]
 split
 ·rename_i q
  rw [List.getElem?_append_left (by omega), List.getElem?_take, if_pos q, List.getD_eq_getElem?_getD, List.getElem?_eq_getElem (by omega : i < (tt l c n).length)]
  rfl
 ·rename_i q
  rw [List.getElem?_append_right (by omega), htk]
  split
  ·rw [List.getElem?_append_left (by simp [htl]; omega), List.getElem?_drop, show c + n + (i - c) = i + n by omega, List.getD_eq_getElem?_getD, List.getElem?_eq_getElem (by omega : i + n < (tt l c n).length)]
   rfl
  ·rw [List.getElem?_append_right (by simp [htl]; omega), List.getElem?_replicate, if_pos (by simp [htl]; omega)]
theorem pl_whole (h : p.length = l.length) : pl l 0 p = p := by
 symm
 refine list_eq_range h fun i hi => ?_
 unfold pc
 rw [if_pos ⟨Nat.zero_le _, by omega⟩, Nat.sub_zero, List.getD_eq_getElem?_getD, List.getElem?_eq_getElem (by omega)]
 rfl
theorem pw_whole (h1 : 1 ≤ l.length) : pw l w 0 l.length = false := by
 unfold pw tch
 rw [show decide (0 < l.length) = true by simp; omega, show decide (0 ≤ l.length - 1) = true by simp, show decide (l.length - 1 < 0 + l.length) = true by simp; omega]
 simp
def mvs (col n : Int) (m : Nat) : Bool := decide (0 ≤ col) && decide (col < (m : Int)) && decide (1 ≤ n)
def ish (l : List G_api_Cell) (w : Bool) (col n : Int) : G_row_Row := if mvs col n l.length = true then ⟨insl l col.toNat (min n ((l.length : Int) - col)).toNat, false⟩ else ⟨l, w⟩
def dsh (l : List G_api_Cell) (w : Bool) (col n : Int) : G_row_Row := if mvs col n l.length = true then ⟨dell l col.toNat (min n ((l.length : Int) - col)).toNat, false⟩ else ⟨l, w⟩
theorem ish_snd (hs : Snd l) (col n : Int) : Snd (ish l w col n).cells := by
 unfold ish
 split
 ·exact insl_snd hs _ _
 ·exact hs
theorem dsh_snd (hs : Snd l) (col n : Int) : Snd (dsh l w col n).cells := by
 unfold dsh
 split
 ·exact dell_snd hs _ _
 ·exact hs
theorem ish_len (col n : Int) : (ish l w col n).cells.length = l.length := by
 unfold ish
 split
 ·exact insl_len _ _ _
 ·rfl
theorem dsh_len (col n : Int) : (dsh l w col n).cells.length = l.length := by
 unfold dsh
 split
 ·exact dell_len _ _ _
 ·rfl
theorem mvs_out {col n : Int} {m : Nat} : (decide (col < 0) || decide (col ≥ (m : Int)) || decide (n < 1)) = !mvs col n m := by
 rw [Bool.eq_iff_iff]
 simp only [mvs, Bool.or_eq_true, Bool.not_eq_true', Bool.and_eq_false_iff, decide_eq_true_eq, decide_eq_false_iff_not]
 omega
theorem mvs_in {col n : Int} {m : Nat} (h : mvs col n m = true) : ∃ c e : Nat, col = (c : Int) ∧ min n ((m : Int) - col) = (e : Int) ∧ c < m ∧ 1 ≤ e ∧ c + e ≤ m := by
 simp only [mvs, Bool.and_eq_true, decide_eq_true_eq] at h
 exact ⟨col.toNat, (min n ((m : Int) - col)).toNat, by omega, by omega, by omega, by omega, by omega⟩
theorem shift_ins (h : s.row_Row[k]? = some ⟨l, w⟩) (hs : Snd l) (hl : l.length ≤ 1024) (col n : Int) : f_shift_Insert s (some k) col n = some (s.sr k (ish l w col n)) := by
 unfold f_shift_Insert f_shift_turns__shift_Insert_1
 simp only [row_wide h, bsm, orE_some, mvs_out]
 unfold ish
 by_cases hm : mvs col n l.length = true
 ·obtain ⟨c, e, rfl, he, h1, h2, h3⟩ := mvs_in hm
  rw [if_neg (by rw [hm]; decide), if_pos hm, row_cells h (by omega) hs.sht]
  simp only [bsm, tear_eq hs hl]
  have e1 : imin n (w64 ((l.length : Int) - (c : Int))) = (e : Int) := by rw [w64_in (by omega), imin_eq]; exact he
  rw [e1, ins_fn hl h1 h2 h3, he]
  simp only [bsm, Int.toNat_natCast]
  have := row_paint h hs hl (insl_snd hs c e) (a := 0) (by rw [insl_len]; omega) (by rw [insl_len]; omega)
  rw [show ((0 : Nat) : Int) = 0 by rfl] at this
  rw [this, pl_whole (insl_len l c e), insl_len, pw_whole (by omega)]
  rfl
 ·rw [if_pos (by simpa using hm), if_neg hm, sr_id h]
  rfl
theorem shift_del (h : s.row_Row[k]? = some ⟨l, w⟩) (hs : Snd l) (hl : l.length ≤ 1024) (col n : Int) : f_shift_Delete s (some k) col n = some (s.sr k (dsh l w col n)) := by
 unfold f_shift_Delete f_shift_turns__shift_Delete_1
 simp only [row_wide h, bsm, orE_some, mvs_out]
 unfold dsh
 by_cases hm : mvs col n l.length = true
 ·obtain ⟨c, e, rfl, he, h1, h2, h3⟩ := mvs_in hm
  rw [if_neg (by rw [hm]; decide), if_pos hm, row_cells h (by omega) hs.sht]
  simp only [bsm, tear_eq hs hl]
  have e1 : imin n (w64 ((l.length : Int) - (c : Int))) = (e : Int) := by rw [w64_in (by omega), imin_eq]; exact he
  rw [e1, del_fn hs hl h1 h2 h3, he]
  simp only [bsm, Int.toNat_natCast]
  have := row_paint h hs hl (dell_snd hs c e) (a := 0) (by rw [dell_len]; omega) (by rw [dell_len]; omega)
  rw [show ((0 : Nat) : Int) = 0 by rfl] at this
  rw [this, pl_whole (dell_len l c e), dell_len, pw_whole (by omega)]
  rfl
 ·rw [if_pos (by simpa using hm), if_neg hm, sr_id h]
  rfl
theorem ref_ins (hl : l.length ≤ 1024) (col n : Int) (w : Bool) : f_linotyperef27_Insert l col n = some ((ish l w col n).cells, mvs col n l.length) := by
 unfold f_linotyperef27_Insert
 simp only [bsm, orE_some, mvs_out]
 unfold ish
 by_cases hm : mvs col n l.length = true
 ·rw [hm]
  obtain ⟨c, e, rfl, he, h1, h2, h3⟩ := mvs_in hm
  have e1 : imin n (w64 ((l.length : Int) - (c : Int))) = (e : Int) := by rw [w64_in (by omega), imin_eq]; exact he
  rw [if_neg (by decide), if_pos rfl, torn_eq hl, e1, he]
  simp only [bsm, Int.toNat_natCast]
  refine bind_of (iter_map (n := l.length) (ins1 l c e) (t := insl l c e) (fun i hi => ?_) ?_ (by omega)) rfl
  ·have e2 : w64 ((c : Int) + (e : Int)) = ((c + e : Nat) : Int) := by rw [w64_in (by omega)]; simp
   simp only [dlt hi, if_true, w64_succ hi (by omega), e2, andE_some, bsm]
   have htl := tr_len l c
   have hx : ((if decide ((i : Int) < (c : Int)) = true then (idx (tr l c) (i : Int)).bind fun x => (some (x.Kind, x.Text) : Option (Int × (List Int))) else (some (0, ([] : List Int)) : Option (Int × (List Int)))).bind fun z =>
     if decide ((i : Int) ≥ ((c + e : Nat) : Int)) = true then (idx (tr l c) (w64 ((i : Int) - (e : Int)))).bind fun x => (some (x.Kind, x.Text) : Option (Int × (List Int))) else (some (z.1, z.2) : Option (Int × (List Int)))) = some ((inx l c e i).Kind, (inx l c e i).Text) := by
    unfold inx
    by_cases q1 : i < c
    ·rw [if_pos (by simp; omega), idx_at (by omega : i < (tr l c).length)]
     simp only [bsm]
     rw [if_neg (by simp; omega), if_pos q1, List.getD_eq_getElem?_getD, List.getElem?_eq_getElem (by omega : i < (tr l c).length)]
     rfl
    ·rw [if_neg (by simp; omega), if_neg q1]
     simp only [bsm]
     by_cases q2 : i < c + e
     ·rw [if_neg (by simp; omega), if_pos q2]
      rfl
     ·have e3 : w64 ((i : Int) - (e : Int)) = ((i - e : Nat) : Int) := by rw [w64_in (by omega)]; omega
      rw [if_pos (by simp; omega), if_neg q2, e3, idx_at (by omega : i - e < (tr l c).length), List.getD_eq_getElem?_getD, List.getElem?_eq_getElem (by omega : i - e < (tr l c).length)]
      rfl
   refine (Option.bind_assoc _ _ _).symm.trans ?_
   rw [hx]
   simp only [bsm]
   have hy : (if (((i + 1 : Nat) : Int) == (l.length : Int) && (inx l c e i).Kind == 2) = true then (some (0, ([] : List Int)) : Option (Int × (List Int))) else (some ((inx l c e i).Kind, (inx l c e i).Text) : Option (Int × (List Int)))) = some ((ins1 l c e i).Kind, (ins1 l c e i).Text) := by
    unfold ins1
    by_cases q : i + 1 = l.length ∧ (inx l c e i).Kind = 2
    ·rw [if_pos (by simp only [Bool.and_eq_true, beq_iff_eq]; omega), if_pos q]
     rfl
    ·rw [if_neg (by simp only [Bool.and_eq_true, beq_iff_eq]; omega), if_neg q]
   rw [hy]
   simp only [bsm]
   rw [app_eq (by simp; omega)]
   rfl
  ·simp only [dnl]
   rfl
 ·rw [if_pos (by simpa using hm), if_neg hm]
  simp only [Bool.not_eq_true] at hm
  rw [hm]
theorem ref_del (hl : l.length ≤ 1024) (col n : Int) (w : Bool) : f_linotyperef27_Delete l col n = some ((dsh l w col n).cells, mvs col n l.length) := by
 unfold f_linotyperef27_Delete
 simp only [bsm, orE_some, mvs_out]
 unfold dsh
 by_cases hm : mvs col n l.length = true
 ·rw [hm]
  obtain ⟨c, e, rfl, he, h1, h2, h3⟩ := mvs_in hm
  have e1 : imin n (w64 ((l.length : Int) - (c : Int))) = (e : Int) := by rw [w64_in (by omega), imin_eq]; exact he
  have e2 : w64 ((c : Int) + (e : Int)) = ((c + e : Nat) : Int) := by rw [w64_in (by omega)]; simp
  rw [if_neg (by decide), if_pos rfl, torn_eq hl, e1, he]
  simp only [bsm, Int.toNat_natCast, e2]
  rw [torn_eq (by rw [tr_len]; exact hl)]
  simp only [bsm]
  rw [show tr (tr l c) (c + e) = tt l c e by rfl]
  refine bind_of (iter_map (n := l.length) (dlx l c e) (t := dell l c e) (fun i hi => ?_) ?_ (by omega)) rfl
  ·have htl := tt_len l c e
   have e3 : w64 ((i : Int) + (e : Int)) = ((i + e : Nat) : Int) := by rw [w64_in (by omega)]; simp
   simp only [dlt hi, if_true, w64_succ hi (by omega), e3]
   have hx : (if decide ((i : Int) < (c : Int)) = true then (idx (tt l c e) (i : Int)).bind fun x => (some (x.Kind, x.Text) : Option (Int × (List Int))) else if decide (((i + e : Nat) : Int) < (l.length : Int)) = true then (idx (tt l c e) ((i + e : Nat) : Int)).bind fun x => (some (x.Kind, x.Text) : Option (Int × (List Int))) else (some (0, ([] : List Int)) : Option (Int × (List Int)))) = some ((dlx l c e i).Kind, (dlx l c e i).Text) := by
    unfold dlx
    by_cases q1 : i < c
    ·rw [if_pos (by simp; omega), idx_at (by omega : i < (tt l c e).length), if_pos q1, List.getD_eq_getElem?_getD, List.getElem?_eq_getElem (by omega : i < (tt l c e).length)]
     rfl
    ·rw [if_neg (by simp; omega), if_neg q1]
     by_cases q2 : i + e < l.length
     ·rw [if_pos (by simp only [decide_eq_true_eq]; omega), if_pos q2, idx_at (by omega : i + e < (tt l c e).length), List.getD_eq_getElem?_getD, List.getElem?_eq_getElem (by omega : i + e < (tt l c e).length)]
      rfl
     ·rw [if_neg (by simp only [decide_eq_true_eq]; omega), if_neg q2]
      rfl
   rw [hx]
   simp only [bsm]
   rw [app_eq (by simp; omega)]
   rfl
  ·simp only [dnl]
   rfl
 ·rw [if_pos (by simpa using hm), if_neg hm]
  simp only [Bool.not_eq_true] at hm
  rw [hm]
end Go.Proofs.YthokmpbbkpjhbaaGreatDoor
namespace Go.Proofs.YthokmpbbkpjhbaaGreatDoor
open Go Go.Lt
variable {s C : Sto} {g k W : Nat} {ks : List Nat} {q : G_linotyperef34_Pen}
def w38 (o : G_api_Op) : Int := if o.Kind < 2 ∨ 12 < o.Kind then 5 else if (o.Kind = 3 ∨ o.Kind = 4) ∧ (o.A < 0 ∨ 2 < o.A) then 3 else 0
def e38 (o : G_api_Op) : Er := if w38 o = 5 then .sent 4 else if w38 o = 3 then .sent 0 else .nil
theorem w38_in (o : G_api_Op) : w38 o = 5 ∨ w38 o = 3 ∨ w38 o = 0 := by
  unfold w38
  repeat' split
  all_goals simp
def does (n : Int) : Bool := decide (2 ≤ n) && decide (n ≤ 12)
theorem edit_does (n : Int) : f_edit_Does n = some (does n) := by
  unfold f_edit_Does does
  simp only [andE_some, bsm, ge_iff_le]
theorem does_w38 (o : G_api_Op) : does o.Kind = (w38 o != 5) := by
  rw [Bool.eq_iff_iff]
  unfold does w38
  simp only [Bool.and_eq_true, decide_eq_true_eq, bne_iff_ne, ne_eq]
  repeat' split
  all_goals omega
theorem edit_wrong (o : G_api_Op) : f_edit_Wrong o = some (e38 o) := by
  unfold f_edit_Wrong
  rw [edit_does]
  have hd : does o.Kind = !decide (o.Kind < 2 ∨ 12 < o.Kind) := by
    rw [Bool.eq_iff_iff]
    simp only [does, Bool.and_eq_true, decide_eq_true_eq, Bool.not_eq_true', decide_eq_false_iff_not]
    omega
  simp only [bsm, hd, andE_some, orE_some, Bool.not_not]
  unfold e38
  by_cases h : o.Kind < 2 ∨ 12 < o.Kind
  · have e : w38 o = 5 := by unfold w38; rw [if_pos h]
    rw [if_pos (by simpa using h), if_pos e]
  · rw [if_neg (by simpa using h)]
    by_cases h2 : (o.Kind = 3 ∨ o.Kind = 4) ∧ (o.A < 0 ∨ 2 < o.A)
    · have e : w38 o = 3 := by unfold w38; rw [if_neg h, if_pos h2]
      rw [if_pos (by simp only [Bool.and_eq_true, Bool.or_eq_true, decide_eq_true_eq, bne_iff_ne, ne_eq]; omega), e]
      rfl
    · have e : w38 o = 0 := by unfold w38; rw [if_neg h, if_neg h2]
      rw [if_neg (by simp only [Bool.and_eq_true, Bool.or_eq_true, decide_eq_true_eq, bne_iff_ne, ne_eq]; omega), e]
      rfl
theorem e38_nil (o : G_api_Op) : (e38 o).isNil = (w38 o == 0) := by
  unfold e38
  rcases w38_in o with h | h | h <;> rw [h] <;> rfl
def lt (r : G_row_Row) : G_api_Line := ⟨r.cells, r.wrap⟩
theorem act38 (h : Pv C s k g W q ks) {i : Nat} (hi : i < ks.length) (x a b : Int) : f_linotyperef38_act q i x a b = some ⟨q.L.set i (lt (ac (q.L.getD i dl).Cells (q.L.getD i dl).Wrap x a b)), q.At, q.Auto⟩ := by
  have hl := h.len
  have hlt : i < q.L.length := by omega
  have hok := h.ok _ (List.getElem_mem hlt)
  have w2 := h.g.w2
  unfold f_linotyperef38_act
  rw [idx_at hlt]
  simp only [bsm]
  rw [ref_act _ _ (by rw [hok.2]; exact w2)]
  simp only [bsm]
  rw [ref_with h hi, gdl hlt]
  rfl
theorem Pv.ac (h : Pv C s k g W q ks) {i : Nat} (hi : i < ks.length) (x a b : Int) : Pv C (s.sr ks[i] (ac (q.L.getD i dl).Cells (q.L.getD i dl).Wrap x a b)) k g W ⟨q.L.set i (lt (Go.Proofs.YthokmpbbkpjhbaaGreatDoor.ac (q.L.getD i dl).Cells (q.L.getD i dl).Wrap x a b)), q.At, q.Auto⟩ ks := by
  have hl := h.len
  have hlt : i < q.L.length := by omega
  have hok := h.ok _ (List.getElem_mem hlt)
  have e : q.L.getD i dl = q.L[i] := gdl hlt
  rw [e]
  exact h.row hi (ac_snd hok.1 x a b) (by rw [ac_len]; exact hok.2)
theorem Pv.rw_ (h : Pv C s k g W q ks) {i : Nat} (hi : i < ks.length) : s.row_Row[ks[i]]? = some ⟨(q.L.getD i dl).Cells, (q.L.getD i dl).Wrap⟩ ∧ Snd (q.L.getD i dl).Cells ∧ (q.L.getD i dl).Cells.length = W := by
  have hl := h.len
  have hlt : i < q.L.length := by omega
  have hok := h.ok _ (List.getElem_mem hlt)
  obtain ⟨r, h1, h2, h3⟩ := h.g.at hi
  have e : q.L[i] = ⟨r.cells, r.wrap⟩ := by rw [h.at hi, ln_eq h1]
  rw [gdl hlt, e]
  exact ⟨h1, h2, h3⟩
def md (mode : Int) : Int := if mode = 0 then 2 else if mode = 1 then 1 else 3
theorem edit_line (h : Pv C s k g W q ks) {i : Nat} (hi : i < ks.length) (hr : q.At.Row = (i : Int)) (mode : Int) : f_edit_line s (some k) mode = some (s.sr ks[i] (ac (q.L.getD i dl).Cells (q.L.getD i dl).Wrap (md mode) q.At.Col 0)) := by
  obtain ⟨r1, r2, r3⟩ := h.rw_ hi
  have w2 := h.g.w2
  unfold f_edit_line md
  simp only [bsm, h.p, hr]
  rw [grid_row h.g hi]
  simp only [bsm]
  by_cases h0 : mode = 0
  · rw [if_pos (by simpa using h0), if_pos h0, erase_right r1 r2 (by omega) _ 0]
    rfl
  · rw [if_neg (by simpa using h0), if_neg h0]
    by_cases h1 : mode = 1
    · rw [if_pos (by simpa using h1), if_pos h1, erase_left r1 r2 (by omega) _ 0]
      rfl
    · rw [if_neg (by simpa using h1), if_neg h1, erase_all r1 r2 (by omega) q.At.Col 0]
      rfl
def eS (cond : Nat → Bool) (L : List G_api_Line) : Nat → List G_api_Line
  | 0 => L
  | i + 1 => if cond i = true then (eS cond L i).set i (lt (ac ((eS cond L i).getD i dl).Cells ((eS cond L i).getD i dl).Wrap 3 0 0)) else eS cond L i
def cnd (mode : Int) (row : Int) (i : Nat) : Bool := mode == 2 || (mode == 0 && decide ((i : Int) > row)) || (mode == 1 && decide ((i : Int) < row))
theorem screen_loop (h : Pv C s k g W q ks) (mode : Int) {H : Int} (hH : H = (ks.length : Int)) : ∃ s', (iter (σ := Int × Sto) (τ := Sto) ((H - 0).toNat + 1) (fun s_12 =>
 if (decide (s_12.1 < H)) = true then
 ((orE (mode == 2) ((andE (mode == 0) ((s_12.2.place_Pen[k]?).bind fun o_32 =>
 some (decide (s_12.1 > o_32.At.Row)))).bind fun d_25 =>
 some d_25)).bind fun d_21 =>
 (orE d_21 ((andE (mode == 1) ((s_12.2.place_Pen[k]?).bind fun o_45 =>
 some (decide (s_12.1 < o_45.At.Row)))).bind fun d_38 =>
 some d_38)).bind fun d_34 =>
 if d_34 = true then
 (s_12.2.place_Pen[k]?).bind fun o_51 =>
 (f_grid_Grid_Row s_12.2 o_51.G s_12.1).bind fun x_53 =>
 (f_erase_All s_12.2 x_53).bind fun x_54 =>
 (some (x_54) : Option (Sto))
 else
 (some (s_12.2) : Option (Sto))).bind fun z_15 =>
 some (.inl ((w64 (s_12.1 + 1)), z_15))
 else
 some (.inr (s_12.2))) (0, s)) = some s' ∧ Pv C s' k g W ⟨eS (cnd mode q.At.Row) q.L ks.length, q.At, q.Auto⟩ ks := by
  subst hH
  have hh := h.g.h2
  refine iter_for (n := ks.length) (fun i st => st.1 = (i : Int) ∧ Pv C st.2 k g W ⟨eS (cnd mode q.At.Row) q.L i, q.At, q.Auto⟩ ks) (fun st => Pv C st k g W ⟨eS (cnd mode q.At.Row) q.L ks.length, q.At, q.Auto⟩ ks) (fun i st hi hI => ?_) (fun st hI => ?_) ⟨rfl, h⟩ (by omega)
  · obtain ⟨i', st⟩ := st
    obtain ⟨e, v⟩ := hI
    simp only at e v
    subst e
    simp only
    rw [if_pos (dlt hi)]
    have hp := v.p
    simp only at hp
    simp only [hp, bsm, andE_some, orE_some]
    rw [w64_succ hi (by omega)]
    by_cases hc : cnd mode q.At.Row i = true
    · rw [if_pos (show (mode == 2 || mode == 0 && decide ((i : Int) > q.At.Row) || mode == 1 && decide ((i : Int) < q.At.Row)) = true from hc), grid_row v.g hi]
      obtain ⟨r1, r2, r3⟩ := v.rw_ hi
      simp only [bsm]
      have w2 := h.g.w2
      rw [erase_all r1 r2 (by omega) 0 0]
      refine .inl ⟨_, rfl, rfl, ?_⟩
      simp only [eS]
      rw [if_pos hc]
      exact v.ac hi 3 0 0
    · rw [if_neg (show ¬ (mode == 2 || mode == 0 && decide ((i : Int) > q.At.Row) || mode == 1 && decide ((i : Int) < q.At.Row)) = true from hc)]
      refine .inl ⟨_, rfl, rfl, ?_⟩
      simp only [eS]
      rw [if_neg hc]
      exact v
  · obtain ⟨i', st⟩ := st
    obtain ⟨e, v⟩ := hI
    simp only at e v
    subst e
    exact ⟨st, by simp, v⟩
theorem lines_loop (h : Pv C s k g W q ks) (kind mode : Int) : (iter (σ := Int × (List G_api_Line) × Int × Int × Bool × Bool) (τ := ((List G_api_Line) × Int × Int × Bool × Bool)) (((q.L.length : Int) - 0).toNat + 1) (fun s_23 =>
 (andE (decide (s_23.1 < (s_23.2.1.length : Int))) (some (kind == 4))).bind fun d_29 =>
 if d_29 = true then
 ((orE (mode == 2) ((andE (mode == 0) (some (decide (s_23.1 > s_23.2.2.1)))).bind fun d_41 =>
 some d_41)).bind fun d_37 =>
 (orE d_37 ((andE (mode == 1) (some (decide (s_23.1 < s_23.2.2.1)))).bind fun d_52 =>
 some d_52)).bind fun d_48 =>
 if d_48 = true then
 (f_linotyperef38_act (⟨s_23.2.1, (⟨s_23.2.2.1, s_23.2.2.2.1, s_23.2.2.2.2.1⟩ : G_api_Cursor), s_23.2.2.2.2.2⟩ : G_linotyperef34_Pen) s_23.1 3 0 0).bind fun x_62 =>
 (some (x_62.L, x_62.At.Row, x_62.At.Col, x_62.At.Pending, x_62.Auto) : Option ((List G_api_Line) × Int × Int × Bool × Bool))
 else
 (some (s_23.2.1, s_23.2.2.1, s_23.2.2.2.1, s_23.2.2.2.2.1, s_23.2.2.2.2.2) : Option ((List G_api_Line) × Int × Int × Bool × Bool))).bind fun z_34 =>
 some (.inl ((w64 (s_23.1 + 1)), z_34.1, z_34.2.1, z_34.2.2.1, z_34.2.2.2.1, z_34.2.2.2.2))
 else
 some (.inr (s_23.2.1, s_23.2.2.1, s_23.2.2.2.1, s_23.2.2.2.2.1, s_23.2.2.2.2.2))) (0, q.L, q.At.Row, q.At.Col, q.At.Pending, q.Auto)) =
    some (if kind = 4 then eS (cnd mode q.At.Row) q.L ks.length else q.L, q.At.Row, q.At.Col, q.At.Pending, q.Auto) := by
  have hh := h.g.h2
  have hl := h.len
  by_cases hk : kind = 4
  · subst hk
    rw [if_pos rfl]
    obtain ⟨t, h1, h2⟩ := iter_for (σ := Int × (List G_api_Line) × Int × Int × Bool × Bool) (τ := ((List G_api_Line) × Int × Int × Bool × Bool)) (n := ks.length) (fuel := ((q.L.length : Int) - 0).toNat + 1) (s := (0, q.L, q.At.Row, q.At.Col, q.At.Pending, q.Auto))
      (fun i st => st = ((i : Int), eS (cnd mode q.At.Row) q.L i, q.At.Row, q.At.Col, q.At.Pending, q.Auto) ∧ ∃ s', Pv C s' k g W ⟨eS (cnd mode q.At.Row) q.L i, q.At, q.Auto⟩ ks) (fun t => t = (eS (cnd mode q.At.Row) q.L ks.length, q.At.Row, q.At.Col, q.At.Pending, q.Auto))
      (step := fun s_23 =>
 (andE (decide (s_23.1 < (s_23.2.1.length : Int))) (some ((4 : Int) == 4))).bind fun d_29 =>
 if d_29 = true then
 ((orE (mode == 2) ((andE (mode == 0) (some (decide (s_23.1 > s_23.2.2.1)))).bind fun d_41 =>
 some d_41)).bind fun d_37 =>
 (orE d_37 ((andE (mode == 1) (some (decide (s_23.1 < s_23.2.2.1)))).bind fun d_52 =>
 some d_52)).bind fun d_48 =>
 if d_48 = true then
 (f_linotyperef38_act (⟨s_23.2.1, (⟨s_23.2.2.1, s_23.2.2.2.1, s_23.2.2.2.2.1⟩ : G_api_Cursor), s_23.2.2.2.2.2⟩ : G_linotyperef34_Pen) s_23.1 3 0 0).bind fun x_62 =>
 (some (x_62.L, x_62.At.Row, x_62.At.Col, x_62.At.Pending, x_62.Auto) : Option ((List G_api_Line) × Int × Int × Bool × Bool))
 else
 (some (s_23.2.1, s_23.2.2.1, s_23.2.2.2.1, s_23.2.2.2.2.1, s_23.2.2.2.2.2) : Option ((List G_api_Line) × Int × Int × Bool × Bool))).bind fun z_34 =>
 some (.inl ((w64 (s_23.1 + 1)), z_34.1, z_34.2.1, z_34.2.2.1, z_34.2.2.2.1, z_34.2.2.2.2))
 else
 some (.inr (s_23.2.1, s_23.2.2.1, s_23.2.2.2.1, s_23.2.2.2.2.1, s_23.2.2.2.2.2)))
      (fun i st hi hI => by
        obtain ⟨rfl, s', v⟩ := hI
        have hvl : (eS (cnd mode q.At.Row) q.L i).length = ks.length := v.len
        simp only [andE_some, bsm, orE_some]
        rw [if_pos (by simp [hvl, hi]), w64_succ hi (by omega)]
        by_cases hc : cnd mode q.At.Row i = true
        · rw [if_pos (show (mode == 2 || mode == 0 && decide ((i : Int) > q.At.Row) || mode == 1 && decide ((i : Int) < q.At.Row)) = true from hc)]
          have ha := act38 v hi 3 0 0
          rw [show (⟨eS (cnd mode q.At.Row) q.L i, ⟨q.At.Row, q.At.Col, q.At.Pending⟩, q.Auto⟩ : G_linotyperef34_Pen) = ⟨eS (cnd mode q.At.Row) q.L i, q.At, q.Auto⟩ from rfl, ha]
          refine .inl ⟨_, rfl, ?_, s'.sr ks[i] (ac ((eS (cnd mode q.At.Row) q.L i).getD i dl).Cells ((eS (cnd mode q.At.Row) q.L i).getD i dl).Wrap 3 0 0), ?_⟩
          · simp only [eS]
            rw [if_pos hc]
          · simp only [eS]
            rw [if_pos hc]
            exact v.ac hi 3 0 0
        · rw [if_neg (show ¬ (mode == 2 || mode == 0 && decide ((i : Int) > q.At.Row) || mode == 1 && decide ((i : Int) < q.At.Row)) = true from hc)]
          refine .inl ⟨_, rfl, ?_, s', ?_⟩
          · simp only [eS]
            rw [if_neg hc]
          · simp only [eS]
            rw [if_neg hc]
            exact v)
      (fun st hI => by
        obtain ⟨rfl, s', v⟩ := hI
        have hvl : (eS (cnd mode q.At.Row) q.L ks.length).length = ks.length := v.len
        refine ⟨_, ?_, rfl⟩
        simp only [andE_some, bsm]
        rw [if_neg (by simp [hvl])])
      ⟨rfl, s, h⟩ (by omega)
    rw [h1, h2]
  · rw [if_neg hk]
    have hf : (kind == 4) = false := by simpa using hk
    rw [show ((q.L.length : Int) - 0).toNat + 1 = q.L.length + 1 by omega]
    simp only [iter, hf, andE_some, Bool.and_false, bsm, Bool.false_eq_true, if_false]
theorem with38 (h : Pv C s k g W q ks) {i : Nat} (hi : i < ks.length) {c : List G_api_Cell} {done : Bool} {r : G_row_Row} (hc : c = r.cells) (hd : done = true → r.wrap = false) (hn : done = false → r = ⟨(q.L.getD i dl).Cells, (q.L.getD i dl).Wrap⟩) {z : G_linotyperef34_Pen} (hz : z = q) :
    (if done = true then (f_linotyperef34_Pen_With z i ⟨c, false⟩).bind fun x_172 => (some (x_172.L, x_172.At.Row, x_172.At.Col, x_172.At.Pending, x_172.Auto) : Option ((List G_api_Line) × Int × Int × Bool × Bool))
     else (some (z.L, z.At.Row, z.At.Col, z.At.Pending, z.Auto) : Option ((List G_api_Line) × Int × Int × Bool × Bool))) = some (q.L.set i (lt r), q.At.Row, q.At.Col, q.At.Pending, q.Auto) := by
  subst hz hc
  have hl := h.len
  cases done with
  | true =>
    rw [if_pos rfl, ref_with h hi]
    simp only [bsm]
    unfold lt
    rw [hd rfl]
  | false =>
    rw [if_neg (by simp), hn rfl]
    unfold lt
    rw [gdl (show i < z.L.length by omega), List.set_getElem_self]
theorem ish_done {l : List G_api_Cell} {w : Bool} {a b : Int} : (mvs a b l.length = true → (ish l w a b).wrap = false) ∧ (mvs a b l.length = false → ish l w a b = ⟨l, w⟩) := by
  unfold ish
  refine ⟨fun h => by rw [if_pos h], fun h => by rw [if_neg (by rw [h]; simp)]⟩
theorem dsh_done {l : List G_api_Cell} {w : Bool} {a b : Int} : (mvs a b l.length = true → (dsh l w a b).wrap = false) ∧ (mvs a b l.length = false → dsh l w a b = ⟨l, w⟩) := by
  unfold dsh
  refine ⟨fun h => by rw [if_pos h], fun h => by rw [if_neg (by rw [h]; simp)]⟩
theorem lines38 (h : Pv C s k g W q ks) {i : Nat} (hi : i < ks.length) (hr : q.At.Row = (i : Int)) (kind : Int) {mode : Int} (hm : 0 ≤ mode ∧ mode ≤ 2) : ∃ L1, L1 = q.L.set i (lt (ac (q.L.getD i dl).Cells (q.L.getD i dl).Wrap (md mode) q.At.Col 0)) ∧
    f_linotyperef38_lines q kind mode = some ⟨if kind = 4 then eS (cnd mode q.At.Row) L1 ks.length else L1, q.At, q.Auto⟩ := by
  refine ⟨_, rfl, ?_⟩
  unfold f_linotyperef38_lines
  have hidx : idx ([2, 1, 3] : List Int) mode = some (md mode) := by
    have : mode = 0 ∨ mode = 1 ∨ mode = 2 := by omega
    rcases this with e | e | e <;> rw [e] <;> rfl
  have v := h.ac hi (md mode) q.At.Col 0
  have e0 : f_linotyperef38_act q q.At.Row (md mode) q.At.Col 0 = some ⟨q.L.set i (lt (ac (q.L.getD i dl).Cells (q.L.getD i dl).Wrap (md mode) q.At.Col 0)), q.At, q.Auto⟩ := by
    rw [hr]
    exact act38 h hi _ _ _
  rw [hidx]
  simp only [bsm]
  rw [e0]
  simp only [bsm]
  have := lines_loop v kind mode
  simp only at this
  rw [this]
  rfl
theorem edit_eq (h : Pv C s k g W q ks) (o : G_api_Op) (hw : w38 o = 0) : ∃ s' q' ks', f_edit_Do s (some k) o = some (s', Er.nil) ∧ f_linotyperef38_Do q o = some q' ∧ Pv C s' k g W q' ks' ∧ ks'.length = ks.length ∧ Hd q'.At W ks.length ∧ q'.At.Pending = false := by
  have hh := h.g.h2
  have h1 := h.g.h1
  have w1 := h.g.w1
  have w2 := h.g.w2
  have hkind : 2 ≤ o.Kind ∧ o.Kind ≤ 12 := by
    unfold w38 at hw
    split at hw
    · cases hw
    · omega
  have hmode : (o.Kind = 3 ∨ o.Kind = 4) → 0 ≤ o.A ∧ o.A ≤ 2 := fun e => by
    unfold w38 at hw
    rw [if_neg (by omega)] at hw
    split at hw
    · cases hw
    · omega
  have hnil : e38 o = Er.nil := by unfold e38; rw [hw]; rfl
  have hd0 := hc_hd q.At w1 h1
  have hv : Pv C (s.sp k ⟨some g, ⟨(hc q.At W ks.length).Row, (hc q.At W ks.length).Col, false⟩, q.Auto⟩) k g W ⟨q.L, ⟨(hc q.At W ks.length).Row, (hc q.At W ks.length).Col, false⟩, q.Auto⟩ ks := h.set _ _
  have hd : Hd ⟨(hc q.At W ks.length).Row, (hc q.At W ks.length).Col, false⟩ W ks.length := ⟨hd0.rr, hd0.cc, fun e => by cases e⟩
  unfold f_edit_Do f_linotyperef38_Do
  rw [edit_wrong, hnil, ref_Hold h]
  simp only [bsm, Er.isNil, Bool.not_true, Bool.false_eq_true, if_false, Option.isNone_some, orE_false, h.p]
  rw [grid_wide h.g, grid_high h.g]
  simp only [bsm]
  rw [cur_hold _ w1 w2 h1 hh]
  simp only [bsm]
  rw [set_pen (get_lt h.p)]
  simp only [bsm]
  rw [set_pen (by simp [Sto.sp]; exact get_lt h.p), sp_sp]
  simp only [bsm]
  generalize hc q.At W ks.length = c at *
  obtain ⟨i, hi⟩ : ∃ i : Nat, c.Row = (i : Int) := ⟨c.Row.toNat, by have := hd.rr; simp only at this; omega⟩
  have hik : i < ks.length := by have := hd.rr; simp only at this; omega
  have hlen := hv.len
  simp only at hlen
  obtain ⟨c1, c2, c3⟩ := c
  simp only at hi hv hd
  subst hi
  simp only
  rw [idx_at (show i < q.L.length by omega)]
  simp only [bsm]
  generalize s.sp k ⟨some g, ⟨(i : Int), c2, false⟩, q.Auto⟩ = s1 at *
  obtain ⟨L, ⟨_, _, _⟩, au⟩ := q
  simp only at hv hlen ⊢
  obtain ⟨r1, r2, r3⟩ := hv.rw_ hik
  simp only at r1 r2 r3
  obtain ⟨kd_, A, B, bs⟩ := o
  simp only at hkind hmode ⊢
  have hcell : L[i]'(by omega) = L.getD i dl := (gdl (by omega)).symm
  rw [hcell]
  have : kd_ = 2 ∨ kd_ = 3 ∨ kd_ = 4 ∨ kd_ = 5 ∨ kd_ = 6 ∨ kd_ = 7 ∨ kd_ = 8 ∨ kd_ = 9 ∨ kd_ = 10 ∨ kd_ = 11 ∨ kd_ = 12 := by omega
  have hcc := hd.cc
  simp only at hcc
  rcases this with e | e | e | e | e | e | e | e | e | e | e <;> subst e <;> simp only [Int.reduceBEq, Bool.false_eq_true, if_false, if_true, bsm]
  ·
    unfold f_edit_cells
    simp only [bsm, hv.p]
    rw [grid_row hv.g hik]
    simp only [bsm, Int.reduceBEq, if_true]
    rw [grid_wide hv.g, grid_high hv.g]
    simp only [bsm]
    unfold f_cursor_Move
    rw [cur_hold _ w1 w2 h1 hh, ref_wide hv, hlen]
    simp only [bsm]
    rw [ref_hold _ w1 w2 h1 hh, set_pen (get_lt hv.p)]
    exact ⟨_, _, ks, rfl, rfl, hv.set (hc ⟨A, B, false⟩ W ks.length) au, rfl, hc_hd _ w1 h1, by simp [hc]⟩
  ·
    have hm := hmode (.inl rfl)
    obtain ⟨L1, e1, e2⟩ := lines38 hv hik rfl 3 hm
    simp only at e1
    rw [e2]
    unfold f_edit_cells
    simp only [bsm, hv.p]
    rw [grid_row hv.g hik]
    simp only [bsm, Int.reduceBEq, Bool.false_eq_true, if_false, if_true]
    rw [edit_line hv hik rfl A]
    refine ⟨_, _, ks, rfl, rfl, ?_, rfl, hd, rfl⟩
    have := hv.ac hik (md A) c2 0
    simp only at this
    rw [if_neg (by decide), e1]
    exact this
  ·
    have hm := hmode (.inr rfl)
    obtain ⟨L1, e1, e2⟩ := lines38 hv hik rfl 4 hm
    simp only at e1
    rw [e2]
    unfold f_edit_cells
    simp only [bsm, hv.p]
    rw [grid_row hv.g hik]
    simp only [bsm, Int.reduceBEq, Bool.false_eq_true, if_false, if_true]
    unfold f_edit_screen
    rw [edit_line hv hik rfl A]
    have hv2 := hv.ac hik (md A) c2 0
    simp only at hv2
    rw [← e1] at hv2
    simp only [bsm, hv2.p]
    rw [grid_high hv2.g]
    simp only [bsm]
    obtain ⟨s', l1, l2⟩ := screen_loop hv2 A rfl
    rw [l1]
    exact ⟨_, _, ks, rfl, rfl, l2, rfl, hd, rfl⟩
  ·
    unfold f_edit_cells
    simp only [bsm, hv.p]
    rw [grid_row hv.g hik]
    simp only [bsm, Int.reduceBEq, Bool.false_eq_true, if_false, if_true]
    rw [erase_cells r1 r2 (by omega), act38 hv hik]
    exact ⟨_, _, ks, rfl, rfl, hv.ac hik 4 c2 A, rfl, hd, rfl⟩
  ·
    have hsn := ish_snd (w := (L.getD i dl).Wrap) r2 c2 A
    have hlw := ish_len (l := (L.getD i dl).Cells) (w := (L.getD i dl).Wrap) c2 A
    have hdn := ish_done (l := (L.getD i dl).Cells) (w := (L.getD i dl).Wrap) (a := c2) (b := A)
    unfold f_edit_cells
    simp only [bsm, hv.p]
    rw [grid_row hv.g hik]
    simp only [bsm, Int.reduceBEq, Bool.false_eq_true, if_false, if_true]
    rw [shift_ins r1 r2 (by omega), ref_ins (by omega) _ _ (L.getD i dl).Wrap]
    simp only [bsm]
    have := with38 hv hik (c := (ish (L.getD i dl).Cells (L.getD i dl).Wrap c2 A).cells) (done := mvs c2 A (L.getD i dl).Cells.length) (r := ish (L.getD i dl).Cells (L.getD i dl).Wrap c2 A) rfl hdn.1 hdn.2 rfl
    simp only at this
    rw [this]
    exact ⟨_, _, ks, rfl, rfl, hv.row hik hsn (by rw [hlw]; exact r3), rfl, hd, rfl⟩
  ·
    have hsn := dsh_snd (w := (L.getD i dl).Wrap) r2 c2 A
    have hlw := dsh_len (l := (L.getD i dl).Cells) (w := (L.getD i dl).Wrap) c2 A
    have hdn := dsh_done (l := (L.getD i dl).Cells) (w := (L.getD i dl).Wrap) (a := c2) (b := A)
    unfold f_edit_cells
    simp only [bsm, hv.p]
    rw [grid_row hv.g hik]
    simp only [bsm, Int.reduceBEq, Bool.false_eq_true, if_false, if_true]
    rw [shift_del r1 r2 (by omega), ref_del (by omega) _ _ (L.getD i dl).Wrap]
    simp only [bsm]
    have := with38 hv hik (c := (dsh (L.getD i dl).Cells (L.getD i dl).Wrap c2 A).cells) (done := mvs c2 A (L.getD i dl).Cells.length) (r := dsh (L.getD i dl).Cells (L.getD i dl).Wrap c2 A) rfl hdn.1 hdn.2 rfl
    simp only at this
    rw [this]
    exact ⟨_, _, ks, rfl, rfl, hv.row hik hsn (by rw [hlw]; exact r3), rfl, hd, rfl⟩
  ·
    obtain ⟨s', ks', u1, ⟨u2, u3, u4, u5⟩, u6, u7⟩ := down_eq2 hv.g hv.nd (i : Int) (ks.length : Int) A
    have hm := ref_move (W := W) (L := L) (by omega) w2 (fun x hx => (hv.ok x hx).2) (i : Int) (ks.length : Int) A false
    rw [hlen] at hm ⊢
    unfold f_edit_rows
    simp only [bsm, hv.p]
    rw [grid_high hv.g]
    simp only [bsm, Int.reduceBEq, Bool.false_eq_true, if_false, if_true]
    rw [u1, hm]
    have hp : s'.place_Pen[k]? = some ⟨some g, ⟨(i : Int), c2, false⟩, au⟩ := by rw [rst_pen u6]; exact hv.p
    simp only [bsm, hp, f_cursor_Return]
    rw [set_pen (get_lt hp)]
    refine ⟨_, _, ks', rfl, rfl, ⟨sp_get (get_lt hp), u2.sp _ _, u3, ?_, (rst_oth u6).trans hv.o, (hv.f.step u7 (rst_pen u6)).sp _⟩, u4, ⟨hd.rr, by simp only; omega, fun e => by cases e⟩, rfl⟩
    exact u5.trans (by rw [hv.l])
  ·
    obtain ⟨s', ks', u1, ⟨u2, u3, u4, u5⟩, u6, u7⟩ := up_eq2 hv.g hv.nd (i : Int) (ks.length : Int) A
    have hm := ref_move (W := W) (L := L) (by omega) w2 (fun x hx => (hv.ok x hx).2) (i : Int) (ks.length : Int) A true
    rw [hlen] at hm ⊢
    unfold f_edit_rows
    simp only [bsm, hv.p]
    rw [grid_high hv.g]
    simp only [bsm, Int.reduceBEq, Bool.false_eq_true, if_false, if_true]
    rw [u1, hm]
    have hp : s'.place_Pen[k]? = some ⟨some g, ⟨(i : Int), c2, false⟩, au⟩ := by rw [rst_pen u6]; exact hv.p
    simp only [bsm, hp, f_cursor_Return]
    rw [set_pen (get_lt hp)]
    refine ⟨_, _, ks', rfl, rfl, ⟨sp_get (get_lt hp), u2.sp _ _, u3, ?_, (rst_oth u6).trans hv.o, (hv.f.step u7 (rst_pen u6)).sp _⟩, u4, ⟨hd.rr, by simp only; omega, fun e => by cases e⟩, rfl⟩
    exact u5.trans (by rw [hv.l])
  ·
    obtain ⟨s', ks', u1, ⟨u2, u3, u4, u5⟩, u6, u7⟩ := up_eq2 hv.g hv.nd 0 (ks.length : Int) A
    have hm := ref_move (W := W) (L := L) (by omega) w2 (fun x hx => (hv.ok x hx).2) 0 (ks.length : Int) A true
    rw [hlen] at hm ⊢
    unfold f_edit_rows
    simp only [bsm, hv.p]
    rw [grid_high hv.g]
    simp only [bsm, Int.reduceBEq, Bool.false_eq_true, if_false, if_true]
    rw [u1, hm]
    refine ⟨_, _, ks', rfl, rfl, ⟨by rw [rst_pen u6]; exact hv.p, u2, u3, ?_, (rst_oth u6).trans hv.o, hv.f.step u7 (rst_pen u6)⟩, u4, hd, rfl⟩
    exact u5.trans (by rw [hv.l])
  ·
    obtain ⟨s', ks', u1, ⟨u2, u3, u4, u5⟩, u6, u7⟩ := down_eq2 hv.g hv.nd 0 (ks.length : Int) A
    have hm := ref_move (W := W) (L := L) (by omega) w2 (fun x hx => (hv.ok x hx).2) 0 (ks.length : Int) A false
    rw [hlen] at hm ⊢
    unfold f_edit_rows
    simp only [bsm, hv.p]
    rw [grid_high hv.g]
    simp only [bsm, Int.reduceBEq, Bool.false_eq_true, if_false, if_true]
    rw [u1, hm]
    refine ⟨_, _, ks', rfl, rfl, ⟨by rw [rst_pen u6]; exact hv.p, u2, u3, ?_, (rst_oth u6).trans hv.o, hv.f.step u7 (rst_pen u6)⟩, u4, hd, rfl⟩
    exact u5.trans (by rw [hv.l])
  ·
    unfold f_edit_cells
    simp only [bsm, hv.p]
    rw [grid_row hv.g hik]
    simp only [bsm, Int.reduceBEq, Bool.false_eq_true, if_false, if_true]
    rw [set_pen (get_lt hv.p)]
    exact ⟨_, _, ks, rfl, rfl, hv.set ⟨(i : Int), c2, false⟩ (A != 0), rfl, hd, rfl⟩
end Go.Proofs.YthokmpbbkpjhbaaGreatDoor
namespace Go.Proofs.YthokmpbbkpjhbaaGreatDoor
open Go Go.Lt
variable {s C : Sto} {g k W : Nat} {ks : List Nat} {q : G_linotyperef34_Pen} {l : List G_api_Cell}
def rzc (l : List G_api_Cell) (w j : Nat) : G_api_Cell := if j < l.length ∧ (j + 1 < w ∨ kd l j ≠ 2) then l.getD j bl else bl
def rz (l : List G_api_Cell) (w : Nat) : List G_api_Cell := (List.range w).map (rzc l w)
theorem rz_len (l : List G_api_Cell) (w : Nat) : (rz l w).length = w := by simp [rz]
theorem rz_get {w j : Nat} (h : j < w) : (rz l w)[j]? = some (rzc l w j) := by simp [rz, h]
theorem kd_rz {w j : Nat} (h : j < w) : kd (rz l w) j = (rzc l w j).Kind := by simp [kd, rz_get h]
theorem rzc_kd (l : List G_api_Cell) (w j : Nat) : (rzc l w j).Kind = if j < l.length ∧ (j + 1 < w ∨ kd l j ≠ 2) then kd l j else 0 := by
 unfold rzc
 split
 ·exact kd_getD l j
 ·rfl
theorem rz_snd (hs : Snd l) (w : Nat) : Snd (rz l w) := fun j hj => by
 have hjw : j < w := by rw [rz_len] at hj; exact hj
 have e : (rz l w)[j] = rzc l w j := by
  have := rz_get (l := l) hjw
  rw [List.getElem?_eq_getElem hj] at this
  exact Option.some.inj this
 rw [e]
 refine ⟨?_, fun h2 => ?_, fun h3 => ?_⟩
 ·unfold rzc
  split
  ·rename_i h; exact hs.rg h.1
  ·rfl
 ·rw [rzc_kd] at h2
  split at h2
  ·rename_i h
   have h4 := hs.two h2
   have h5 : j + 1 < l.length := kd_lt (by rw [h4]; decide)
   have h6 : j + 1 < w := by omega
   rw [kd_rz h6, rzc_kd, if_pos ⟨h5, .inr (by rw [h4]; decide)⟩, h4]
  ·cases h2
 ·rw [rzc_kd] at h3
  split at h3
  ·rename_i h
   obtain ⟨h4, h5⟩ := hs.three h3
   have h6 : j - 1 < l.length := by omega
   refine ⟨h4, ?_⟩
   rw [kd_rz (by omega), rzc_kd, if_pos ⟨h6, .inl (by omega)⟩, h5]
  ·cases h3
theorem rz_nil (w : Nat) : rz [] w = List.replicate w bl := by
 refine List.ext_getElem? fun j => ?_
 rcases Nat.lt_or_ge j w with h | h
 ·rw [rz_get h, List.getElem?_replicate, if_pos h]
  unfold rzc
  rw [if_neg (by simp)]
 ·rw [List.getElem?_eq_none (by rw [rz_len]; exact h), List.getElem?_eq_none (by simpa using h)]
theorem fit_cut {n : Nat} (hn : n ≤ l.length) (hl : l.length ≤ 1024) : f_fit_cut l n = some (if 0 < n ∧ kd l (n - 1) = 2 then (l.take n).set (n - 1) bl else l.take n) := by
 unfold f_fit_cut
 rw [show (0 : Int) = ((0 : Nat) : Int) from rfl, slc_eq (Nat.zero_le _) hn, List.drop_zero, Nat.sub_zero]
 simp only [bsm]
 by_cases h0 : 0 < n
 ·have e : w64 ((n : Int) - 1) = ((n - 1 : Nat) : Int) := by rw [w64_in (by omega)]; omega
  have hlt : n - 1 < (l.take n).length := by simp; omega
  have hk : (l.take n)[n - 1].Kind = kd l (n - 1) := by rw [List.getElem_take, kd_at (by omega)]
  rw [show decide ((n : Int) > ((0 : Nat) : Int)) = true by simpa using h0, e, idx_at hlt]
  simp only [andE_true, bsm, hk]
  by_cases h2 : kd l (n - 1) = 2
  ·rw [if_pos (by simpa using h2), if_pos ⟨h0, h2⟩, sets_nat hlt]
   rfl
  ·rw [if_neg (by simpa using h2), if_neg (fun h => h2 h.2)]
   rfl
 ·rw [show decide ((n : Int) > ((0 : Nat) : Int)) = false by simpa using h0, if_neg (fun h => h0 h.1)]
  simp only [andE_false, bsm, Bool.false_eq_true, if_false]
theorem cut_rz (hs : Snd l) {w n : Nat} (hn : n = min w l.length) (w1 : 1 ≤ w) (l1 : 1 ≤ l.length) : (if 0 < n ∧ kd l (n - 1) = 2 then (l.take n).set (n - 1) bl else l.take n) ++ List.replicate (w - n) bl = rz l w := by
 have hlen : (if 0 < n ∧ kd l (n - 1) = 2 then (l.take n).set (n - 1) bl else l.take n).length = n := by split <;> simp <;> omega
 refine List.ext_getElem? fun j => ?_
 rcases Nat.lt_or_ge j w with h | h
 ·rw [rz_get h]
  rcases Nat.lt_or_ge j n with hj | hj
  ·rw [List.getElem?_append_left (by omega)]
   have hjl : j < l.length := by omega
   have g : l.getD j bl = l[j] := by rw [List.getD_eq_getElem?_getD, List.getElem?_eq_getElem hjl]; rfl
   unfold rzc
   split
   ·rename_i h2
    rw [List.getElem?_set]
    by_cases e : n - 1 = j
    ·subst e
     rw [if_pos rfl, if_pos (by simp; omega), if_neg]
     rintro ⟨_, h5 | h5⟩
     ·have := hs.two h2.2
      have := kd_lt (l := l) (j := n - 1 + 1) (by omega)
      omega
     ·exact h5 h2.2
    ·rw [if_neg e, List.getElem?_take, if_pos hj, List.getElem?_eq_getElem hjl, if_pos ⟨hjl, by omega⟩, g]
   ·rename_i h2
    rw [List.getElem?_take, if_pos hj, List.getElem?_eq_getElem hjl, if_pos, g]
    refine ⟨hjl, ?_⟩
    by_cases e : j + 1 < w
    ·exact .inl e
    ·right
     intro h3
     exact h2 ⟨by omega, by rw [show n - 1 = j by omega]; exact h3⟩
  ·rw [List.getElem?_append_right (by omega), hlen, List.getElem?_replicate, if_pos (by omega)]
   unfold rzc
   rw [if_neg (by omega)]
 ·rw [List.getElem?_eq_none (by rw [List.length_append, hlen, List.length_replicate]; omega), List.getElem?_eq_none (by rw [rz_len]; exact h)]
theorem fit_resize {wr : Bool} (h : s.row_Row[k]? = some ⟨l, wr⟩) (hs : Snd l) (l1 : 1 ≤ l.length) (l2 : l.length ≤ 1024) {w : Nat} (w1 : 1 ≤ w) (w2 : w ≤ 1024) :
  f_fit_Resize s (some k) w = some (s.add_row_Row ⟨rz l w, false⟩, some s.row_Row.length) := by
 have e1 : imax 1 (imin (w : Int) 1024) = (w : Int) := by rw [imin_eq, imax_eq]; omega
 unfold f_fit_Resize
 rw [e1]
 simp only [Option.isNone_some, Bool.false_eq_true, if_false, row_cells h (by omega) hs.sht, row_wide h, bsm]
 obtain ⟨n, hn⟩ : ∃ n, n = min w l.length := ⟨_, rfl⟩
 rw [show imin (w : Int) (l.length : Int) = (n : Int) by rw [imin_eq]; omega, fit_cut (by omega) l2]
 have hlen : (if 0 < n ∧ kd l (n - 1) = 2 then (l.take n).set (n - 1) bl else l.take n).length = n := by split <;> simp <;> omega
 have hcr := cut_rz hs hn w1 l1
 generalize (if 0 < n ∧ kd l (n - 1) = 2 then (l.take n).set (n - 1) bl else l.take n) = c at *
 simp only [bsm]
 rw [hlen, w64_in (by omega), blanks]
 simp only [bsm]
 rw [show (max 0 (min ((w : Int) - (n : Int)) 1024)).toNat = w - n by omega, app_eq (by simp; omega), hcr]
 simp only [bsm]
 unfold f_fit_of
 rw [row_of (by rw [rz_len]; exact w1) (by rw [rz_len]; exact w2) (rz_snd hs w)]
 rfl
theorem ref_resize (l : List G_api_Cell) (hl : l.length ≤ 1000000) {w : Nat} (w1 : 1 ≤ w) (w2 : w ≤ 1024) : f_linotyperef28_Resize l w = some (rz l w) := by
 have e1 : imax 1 (imin (w : Int) 1024) = (w : Int) := by rw [imin_eq, imax_eq]; omega
 unfold f_linotyperef28_Resize
 rw [e1, rep_eq _ (by omega), show (⟨0, []⟩ : G_api_Cell) = bl from rfl, Int.toNat_natCast]
 simp only [bsm]
 obtain ⟨t, h3, h4⟩ := iter_for (σ := (List G_api_Cell) × Int) (τ := (List G_api_Cell)) (n := min w l.length) (fuel := ((w : Int) - 0).toNat + 1) (s := (List.replicate w bl, 0))
  (fun i q => q = ((List.range w).map (fun j => if j < i then rzc l w j else bl), (i : Int))) (fun t => t = rz l w)
  (step := fun s_14 =>
 (andE (decide (s_14.2 < (w : Int))) (some (decide (s_14.2 < (l.length : Int))))).bind fun d_18 =>
 if d_18 = true then
 ((orE (decide ((w64 (s_14.2 + 1)) < (w : Int))) ((idx l s_14.2).bind fun x_34 =>
 some (x_34.Kind != 2))).bind fun d_30 =>
 if d_30 = true then
 (idx l s_14.2).bind fun x_43 =>
 (idx s_14.1 s_14.2).bind fun x_45 =>
 (sets s_14.1 s_14.2 x_43).bind fun w_46 =>
 (some (w_46) : Option ((List G_api_Cell)))
 else
 (some (s_14.1) : Option ((List G_api_Cell)))).bind fun z_25 =>
 some (.inl (z_25, (w64 (s_14.2 + 1))))
 else
 some (.inr (s_14.1)))
  (fun i q hi e => by
   subst e
   refine .inl ⟨_, ?_, rfl⟩
   have e5 : w64 ((i : Int) + 1) = ((i + 1 : Nat) : Int) := by rw [w64_in (by omega)]; simp
   have hil : i < l.length := by omega
   have hd : (decide ((i : Int) < (w : Int)) && decide ((i : Int) < (l.length : Int))) = true := by simp; omega
   have hlt : i < ((List.range w).map (fun j => if j < i then rzc l w j else bl)).length := by simp; omega
   have ho : (orE (decide (((i + 1 : Nat) : Int) < (w : Int))) ((idx l (i : Int)).bind fun x_34 => some (x_34.Kind != 2))) = some (decide (i + 1 < w ∨ kd l i ≠ 2)) := by
    rw [idx_at hil]
    simp only [bsm, orE_some, ← kd_at hil, Option.some.injEq]
    rw [Bool.eq_iff_iff]
    simp only [Bool.or_eq_true, decide_eq_true_eq, bne_iff_ne]
    omega
   simp only [andE_some, bsm, hd, if_true, e5]
   rw [ho]
   simp only [bsm]
   have hnext : ∀ c : G_api_Cell, c = rzc l w i → ((List.range w).map (fun j => if j < i then rzc l w j else bl)).set i c = (List.range w).map (fun j => if j < i + 1 then rzc l w j else bl) := fun c hc => by
    refine List.ext_getElem? fun j => ?_
    rw [List.getElem?_set]
    by_cases e : i = j
    ·subst e
     rw [if_pos rfl, if_pos hlt, List.getElem?_map, List.getElem?_range (by omega), hc]
     simp
    ·rw [if_neg e, List.getElem?_map, List.getElem?_map]
     rcases Nat.lt_or_ge j w with hj | hj
     ·rw [List.getElem?_range hj]
      simp only [Option.map_some, Option.some.injEq]
      by_cases h5 : j < i
      ·rw [if_pos h5, if_pos (by omega)]
      ·rw [if_neg h5, if_neg (by omega)]
     ·rw [List.getElem?_eq_none (by simpa using hj)]
      rfl
   by_cases hc : i + 1 < w ∨ kd l i ≠ 2
   ·rw [if_pos (by simpa using hc), idx_at hil, idx_at hlt]
    simp only [bsm]
    rw [sets_nat hlt, hnext l[i] (by
     unfold rzc
     rw [if_pos ⟨hil, hc⟩, List.getD_eq_getElem?_getD, List.getElem?_eq_getElem hil]
     rfl)]
    rfl
   ·rw [if_neg (by simpa using hc)]
    simp only [bsm]
    have hb : rzc l w i = bl := by
     unfold rzc
     rw [if_neg (fun h => hc h.2)]
    have := hnext bl hb.symm
    rw [← this]
    congr 3
    refine (List.ext_getElem? fun j => ?_).symm
    rw [List.getElem?_set]
    by_cases e : i = j
    ·subst e
     rw [if_pos rfl, if_pos hlt, List.getElem?_map, List.getElem?_range (by omega)]
     simp
    ·rw [if_neg e])
  (fun q e => ⟨q.1, by
   subst e
   have hd : (decide (((min w l.length : Nat) : Int) < (w : Int)) && decide (((min w l.length : Nat) : Int) < (l.length : Int))) = false := by
    rw [Bool.eq_false_iff]
    simp only [ne_eq, Bool.and_eq_true, decide_eq_true_eq]
    omega
   simp only [andE_some, bsm, hd, Bool.false_eq_true, if_false], by
   subst e
   simp only
   unfold rz
   refine List.map_congr_left fun j hj => ?_
   rw [List.mem_range] at hj
   by_cases h5 : j < min w l.length
   ·rw [if_pos h5]
   ·rw [if_neg h5]
    unfold rzc
    rw [if_neg (by omega)]⟩)
  (by
   simp only [Nat.not_lt_zero, if_false, Prod.mk.injEq]
   refine ⟨?_, rfl⟩
   rw [List.map_const', List.length_range]) (by omega)
 subst h4
 rw [h3]
 rfl
def cs (L : List G_api_Line) (n : Nat) : List G_api_Cell := (L.getD n ⟨[], false⟩).Cells
def rs (L : List G_api_Line) (top w h : Nat) : List G_api_Line := (List.range h).map fun m => ⟨rz (cs L (top + m)) w, false⟩
def rsi (L : List G_api_Line) (top w h i : Nat) : List G_api_Line := (List.range h).map fun m => if m < i then ⟨rz (cs L (top + m)) w, false⟩ else ⟨List.replicate w bl, false⟩
theorem cs_out {L : List G_api_Line} {n : Nat} (h : L.length ≤ n) : cs L n = [] := by
 unfold cs
 rw [List.getD_eq_getElem?_getD, List.getElem?_eq_none h]
 rfl
theorem cs_at {L : List G_api_Line} {n : Nat} (h : n < L.length) : cs L n = L[n].Cells := by
 unfold cs
 rw [List.getD_eq_getElem?_getD, List.getElem?_eq_getElem h]
 rfl
theorem rsi_set (L : List G_api_Line) (top w : Nat) {h i : Nat} (hi : i < h) : (rsi L top w h i).set i ⟨rz (cs L (top + i)) w, false⟩ = rsi L top w h (i + 1) := by
 unfold rsi
 refine List.ext_getElem? fun j => ?_
 rw [List.getElem?_set, List.length_map, List.length_range]
 by_cases e : i = j
 ·subst e
  rw [if_pos rfl, if_pos hi, List.getElem?_map, List.getElem?_range hi]
  simp
 ·rw [if_neg e, List.getElem?_map, List.getElem?_map]
  rcases Nat.lt_or_ge j h with hj | hj
  ·rw [List.getElem?_range hj]
   simp only [Option.map_some, Option.some.injEq]
   by_cases h5 : j < i
   ·rw [if_pos h5, if_pos (by omega)]
   ·rw [if_neg h5, if_neg (by omega)]
  ·rw [List.getElem?_eq_none (by simpa using hj)]
   rfl
theorem rsi_skip (L : List G_api_Line) {top w h i : Nat} (ho : L.length ≤ top + i) (hi : i < h) : rsi L top w h (i + 1) = rsi L top w h i := by
 rw [← rsi_set L top w hi, cs_out ho, rz_nil]
 refine List.ext_getElem? fun j => ?_
 rw [List.getElem?_set]
 by_cases e : i = j
 ·subst e
  unfold rsi
  rw [if_pos rfl, if_pos (by simp; exact hi), List.getElem?_map, List.getElem?_range hi]
  simp
 ·rw [if_neg e]
theorem rsi_all (L : List G_api_Line) (top w h : Nat) : rsi L top w h h = rs L top w h := by
 unfold rsi rs
 refine List.map_congr_left fun m hm => ?_
 rw [List.mem_range] at hm
 rw [if_pos hm]
theorem rsi_zero (L : List G_api_Line) (top w h : Nat) : rsi L top w h 0 = bls w h := by
 unfold rsi bls
 simp only [Nat.not_lt_zero, if_false]
 rw [List.map_const', List.length_range]
theorem nd_set {xs : List Nat} (nd : xs.Nodup) {x i : Nat} (hx : x ∉ xs) : (xs.set i x).Nodup := by
 rw [List.Nodup, List.pairwise_iff_getElem] at *
 intro a b ha hb hab
 rw [List.length_set] at ha hb
 rw [List.getElem_set, List.getElem_set]
 split
 ·split
  ·omega
  ·exact fun e => hx (e ▸ List.getElem_mem hb)
 ·split
  ·exact fun e => hx (e ▸ List.getElem_mem ha)
  ·exact nd a b ha hb hab
theorem Gw.sgo {g2 : Nat} (h : Gw s g ks W) (hne : g2 ≠ g) (x : G_grid_Grid) : Gw (s.sg g2 x) g ks W :=
 ⟨by rw [← h.g]; simp [Sto.sg, List.getElem?_set_ne hne], h.r, h.h1, h.h2, h.w1, h.w2⟩
theorem Gw.addg (h : Gw s g ks W) (x : G_grid_Grid) : Gw (s.add_grid_Grid x) g ks W :=
 ⟨by rw [← h.g]; simp only [Sto.add_grid_Grid]; exact List.getElem?_append_left (get_lt h.g), h.r, h.h1, h.h2, h.w1, h.w2⟩
theorem Rf.more {s' : Sto} {g2 : Nat} {ks' : List Nat} (h : Rf s s' g ks g2 ks') (hg2 : s.grid_Grid.length ≤ g2) (xs : List G_row_Row) (x : G_grid_Grid) (i : Nat) : Rf s ((s'.addr xs).sg g2 x) g ks g2 (ks'.set i s'.row_Row.length) := by
 have e : ((s'.addr xs).sg g2 x).row_Row = s'.row_Row ++ xs := rfl
 have e2 : ((s'.addr xs).sg g2 x).grid_Grid = s'.grid_Grid.set g2 x := rfl
 have hr := h.rl
 refine ⟨by rw [e2, List.length_set]; exact h.gl, by rw [e, List.length_append]; omega, fun j a b => by rw [e2, List.getElem?_set_ne (by omega)]; exact h.gr j a b, fun j a b => by rw [e, List.getElem?_append_left (by omega)]; exact h.rw j a b, h.ng, fun r hr => ?_⟩
 rcases List.mem_or_eq_of_mem_set hr with q | rfl
 ·exact h.nr r q
 ·exact .inr h.rl
theorem Rf.begun (xs : List G_row_Row) (x : G_grid_Grid) {g2 : Nat} (hg2 : g2 = s.grid_Grid.length) (m : Nat) : Rf s ((s.addr xs).add_grid_Grid x) g ks g2 (List.range' s.row_Row.length m) := by
 subst hg2
 refine ⟨by simp [Sto.add_grid_Grid, Sto.addr], by simp [Sto.add_grid_Grid, Sto.addr], fun j hj _ => ?_, fun j hj _ => ?_, .inr (Nat.le_refl _), fun r hr => .inr (List.mem_range'_1.1 hr).1⟩
 ·simp only [Sto.add_grid_Grid, Sto.addr]; exact List.getElem?_append_left hj
 ·simp only [Sto.add_grid_Grid, Sto.addr]; exact List.getElem?_append_left hj
theorem size_loop (h : Pv C s k g W q ks) {w hh top : Nat} (w1 : 1 ≤ w) (w2 : w ≤ 1024) (h1 : 1 ≤ hh) (h2 : hh ≤ 1024) (ht : top ≤ 1024) {g2 : Nat} (hg2 : g2 = s.grid_Grid.length) :
  ∃ s' ks', iter (σ := Int × Sto) (τ := Sto) (((hh : Int) - 0).toNat + 1) (fun s_54 =>
 if (decide (s_54.1 < (hh : Int))) = true then
 ((s_54.2.place_Pen[k]?).bind fun o_64 =>
 (f_grid_Grid_Row s_54.2 o_64.G (w64 ((top : Int) + s_54.1))).bind fun x_68 =>
 if (!x_68.isNone) = true then
 (f_fit_Resize s_54.2 x_68 (w : Int)).bind fun x_78 =>
 (f_grid_Grid_Set x_78.1 (some g2) s_54.1 x_78.2).bind fun x_79 =>
 (some (x_79.1) : Option (Sto))
 else
 (some (s_54.2) : Option (Sto))).bind fun z_57 =>
 some (.inl ((w64 (s_54.1 + 1)), z_57))
 else
 some (.inr (s_54.2))) (0, (s.addr ((bls w hh).map lr)).add_grid_Grid ⟨(List.range' s.row_Row.length hh).map some⟩) = some s' ∧
  Gw s' g2 ks' w ∧ ks'.Nodup ∧ ks'.map (ln s') = rs q.L top w hh ∧ s'.rst = s.rst ∧ Rf s s' g ks g2 ks' := by
 have hb : (bls w hh).length = hh := by simp [bls]
 have h0 : ((bls w hh)[0]'(by omega)).Cells.length = w := by simp [bls]
 obtain ⟨b1, b2⟩ := gw_of (s := s) (L := bls w hh) (by omega) (by omega) (bls_ok w1 w2 h1)
 rw [h0, ← hg2] at b1
 rw [hb] at b1 b2
 have hgl := get_lt h.g.g
 obtain ⟨t, e1, e2⟩ := iter_for (σ := Int × Sto) (τ := Sto) (n := hh) (fuel := ((hh : Int) - 0).toNat + 1) (s := (0, (s.addr ((bls w hh).map lr)).add_grid_Grid ⟨(List.range' s.row_Row.length hh).map some⟩))
  (fun i q2 => q2.1 = (i : Int) ∧ q2.2.rst = s.rst ∧ Gw q2.2 g ks W ∧ ks.map (ln q2.2) = q.L ∧ ∃ ks', Gw q2.2 g2 ks' w ∧ ks'.Nodup ∧ ks'.length = hh ∧ ks'.map (ln q2.2) = rsi q.L top w hh i ∧ Rf s q2.2 g ks g2 ks')
  (fun t => t.rst = s.rst ∧ ∃ ks', Gw t g2 ks' w ∧ ks'.Nodup ∧ ks'.map (ln t) = rs q.L top w hh ∧ Rf s t g ks g2 ks')
  (step := fun s_54 =>
 if (decide (s_54.1 < (hh : Int))) = true then
 ((s_54.2.place_Pen[k]?).bind fun o_64 =>
 (f_grid_Grid_Row s_54.2 o_64.G (w64 ((top : Int) + s_54.1))).bind fun x_68 =>
 if (!x_68.isNone) = true then
 (f_fit_Resize s_54.2 x_68 (w : Int)).bind fun x_78 =>
 (f_grid_Grid_Set x_78.1 (some g2) s_54.1 x_78.2).bind fun x_79 =>
 (some (x_79.1) : Option (Sto))
 else
 (some (s_54.2) : Option (Sto))).bind fun z_57 =>
 some (.inl ((w64 (s_54.1 + 1)), z_57))
 else
 some (.inr (s_54.2)))
  (fun i q2 hi ⟨e, hp, hg, hl, ks', c1, c2, c3, c4, c5⟩ => by
   obtain ⟨j, st⟩ := q2
   simp only at e hp hg hl c1 c2 c3 c4 c5
   subst e
   have e5 : w64 ((i : Int) + 1) = ((i + 1 : Nat) : Int) := by rw [w64_in (by omega)]; simp
   have e6 : w64 ((top : Int) + (i : Int)) = ((top + i : Nat) : Int) := by rw [w64_in (by omega)]; simp
   have hd : decide ((i : Int) < (hh : Int)) = true := by simp; exact hi
   simp only [hd, if_true, rst_pen hp, h.p, bsm, e5, e6]
   have hlen := h.len
   by_cases ho : top + i < ks.length
   ·rw [grid_row hg ho]
    simp only [bsm, Option.isNone_some, Bool.not_false, if_true]
    obtain ⟨r, r1, r2, r3⟩ := hg.at ho
    have hr := fit_resize (l := r.cells) (wr := r.wrap) r1 r2 (by rw [r3]; exact hg.w1) (by rw [r3]; exact hg.w2) w1 w2
    rw [hr]
    simp only [bsm]
    have ea : st.add_row_Row ⟨rz r.cells w, false⟩ = st.addr [⟨rz r.cells w, false⟩] := by simp [Sto.add_row_Row, Sto.addr]
    rw [ea]
    have c1' := c1.addr (xs := [⟨rz r.cells w, false⟩])
    have hg' := hg.addr (xs := [⟨rz r.cells w, false⟩])
    have hnew : (st.addr [⟨rz r.cells w, false⟩]).row_Row[st.row_Row.length]? = some ⟨rz r.cells w, false⟩ := by simp [Sto.addr]
    have hrw : Rw (st.addr [⟨rz r.cells w, false⟩]) w st.row_Row.length := ⟨_, hnew, rz_snd r2 w, rz_len _ _⟩
    rw [grid_set c1' (show i < ks'.length by omega) hrw]
    simp only [bsm]
    have hL : cs q.L (top + i) = r.cells := by
     rw [cs_at (by rw [← hl]; simpa using ho)]
     have : q.L[top + i]? = (ks.map (ln st))[top + i]? := by rw [hl]
     rw [List.getElem?_eq_getElem (by rw [← hl]; simpa using ho), List.getElem?_map, List.getElem?_eq_getElem ho, Option.map_some, ln_eq r1] at this
     rw [Option.some.inj this]
    refine .inl ⟨_, rfl, rfl, hp, hg'.sgo (by omega) _, ?_, ks'.set i st.row_Row.length, c1'.set hrw, nd_set c2 fun hm => absurd (c1.r _ hm).lt (Nat.lt_irrefl _), by rw [List.length_set]; exact c3, ?_, c5.more (by omega) _ _ _⟩
    ·rw [← hl]
     refine List.map_congr_left fun x hx => ?_
     rw [ln_sg]
     exact ln_old (hg.r x hx).lt
    ·rw [← rsi_set _ _ _ hi, ← c4, hL, List.map_set, ln_sg, ln_eq hnew]
     congr 1
     refine List.map_congr_left fun x hx => ?_
     rw [ln_sg]
     exact ln_old (c1.r x hx).lt
   ·rw [grid_row_out hg (.inr (by omega))]
    simp only [bsm, Option.isNone_none, Bool.not_true, Bool.false_eq_true, if_false]
    exact .inl ⟨_, rfl, rfl, hp, hg, hl, ks', c1, c2, c3, by rw [rsi_skip _ (by omega) hi]; exact c4, c5⟩)
  (fun q2 ⟨e, hp, _, _, ks', c1, c2, _, c4, c5⟩ => ⟨q2.2, by
   have hd : decide (q2.1 < (hh : Int)) = false := by rw [e]; simp
   simp only [hd, Bool.false_eq_true, if_false], hp, ks', c1, c2, by rw [c4, rsi_all], c5⟩)
  ⟨rfl, rfl, (h.g.addr (xs := (bls w hh).map lr)).addg _, by
   rw [← h.l]
   refine List.map_congr_left fun x hx => ?_
   exact ln_old (h.g.r x hx).lt, _, b1, List.nodup_range', by simp, by rw [rsi_zero]; exact b2, Rf.begun _ _ hg2 _⟩ (by omega)
 obtain ⟨p1, ks', p2, p3, p4, p5⟩ := e2
 exact ⟨t, ks', e1, p2, p3, p4, p1, p5⟩
def tp (c : G_api_Cursor) (h : Nat) : Nat := (c.Row - h + 1).toNat
theorem ref39 (h : Pv C s k g W q ks) (a b : Int) : f_linotyperef39_Resize q a b = some ⟨rs q.L (tp (hc q.At W ks.length) (sd b)) (sd a) (sd b), ⟨(hc q.At W ks.length).Row - tp (hc q.At W ks.length) (sd b), min (hc q.At W ks.length).Col ((sd a : Int) - 1), false⟩, q.Auto⟩ := by
 have hd := hc_hd q.At h.g.w1 h.g.h1
 have hl := h.len
 have hh2 := h.g.h2
 have ha := sd_in a
 have hb := sd_in b
 have side : ∀ n : Int, f_linotyperef31_Side n = some (sd n : Int) := fun n => by
  unfold f_linotyperef31_Side
  by_cases h1 : n < 1
  ·rw [if_pos (by simpa using h1)]
   congr 1
   unfold sd
   omega
  ·rw [if_neg (by simpa using h1)]
   by_cases h2 : n > 1024
   ·rw [if_pos (by simpa using h2)]
    congr 1
    unfold sd
    omega
   ·rw [if_neg (by simpa using h2)]
    congr 1
    unfold sd
    omega
 unfold f_linotyperef39_Resize
 rw [ref_Hold h]
 generalize hc q.At W ks.length = c at *
 have hr := hd.rr
 simp only [bsm, side]
 obtain ⟨t, e1, e2⟩ := iter_for (σ := (List G_api_Line) × Int) (τ := ((List G_api_Line) × Int)) (n := tp c (sd b)) (fuel := (c.Row - (sd b : Int)).toNat + 2) (s := (q.L, c.Row))
  (fun i q2 => q2 = (q.L.drop i, c.Row - i)) (fun t => t = (q.L.drop (tp c (sd b)), c.Row - tp c (sd b)))
  (step := fun s_25 =>
 if (decide (s_25.2 ≥ (sd b : Int))) = true then
 (slc s_25.1 1 s_25.1.length).bind fun x_32 =>
 some (.inl (x_32, (w64 (s_25.2 - 1))))
 else
 some (.inr (s_25.1, s_25.2)))
  (fun i q2 hi e => by
   subst e
   refine .inl ⟨_, ?_, rfl⟩
   unfold tp at hi
   have hd : decide (c.Row - (i : Int) ≥ (sd b : Int)) = true := by simp; omega
   simp only [hd, if_true]
   rw [show (1 : Int) = ((1 : Nat) : Int) from rfl, slc_eq (by simp; omega) (Nat.le_refl _), w64_in (by omega)]
   simp only [bsm, List.drop_drop]
   rw [List.take_of_length_le (by simp; omega)]
   congr 3
   omega)
  (fun q2 e => ⟨q2, by
   subst e
   have hd : decide (c.Row - (tp c (sd b) : Int) ≥ (sd b : Int)) = false := by
    unfold tp
    simp
    omega
   simp only [hd, Bool.false_eq_true, if_false], e⟩)
  (by simp) (by unfold tp; omega)
 subst e2
 rw [e1]
 simp only [bsm]
 obtain ⟨t, e3, e4⟩ := iter_for (σ := (List G_api_Line) × Int) (τ := (List G_api_Line)) (n := sd b) (fuel := ((sd b : Int) - 0).toNat + 1) (s := (([] : List G_api_Line), 0))
  (fun i q2 => q2 = ((rs q.L (tp c (sd b)) (sd a) (sd b)).take i, (i : Int))) (fun t => t = rs q.L (tp c (sd b)) (sd a) (sd b))
  (step := fun s_45 =>
 if (decide (s_45.2 < (sd b : Int))) = true then
 (if (decide (s_45.2 < ((q.L.drop (tp c (sd b))).length : Int))) = true then
 (idx (q.L.drop (tp c (sd b))) s_45.2).bind fun x_60 =>
 (some (x_60.Cells) : Option ((List G_api_Cell)))
 else
 (some (([] : List G_api_Cell)) : Option ((List G_api_Cell)))).bind fun z_52 =>
 (f_linotyperef28_Resize z_52 (sd a : Int)).bind fun x_68 =>
 (app s_45.1 ([(⟨x_68, false⟩ : G_api_Line)] : List G_api_Line)).bind fun x_71 =>
 some (.inl (x_71, (w64 (s_45.2 + 1))))
 else
 some (.inr (s_45.1)))
  (fun i q2 hi e => by
   subst e
   refine .inl ⟨_, ?_, rfl⟩
   have e5 : w64 ((i : Int) + 1) = ((i + 1 : Nat) : Int) := by rw [w64_in (by omega)]; simp
   have hd : decide ((i : Int) < (sd b : Int)) = true := by simp; exact hi
   have hz : (if (decide ((i : Int) < ((q.L.drop (tp c (sd b))).length : Int))) = true then (idx (q.L.drop (tp c (sd b))) (i : Int)).bind fun x_60 => (some (x_60.Cells) : Option ((List G_api_Cell))) else (some (([] : List G_api_Cell)) : Option ((List G_api_Cell)))) = some (cs q.L (tp c (sd b) + i)) := by
    by_cases ho : i < (q.L.drop (tp c (sd b))).length
    ·rw [if_pos (by simpa using ho), idx_at ho]
     have ho2 : tp c (sd b) + i < q.L.length := by simp at ho; omega
     rw [cs_at ho2]
     simp only [bsm, List.getElem_drop]
    ·rw [if_neg (by simpa using ho), cs_out (by simp at ho; omega)]
   simp only [hd, if_true, e5]
   rw [hz]
   simp only [bsm]
   have hcl : (cs q.L (tp c (sd b) + i)).length ≤ 1000000 := by
    by_cases ho : tp c (sd b) + i < q.L.length
    ·rw [cs_at ho, (h.ok _ (List.getElem_mem ho)).2]
     have := h.g.w2
     omega
    ·rw [cs_out (by omega)]
     simp
   rw [ref_resize _ hcl ha.1 ha.2]
   simp only [bsm]
   have hlt : i < (rs q.L (tp c (sd b)) (sd a) (sd b)).length := by simp [rs]; exact hi
   rw [app_eq (by simp; omega), List.take_succ_eq_append_getElem hlt]
   simp [rs])
  (fun q2 e => ⟨q2.1, by subst e; simp, by subst e; simp only; rw [List.take_of_length_le (by simp [rs])]⟩)
  (by simp) (by omega)
 subst e4
 rw [e3]
 simp only [bsm]
 rw [w64_in (by omega), imin_eq]
theorem size_eq (h : Pv C s k g W q ks) (a b : Int) : ∃ s' q' g' ks', f_size_Resize s (some k) a b = some s' ∧ f_linotyperef39_Resize q a b = some q' ∧ Pv C s' k g' (sd a) q' ks' ∧ q'.L = rs q.L (tp (hc q.At W ks.length) (sd b)) (sd a) (sd b) ∧ Hd q'.At (sd a) (sd b) := by
 have hd := hc_hd q.At h.g.w1 h.g.h1
 have hh2 := h.g.h2
 have ha := sd_in a
 have hb := sd_in b
 have sdd : ∀ n : Int, imax 1 (imin n 1024) = (sd n : Int) := fun n => by
  rw [imin_eq, imax_eq]
  unfold sd
  omega
 have hc1 := cur_hold q.At h.g.w1 h.g.w2 h.g.h1 h.g.h2
 have h39 := ref39 h a b
 generalize hc q.At W ks.length = c at *
 have hr := hd.rr
 have hcc := hd.cc
 have etp : imax 0 (w64 ((w64 (c.Row - (sd b : Int))) + 1)) = (tp c (sd b) : Int) := by
  rw [w64_in (n := c.Row - (sd b : Int)) (by omega), w64_in (by omega), imax_eq]
  unfold tp
  omega
 obtain ⟨s', ks', e1, g1, g2, g3, g4, g5⟩ := size_loop h ha.1 ha.2 hb.1 hb.2 (top := tp c (sd b)) (by unfold tp; omega) rfl
 have hgn := grid_new (s := s) (sd a : Int) (sd b : Int)
 rw [sd_id ha.1 ha.2, sd_id hb.1 hb.2] at hgn
 have hp' : s'.place_Pen[k]? = some ⟨some g, q.At, q.Auto⟩ := by rw [rst_pen g4]; exact h.p
 have hmv : f_cursor_Move (c.Row - (tp c (sd b) : Int)) c.Col (sd a : Int) (sd b : Int) = some ⟨c.Row - tp c (sd b), min c.Col ((sd a : Int) - 1), false⟩ := by
  unfold f_cursor_Move
  rw [cur_hold _ ha.1 ha.2 hb.1 hb.2]
  simp only [bsm, hc, Option.some.injEq, G_api_Cursor.mk.injEq, Bool.false_and, and_true]
  unfold tp
  omega
 refine ⟨(s'.sp k ⟨some s.grid_Grid.length, q.At, q.Auto⟩).sp k ⟨some s.grid_Grid.length, ⟨c.Row - tp c (sd b), min c.Col ((sd a : Int) - 1), false⟩, q.Auto⟩, _, s.grid_Grid.length, ks', ?_, h39, ?_, rfl, ⟨by simp only; unfold tp; omega, by simp only; omega, fun e => by cases e⟩⟩
 ·unfold f_size_Resize
  simp only [Option.isNone_some, orE_false, bsm, h.p, Bool.false_eq_true, if_false]
  rw [grid_wide h.g, grid_high h.g]
  simp only [bsm, sdd]
  rw [hc1]
  simp only [bsm]
  rw [hgn]
  simp only [bsm, etp]
  rw [e1]
  simp only [bsm, hp']
  rw [set_pen (get_lt hp')]
  simp only [bsm]
  rw [w64_in (by unfold tp; omega), hmv]
  simp only [bsm]
  rw [set_pen (by simp [Sto.sp]; exact get_lt hp')]
  rfl
 ·rw [sp_sp]
  exact ⟨sp_get (get_lt hp'), g1.sp _ _, g2, g3, (rst_oth g4).trans h.o, (h.f.step g5 (rst_pen g4)).sp _⟩
end Go.Proofs.YthokmpbbkpjhbaaGreatDoor
namespace Go.Proofs.YthokmpbbkpjhbaaGreatDoor
open Go Go.Lt
variable {s C : Sto} {x f k g W H : Nat} {q P : G_linotyperef34_Pen} {ks : List Nat} {op : Option Nat}
structure Mo where
 P : G_linotyperef34_Pen
 G : List Int
 h : List Int
structure Sd (C s : Sto) (x f k : Nat) (m : Mo) (q : G_linotyperef34_Pen) : Prop where
 sc : s.screen_Screen[x]? = some ⟨some f, some k⟩
 bt : Bts m.h
 fd : ∃ g W H ks op, Fd C s f k g W H m.P m.G m.h q ks op
def lay (P : G_linotyperef34_Pen) (G : List Int) : Option G_linotyperef34_Pen := fo layc P (cls pj pr G)
def mdo (m : Mo) (o : G_api_Op) : Option Mo :=
 if o.Kind = 0 then some ⟨m.P, m.G ++ (rfeed m.h o.Bytes).1, (rfeed m.h o.Bytes).2⟩
 else if o.Kind = 1 then (lay m.P (m.G ++ (if m.h = [] then [] else [65533]))).map fun q => ⟨q, [], []⟩
 else if o.Kind = 13 then (lay m.P m.G).bind fun q => (f_linotyperef39_Resize q o.A o.B).map fun q' => ⟨q', [], m.h⟩
 else if w38 o = 0 then (lay m.P m.G).bind fun q => (f_linotyperef38_Do q o).map fun q' => ⟨q', [], m.h⟩
 else some m
def e40 (o : G_api_Op) : Er := if o.Kind = 0 ∨ o.Kind = 1 ∨ o.Kind = 13 then Er.nil else e38 o
theorem Fd.pen_work {h : List Int} (F : Fd C s f k g W H P [] h q ks none) {s' : Sto} {g' W' : Nat} {q' : G_linotyperef34_Pen} {ks' : List Nat} (v : Pv s s' k g' W' q' ks') (hh : Hd q'.At W' ks'.length) : Fd C s' f k g' W' ks'.length q' [] h q' ks' none := by
 obtain ⟨d, hd, hdv⟩ := F.d
 refine ⟨v.self, F.fr.trans F.v.oG F.v.oR v.f, F.fz.oth v.o, rfl, hh, rfl, F.gv, ⟨d, ?_, hdv⟩, fun _ => rfl, fun e => by cases e⟩
 rw [oth_fd v.o]
 exact hd
theorem screen_do {m : Mo} (S : Sd C s x f k m q) (o : G_api_Op) (hb : Bts o.Bytes) (hl : o.Bytes.length ≤ 9223372036854775807) : ∃ s' m' q', f_screen_Screen_Do s (some x) o = some (s', e40 o) ∧ mdo m o = some m' ∧ Sd C s' x f k m' q' := by
 obtain ⟨g, W, H, ks, op, F⟩ := S.fd
 have hC : C.screen_Screen[x]? = some ⟨some f, some k⟩ := by rw [← F.fz.sc]; exact S.sc
 have hs : ∀ {s' : Sto} {g W H : Nat} {P : G_linotyperef34_Pen} {G h : List Int} {q : G_linotyperef34_Pen} {ks : List Nat} {op : Option Nat}, Fd C s' f k g W H P G h q ks op → s'.screen_Screen[x]? = some ⟨some f, some k⟩ := fun F' => by rw [F'.fz.sc]; exact hC
 unfold f_screen_Screen_Do mdo e40
 simp only [Option.isNone_some, Bool.false_eq_true, if_false, bsm, beq_iff_eq, S.sc]
 by_cases k0 : o.Kind = 0
 ·obtain ⟨s', q', ks', op', b1, b2⟩ := fbytes_eq F S.bt hl hb
  rw [if_pos k0, if_pos k0, if_pos (.inl k0), b1]
  exact ⟨s', _, q', rfl, rfl, hs b2, rfeed_bts S.bt hb, ⟨_, _, _, _, _, b2⟩⟩
 rw [if_neg k0, if_neg k0]
 by_cases k1 : o.Kind = 1
 ·obtain ⟨s', q', ks', b1, b2, b3⟩ := fflush_eq F
  rw [if_pos k1, if_pos k1, if_pos (.inr (.inl k1)), b1]
  unfold lay
  rw [b3]
  exact ⟨s', _, q', rfl, rfl, hs b2, Bts.nil, ⟨_, _, _, _, _, b2⟩⟩
 rw [if_neg k1, if_neg k1]
 by_cases k13 : o.Kind = 13
 ·obtain ⟨s2, b1, b2⟩ := fclose_eq F
  obtain ⟨s', q', g', ks', c1, c2, c3, c4, c5⟩ := size_eq b2.v o.A o.B
  have hkl : ks'.length = sd o.B := by rw [← c3.len, c4]; simp [rs]
  rw [if_pos k13, if_pos k13, if_pos (.inr (.inr k13)), b1]
  have hl2 : lay m.P m.G = some q := F.l
  simp only [bsm, hs b2, hl2]
  rw [c1, c2]
  have F2 := b2.pen_work c3 (by rw [hkl]; exact c5)
  exact ⟨s', _, q', rfl, rfl, hs F2, S.bt, ⟨_, _, _, _, _, F2⟩⟩
 rw [if_neg k13, if_neg k13, if_neg (by omega), edit_wrong]
 simp only [bsm, e38_nil]
 by_cases hw : w38 o = 0
 ·rw [if_neg (by simp [hw]), if_pos hw]
  obtain ⟨s2, b1, b2⟩ := fclose_eq F
  obtain ⟨s', q', ks', c1, c2, c3, c4, c5, _⟩ := edit_eq b2.v o hw
  rw [b1]
  have hl2 : lay m.P m.G = some q := F.l
  simp only [bsm, hs b2, hl2]
  rw [c1, c2]
  have he : e38 o = Er.nil := by unfold e38; rw [hw]; rfl
  have F2 := b2.pen_work c3 (by rw [c4]; exact c5)
  exact ⟨s', _, q', by rw [he]; rfl, rfl, hs F2, S.bt, ⟨_, _, _, _, _, F2⟩⟩
 ·rw [if_pos (by simpa using hw), if_neg hw]
  exact ⟨s, m, q, rfl, rfl, S⟩
def vw (q : G_linotyperef34_Pen) : G_api_View := ⟨(q.L.getD 0 dl).Cells.length, (q.L.length : Int), q.L, q.At, q.Auto⟩
theorem screen_view {m : Mo} (S : Sd C s x f k m q) : f_screen_Screen_View s (some x) = some (vw q) := by
 obtain ⟨g, W, H, ks, op, F⟩ := S.fd
 unfold f_screen_Screen_View vw
 simp only [Option.isNone_some, Bool.false_eq_true, if_false, bsm, S.sc, F.v.p]
 rw [grid_wide F.v.g, grid_high F.v.g, grid_lines F.v.g, F.v.l]
 simp only [bsm]
 have hl := F.v.len
 have h1 := F.v.g.h1
 rw [gdl (show 0 < q.L.length by omega), (F.v.ok _ (List.getElem_mem (show 0 < q.L.length by omega))).2, hl]
theorem Sd.ok {m : Mo} (S : Sd C s x f k m q) : ∃ W : Nat, 1 ≤ W ∧ W ≤ 1024 ∧ 1 ≤ q.L.length ∧ q.L.length ≤ 1024 ∧ (∀ l ∈ q.L, Okl W l) ∧ (vw q).Wide = (W : Int) ∧ Hd q.At W q.L.length := by
 obtain ⟨g, W, H, ks, op, F⟩ := S.fd
 have hl := F.v.len
 have h1 := F.v.g.h1
 have h2 := F.v.g.h2
 refine ⟨W, F.v.g.w1, F.v.g.w2, by omega, by omega, F.v.ok, ?_, by rw [hl, F.n]; exact F.hd⟩
 unfold vw
 rw [gdl (show 0 < q.L.length by omega), (F.v.ok _ (List.getElem_mem (show 0 < q.L.length by omega))).2]
theorem screen_new (s : Sto) (w h : Int) : ∃ s', f_screen_New s w h = some (s', some s.screen_Screen.length) ∧ Sd s' s' s.screen_Screen.length s.feed_Feeder.length s.place_Pen.length ⟨⟨bls (sd w) (sd h), ⟨0, 0, false⟩, true⟩, [], []⟩ ⟨bls (sd w) (sd h), ⟨0, 0, false⟩, true⟩ := by
 obtain ⟨s1, ks, h1, v1⟩ := place_new (s := s) w h
 have hks := v1.g.h1
 have hW1 := v1.g.w1
 obtain ⟨s2, h2, d2, e2⟩ := feed_new v1.self ⟨by simp only; omega, by simp only; omega, fun e => by cases e⟩
 unfold f_screen_New
 rw [h1]
 simp only [bsm]
 rw [h2]
 simp only [bsm]
 have es : s1.screen_Screen = s.screen_Screen := oth_sc v1.o
 have ef : s1.feed_Feeder = s.feed_Feeder := oth_fd v1.o
 have es2 : s2.screen_Screen = s1.screen_Screen := by rw [e2]; rfl
 rw [es2, es, ef]
 rw [ef] at d2
 refine ⟨_, rfl, ⟨?_, Bts.nil, ⟨s.grid_Grid.length, sd w, ks.length, ks, none, ?_⟩⟩⟩
 ·have : (s2.add_screen_Screen ⟨some s.feed_Feeder.length, some s.place_Pen.length⟩).screen_Screen = s2.screen_Screen ++ [⟨some s.feed_Feeder.length, some s.place_Pen.length⟩] := rfl
  rw [this, es2, es]
  simp
 ·obtain ⟨d, hd, hdv⟩ := d2.d
  refine ⟨⟨d2.v.p, ⟨d2.v.g.g, d2.v.g.r, d2.v.g.h1, d2.v.g.h2, d2.v.g.w1, d2.v.g.w2⟩, d2.v.nd, d2.v.l, rfl, d2.v.f.rgp ⟨rfl, rfl, rfl⟩ ⟨rfl, rfl, rfl⟩⟩, d2.v.f.rgp ⟨rfl, rfl, rfl⟩ ⟨rfl, rfl, rfl⟩, Fz.self _ _ _ (fun y hy => ?_) (get_lt hd), rfl, d2.hd, rfl, fun y hy => by simp at hy, ⟨d, hd, hdv⟩, fun _ => rfl, fun e => by cases e⟩
  have hy' : s2.feed_Feeder[s.feed_Feeder.length]? = some y := hy
  rw [hd] at hy'
  cases hy'
  rfl
end Go.Proofs.YthokmpbbkpjhbaaGreatDoor
namespace Go.Proofs.YthokmpbbkpjhbaaGreatDoor
open Go Go.Lt
theorem of_snd {γ : Type} {x : Option (γ × Bool)} (h : x.map (fun q => q.2) = some true) : ∃ s, x = some (s, true) := by
 cases x with
 | none => cases h
 | some q =>
  obtain ⟨a, b⟩ := q
  simp only [Option.map_some, Option.some.injEq] at h
  subst h
  exact ⟨a, rfl⟩
theorem of_two {f : Sto → Option (Sto × Bool)} {s : Sto} (h1 : (f s).map (fun q => q.2) = some true) (h2 : ((f s).bind fun q => f q.1).map (fun q => q.2) = some true) : ∃ s1 s2, f s = some (s1, true) ∧ f s1 = some (s2, true) := by
 obtain ⟨s1, e1⟩ := of_snd h1
 rw [e1] at h2
 obtain ⟨s2, e2⟩ := of_snd h2
 exact ⟨s1, s2, e1, e2⟩
theorem wf8 {n : Int} (h : (Lit.int .u8 n).wf = true) : 0 ≤ n ∧ n ≤ 255 := by
 simp only [Lit.wf, IntKind.min, IntKind.max, IntKind.signed, IntKind.bits, Bool.and_eq_true, decide_eq_true_eq, Bool.false_eq_true, if_false] at h
 omega
end Go.Proofs.YthokmpbbkpjhbaaGreatDoor
namespace Go.Proofs.YthokmpbbkpjhbaaGreatDoor
open Go Go.Lt
variable {s C : Sto} {x f k g W H : Nat} {q P : G_linotyperef34_Pen} {ks : List Nat} {op : Option Nat}
theorem right_true {c : G_api_Cursor} {h : Nat} (hd : Hd c W h) (w1 : 1 ≤ W) (w2 : W ≤ 1024) (h1 : 1 ≤ h) (h2 : h ≤ 1024) : f_cursor_Right c W h = some true := by
  unfold f_cursor_Right
  rw [cur_hold _ w1 w2 h1 h2, hc_id hd]
  simp
theorem snd_true {l : List G_api_Cell} (h : Snd l) (hl : l.length ≤ 1000000) : f_linotyperef23_Sound l = some true := by
  obtain ⟨b, h1, h2⟩ := ref_sound l (by omega)
  rw [h1, h2.2 h]
set_option maxRecDepth 100000 in
theorem works40_1 : (f_linotypelaw40_works ⟨[], [], [], [], [], []⟩).map (fun q => q.2) = some true := by kernel_rfl
set_option maxRecDepth 100000 in
theorem works40_2 : ((f_linotypelaw40_works ⟨[], [], [], [], [], []⟩).bind fun q => f_linotypelaw40_works q.1).map (fun q => q.2) = some true := by kernel_rfl
def Obs (l : List G_api_Op) : Prop := ∀ o ∈ l, Bts o.Bytes ∧ o.Bytes.length ≤ 9223372036854775807
theorem screenSound_true (d : G_linotypelaw40_Side) (l : List G_api_Op) (hb : Obs l) : ∃ st, f_linotypelaw40_ScreenSound ⟨[], [], [], [], [], []⟩ d l = some (st, true) := by
  unfold f_linotypelaw40_ScreenSound
  obtain ⟨s1, s2, h1, h2⟩ := of_two works40_1 works40_2
  rw [h1]
  simp only [bsm, Bool.not_true, orE_false]
  by_cases hL : 60 < l.length
  · rw [if_pos (by simp; omega), h2]
    exact ⟨_, rfl⟩
  rw [if_neg (by simp; omega)]
  obtain ⟨W, hW, hW1, hW2⟩ := w_mod d.W 12 (by decide) (by decide)
  obtain ⟨H, hH, hH1, hH2⟩ := w_mod d.H 8 (by decide) (by decide)
  rw [show ((12 : Nat) : Int) = 12 from rfl] at hW
  rw [show ((8 : Nat) : Int) = 8 from rfl] at hH
  rw [hW, hH]
  obtain ⟨s3, h3, S3⟩ := screen_new s1 W H
  rw [h3]
  simp only [bsm]
  generalize s1.screen_Screen.length = x at *
  generalize s1.feed_Feeder.length = f at *
  generalize s1.place_Pen.length = k at *
  refine iter_forL (n := l.length) (fun i (st : Int × Sto) => st.1 = (i : Int) ∧ ∃ m q, Sd s3 st.2 x f k m q) (fun u => (∃ st, u = .inr st) ∨ ∃ st, u = .inl (st, true)) (fun i st hi hI => ?_) (fun st hI => ?_) ⟨rfl, _, _, S3⟩ (by omega) (fun u hu => ?_)
  · obtain ⟨i', st⟩ := st
    obtain ⟨e, m, q, S⟩ := hI
    simp only at e S
    subst e
    simp only
    rw [if_pos (dlt hi), w64_succ hi (by omega)]
    simp only [idx_at hi, bsm, andE_some, orE_some]
    by_cases hg : (decide ((l[i].Bytes.length : Int) > 2000) || (l[i].Kind == 13 && decide (l[i].A > 60) && decide (l[i].B > 60))) = true
    · rw [if_pos hg]
      exact .inr ⟨_, rfl, .inr ⟨_, rfl⟩⟩
    rw [if_neg hg]
    obtain ⟨hb1, hb2⟩ := hb _ (List.getElem_mem hi)
    obtain ⟨s', m', q', a1, _, a3⟩ := screen_do S l[i] hb1 hb2
    rw [a1]
    simp only [bsm]
    rw [screen_view a3]
    simp only [bsm]
    obtain ⟨W2, w1, w2, l1, l2, hok, hwd, hhd⟩ := a3.ok
    rw [hwd]
    have e1 : (vw q').Lines = q'.L := rfl
    have e2 : (vw q').High = (q'.L.length : Int) := rfl
    have e3 : (vw q').At = q'.At := rfl
    rw [e1, e2, e3, right_true hhd w1 w2 l1 l2]
    simp only [bsm, bne_self_eq_false, orE_false, Bool.not_true, orE_some]
    rw [if_neg (by simp; omega)]
    obtain ⟨u, u1, u2⟩ := iter_for (σ := Int) (τ := (Sto × Bool) ⊕ Unit) (n := q'.L.length) (fuel := ((q'.L.length : Int) - 0).toNat + 1) (s := 0) (fun i st => st = (i : Int)) (fun u => u = .inr ()) (step := fun d =>
 if (decide (d < (q'.L.length : Int))) = true then
 (idx q'.L d).bind fun m =>
 (orE ((m.Cells.length : Int) != (W2 : Int)) ((idx q'.L d).bind fun n =>
 (f_linotyperef23_Sound n.Cells).bind fun o =>
 some (!o))).bind fun l =>
 if l = true then
 some (.inr (.inl (s', false)))
 else
 some (.inl ((w64 (d + 1))))
 else
 some (.inr (.inr ()))) (fun j st hj hI => by
        subst hI
        have hs := hok _ (List.getElem_mem hj)
        rw [if_pos (dlt hj), w64_succ hj (by omega)]
        simp only [idx_at hj, bsm]
        rw [hs.2, snd_true hs.1 (by rw [hs.2]; omega)]
        simp only [bsm, bne_self_eq_false, orE_false, Bool.not_true, Bool.false_eq_true, if_false]
        exact .inl ⟨_, rfl, rfl⟩) (fun st hI => by subst hI; exact ⟨_, by rw [if_neg (by simp)], rfl⟩) rfl (by omega)
    subst u2
    rw [u1]
    exact .inl ⟨_, rfl, rfl, m', q', a3⟩
  · obtain ⟨i', st⟩ := st
    obtain ⟨e, _⟩ := hI
    simp only at e
    subst e
    exact ⟨_, by simp only; rw [if_neg (by simp)], .inl ⟨_, rfl⟩⟩
  · rcases hu with ⟨st, rfl⟩ | ⟨st, rfl⟩
    · exact ⟨_, rfl⟩
    · exact ⟨_, rfl⟩
theorem great_short (l : List G_api_Op) (hl : l.length ≤ 9223372036854775807) : ∃ t, f_linotypelaw40_Great l = some t ∧ (t = false → l.length ≤ 50) := by
  unfold f_linotypelaw40_Great
  refine iter_forE (σ := Int × Int) (τ := Bool ⊕ Unit) (n := min l.length 60) (fun i s => s.2 = (i : Int)) (fun u => match u with | .inl b => b = true | .inr _ => True) (fun i s hi e => ?_) (fun s e => ?_) rfl (by omega) (fun u hu => ?_)
  · obtain ⟨n, i'⟩ := s
    simp only at e
    subst e
    have hil : i < l.length := by omega
    simp only [andE_some, bsm]
    rw [if_pos (by simp; omega), idx_at hil]
    simp only [bsm, andE_some, orE_some]
    split
    · exact .inr ⟨_, rfl, rfl⟩
    · exact .inl ⟨_, rfl, by rw [w64_in (n := (i : Int) + 1) (by omega)]; simp⟩
  · obtain ⟨n, i'⟩ := s
    simp only at e
    subst e
    simp only [andE_some, bsm]
    rw [if_neg (by simp; omega)]
    exact ⟨_, rfl, trivial⟩
  · cases u with
    | inl b => simp only at hu; exact ⟨b, rfl, fun h => by rw [hu] at h; cases h⟩
    | inr u => exact ⟨_, rfl, fun h => by simp at h; omega⟩
def cn (l : List G_api_Cell) : Nat := (l.map fun c => c.Text.length).sum
def lnn (L : List G_api_Line) : Nat := (L.map fun l => cn l.Cells).sum
theorem cn_le {l : List G_api_Cell} (h : Snd l) : cn l ≤ 16 * l.length := by
  have key : ∀ l : List G_api_Cell, (∀ c ∈ l, c.Text.length ≤ 16) → cn l ≤ 16 * l.length := by
    intro l
    induction l with
    | nil => intro _; simp [cn]
    | cons c l ih =>
      intro h
      have h1 := ih fun d hd => h d (List.mem_cons_of_mem _ hd)
      have h2 := h c (by simp)
      simp only [cn, List.map_cons, List.sum_cons, List.length_cons] at h1 ⊢
      omega
  refine key l fun c hc => ?_
  obtain ⟨i, hi, rfl⟩ := List.mem_iff_getElem.1 hc
  have := (h i hi).1
  unfold rgt at this
  split at this
  · have e : l[i].Text = [] := by simpa using this
    rw [e]; simp
  · simp at this; omega
theorem lnn_le {L : List G_api_Line} {W : Nat} (h : ∀ x ∈ L, Okl W x) : lnn L ≤ L.length * (16 * W) := by
  induction L with
  | nil => simp [lnn]
  | cons x L ih =>
    have h1 := ih fun d hd => h d (List.mem_cons_of_mem _ hd)
    have h2 := h x (by simp)
    have h3 := cn_le h2.1
    rw [h2.2] at h3
    have e : lnn (x :: L) = cn x.Cells + lnn L := by simp [lnn]
    rw [e, List.length_cons, Nat.add_mul]
    omega
theorem sum_take_succ {α : Type} (f : α → Nat) {l : List α} {i : Nat} (h : i < l.length) : ((l.take (i + 1)).map f).sum = ((l.take i).map f).sum + f l[i] := by
  rw [List.take_succ_eq_append_getElem h, List.map_append, List.sum_append]
  simp
theorem sum_take_le {α : Type} (f : α → Nat) (l : List α) (i : Nat) : ((l.take i).map f).sum ≤ (l.map f).sum := by
  conv => rhs; rw [← List.take_append_drop i l]
  rw [List.map_append, List.sum_append]
  omega
theorem cells_loop {l : List G_api_Cell} {n0 : Nat} (hb : n0 + cn l ≤ 1000000000) (hl : l.length ≤ 1000000) : iter (σ := Int × Int) (τ := Int) (((l.length : Int) - 0).toNat + 1) (fun b =>
 if (decide (b.2 < (l.length : Int))) = true then
 (idx l b.2).bind fun f =>
 some (.inl ((w64 (b.1 + (f.Text.length : Int))), (w64 (b.2 + 1))))
 else
 some (.inr (b.1))) ((n0 : Int), 0) = some ((n0 + cn l : Nat) : Int) := by
  obtain ⟨t, h1, h2⟩ := iter_for (σ := Int × Int) (τ := Int) (n := l.length) (fuel := ((l.length : Int) - 0).toNat + 1) (s := ((n0 : Int), 0)) (fun i (s : Int × Int) => s = (((n0 + ((l.take i).map fun c => c.Text.length).sum : Nat) : Int), (i : Int))) (fun t => t = ((n0 + cn l : Nat) : Int)) (step := fun b =>
 if (decide (b.2 < (l.length : Int))) = true then
 (idx l b.2).bind fun f =>
 some (.inl ((w64 (b.1 + (f.Text.length : Int))), (w64 (b.2 + 1))))
 else
 some (.inr (b.1)))
    (fun i s hi e => by
      subst e
      have e1 := sum_take_succ (fun c : G_api_Cell => c.Text.length) hi
      have e2 := sum_take_le (fun c : G_api_Cell => c.Text.length) l (i + 1)
      have e3 : cn l = (l.map fun c => c.Text.length).sum := rfl
      simp only
      rw [if_pos (dlt hi), idx_at hi, w64_succ hi (by omega)]
      simp only [bsm]
      rw [w64_in (by omega)]
      exact .inl ⟨_, rfl, by rw [e1]; congr 1; omega⟩)
    (fun s e => by
      subst e
      refine ⟨_, by simp only; rw [if_neg (by simp)], ?_⟩
      rw [List.take_of_length_le (Nat.le_refl _)]
      rfl)
    (by simp) (by omega)
  rw [h1, h2]
theorem used_eq {L : List G_api_Line} {W : Nat} (h : ∀ x ∈ L, Okl W x) (hW : W ≤ 1024) (hL : L.length ≤ 1024) (v : G_api_View) (hv : v.Lines = L) : f_bound_Used v = some (lnn L : Int) := by
  subst hv
  have hle := lnn_le h
  have hb : v.Lines.length * (16 * W) ≤ 1024 * (16 * 1024) := Nat.mul_le_mul hL (by omega)
  unfold f_bound_Used
  refine iter_forB (n := v.Lines.length) (fun i (s : Int × Int) => s = (((((v.Lines.take i).map fun l => cn l.Cells).sum : Nat) : Int), (i : Int))) (fun u => u = (lnn v.Lines : Int)) (fun i s hi e => ?_) (fun s e => ?_) (by simp) (by omega) (fun u hu => by rw [hu])
  · subst e
    have e1 := sum_take_succ (fun l : G_api_Line => cn l.Cells) hi
    have e2 := sum_take_le (fun l : G_api_Line => cn l.Cells) v.Lines (i + 1)
    have e3 : lnn v.Lines = (v.Lines.map fun l => cn l.Cells).sum := rfl
    have hx := h _ (List.getElem_mem hi)
    simp only
    rw [if_pos (dlt hi), idx_at hi, w64_succ hi (by omega)]
    simp only [bsm]
    rw [cells_loop (by omega) (by rw [hx.2]; omega)]
    exact .inl ⟨_, rfl, by rw [e1]⟩
  · subst e
    refine ⟨_, by simp only; rw [if_neg (by simp)], ?_⟩
    rw [List.take_of_length_le (Nat.le_refl _)]
    rfl
theorem most_eq {W H : Nat} (w1 : 1 ≤ W) (w2 : W ≤ 1024) (h1 : 1 ≤ H) (h2 : H ≤ 1024) : f_bound_Most W H = some ((W * H * 16 : Nat) : Int) := by
  have hb : W * H ≤ 1024 * 1024 := Nat.mul_le_mul w2 h2
  unfold f_bound_Most f_bound_side
  simp only [bsm, imax_eq, imin_eq]
  rw [show max (1 : Int) (min (W : Int) 1024) = (W : Int) by omega, show max (1 : Int) (min (H : Int) 1024) = (H : Int) by omega, show (W : Int) * (H : Int) = ((W * H : Nat) : Int) by simp, w64_in (n := ((W * H : Nat) : Int)) (by omega), w64_in (n := ((W * H : Nat) : Int) * 16) (by omega)]
  simp
theorem works48 : f_linotypelaw48_works = some true := by kernel_rfl
theorem boundHolds_true (d : G_linotypelaw40_Side) (l : List G_api_Op) (hl : l.length ≤ 9223372036854775807) (hb : Obs l) : ∃ st, f_linotypelaw48_BoundHolds ⟨[], [], [], [], [], []⟩ d l = some (st, true) := by
  unfold f_linotypelaw48_BoundHolds
  obtain ⟨t, ht, ht2⟩ := great_short l hl
  rw [works48, ht]
  simp only [bsm, Bool.not_true, orE_false]
  cases t with
  | true => exact ⟨_, rfl⟩
  | false =>
    have hL := ht2 rfl
    simp only [Bool.false_eq_true, if_false]
    obtain ⟨W, hW, hW1, hW2⟩ := w_mod d.W 9 (by decide) (by decide)
    obtain ⟨H, hH, hH1, hH2⟩ := w_mod d.H 6 (by decide) (by decide)
    rw [show ((9 : Nat) : Int) = 9 from rfl] at hW
    rw [show ((6 : Nat) : Int) = 6 from rfl] at hH
    rw [hW, hH]
    generalize (⟨[], [], [], [], [], []⟩ : Sto) = E0
    obtain ⟨s3, h3, S3⟩ := screen_new E0 W H
    rw [h3]
    simp only [bsm]
    generalize E0.screen_Screen.length = x at *
    generalize E0.feed_Feeder.length = f at *
    generalize E0.place_Pen.length = k at *
    refine iter_forL (n := l.length) (fun i (st : Int × Sto) => st.1 = (i : Int) ∧ ∃ m q, Sd s3 st.2 x f k m q) (fun u => (∃ st, u = .inr st) ∨ ∃ st, u = .inl (st, true)) (fun i st hi hI => ?_) (fun st hI => ?_) ⟨rfl, _, _, S3⟩ (by omega) (fun u hu => ?_)
    · obtain ⟨i', st⟩ := st
      obtain ⟨e, m, q, S⟩ := hI
      simp only at e S
      subst e
      simp only
      rw [if_pos (dlt hi), w64_succ hi (by omega)]
      obtain ⟨hb1, hb2⟩ := hb _ (List.getElem_mem hi)
      obtain ⟨s', m', q', a1, _, a3⟩ := screen_do S l[i] hb1 hb2
      simp only [idx_at hi, bsm]
      rw [a1]
      simp only [bsm]
      rw [screen_view a3]
      simp only [bsm]
      obtain ⟨W2, w1, w2, l1, l2, hok, hwd, hhd⟩ := a3.ok
      have e1 : (vw q').Lines = q'.L := rfl
      have e2 : (vw q').High = (q'.L.length : Int) := rfl
      have hle := lnn_le hok
      have hmul : q'.L.length * (16 * W2) ≤ 1024 * (16 * 1024) := Nat.mul_le_mul l2 (by omega)
      have hloop : (iter (σ := Int × Int) (τ := Int) ((((vw q').Lines.length : Int) - 0).toNat + 1) (fun b =>
 if (decide (b.2 < ((vw q').Lines.length : Int))) = true then
 (idx (vw q').Lines b.2).bind fun j =>
 (iter (σ := Int × Int) (τ := Int) (((j.Cells.length : Int) - 0).toNat + 1) (fun e =>
 (idx (vw q').Lines b.2).bind fun o =>
 if (decide (e.2 < (o.Cells.length : Int))) = true then
 (idx (vw q').Lines b.2).bind fun p =>
 (idx p.Cells e.2).bind fun q =>
 some (.inl ((w64 (e.1 + (q.Text.length : Int))), (w64 (e.2 + 1))))
 else
 some (.inr (e.1))) (b.1, 0)).bind fun l =>
 some (.inl (l, (w64 (b.2 + 1))))
 else
 some (.inr (b.1))) (0, 0)) = some (lnn q'.L : Int) := by
        rw [e1]
        obtain ⟨t, t1, t2⟩ := iter_for (σ := Int × Int) (τ := Int) (n := q'.L.length) (fuel := ((q'.L.length : Int) - 0).toNat + 1) (s := (0, 0)) (fun i (s : Int × Int) => s = (((((q'.L.take i).map fun l => cn l.Cells).sum : Nat) : Int), (i : Int))) (fun u => u = (lnn q'.L : Int)) (step := fun b =>
 if (decide (b.2 < (q'.L.length : Int))) = true then
 (idx q'.L b.2).bind fun j =>
 (iter (σ := Int × Int) (τ := Int) (((j.Cells.length : Int) - 0).toNat + 1) (fun e =>
 (idx q'.L b.2).bind fun o =>
 if (decide (e.2 < (o.Cells.length : Int))) = true then
 (idx q'.L b.2).bind fun p =>
 (idx p.Cells e.2).bind fun q =>
 some (.inl ((w64 (e.1 + (q.Text.length : Int))), (w64 (e.2 + 1))))
 else
 some (.inr (e.1))) (b.1, 0)).bind fun l =>
 some (.inl (l, (w64 (b.2 + 1))))
 else
 some (.inr (b.1)))
          (fun j s hj e => by
            subst e
            have f1 := sum_take_succ (fun l : G_api_Line => cn l.Cells) hj
            have f2 := sum_take_le (fun l : G_api_Line => cn l.Cells) q'.L (j + 1)
            have f3 : lnn q'.L = (q'.L.map fun l => cn l.Cells).sum := rfl
            have hx := hok _ (List.getElem_mem hj)
            simp only
            rw [if_pos (dlt hj), idx_at hj, w64_succ hj (by omega)]
            simp only [bsm]
            rw [cells_loop (by omega) (by rw [hx.2]; omega)]
            exact .inl ⟨_, rfl, by rw [f1]⟩)
          (fun s e => by
            subst e
            refine ⟨_, by simp only; rw [if_neg (by simp)], ?_⟩
            rw [List.take_of_length_le (Nat.le_refl _)]
            rfl)
          (by simp) (by omega)
        rw [t1, t2]
      rw [hloop, used_eq hok w2 l2 (vw q') rfl, hwd, e2, most_eq w1 w2 l1 l2]
      simp only [bsm, bne_self_eq_false, orE_false]
      have hfin : lnn q'.L ≤ W2 * q'.L.length * 16 := by
        have : q'.L.length * (16 * W2) = W2 * q'.L.length * 16 := by rw [Nat.mul_comm 16 W2, ← Nat.mul_assoc, Nat.mul_comm q'.L.length W2]
        omega
      rw [if_neg (by simp; omega)]
      exact .inl ⟨_, rfl, rfl, m', q', a3⟩
    · obtain ⟨i', st⟩ := st
      obtain ⟨e, _⟩ := hI
      simp only at e
      subst e
      exact ⟨_, by simp only; rw [if_neg (by simp)], .inl ⟨_, rfl⟩⟩
    · rcases hu with ⟨st, rfl⟩ | ⟨st, rfl⟩
      · exact ⟨_, rfl⟩
      · exact ⟨_, rfl⟩
end Go.Proofs.YthokmpbbkpjhbaaGreatDoor
