/-
  A cluster that is begun, and grows, on the screen: behind each number the pen is as if all had been put at once. In plain Lean. Conditions: the pen is as the document's.
-/
import Derived.Test.YthokmpbbkpjhbaaGreatDoorWi
namespace Go.Proofs.YthokmpbbkpjhbaaGreatDoor
open Go Go.Lt
variable {s C : Sto} {k g W j : Nat} {w : Bool} {q : G_linotyperef34_Pen} {ks : List Nat}

/-! ### the store's clusters -/
def Sto.sc (s : Sto) (j : Nat) (x : G_widen_Cluster) : Sto := { s with widen_Cluster := s.widen_Cluster.set j x }
theorem set_cl {x : G_widen_Cluster} (h : j < s.widen_Cluster.length) : s.set_widen_Cluster j x = some (s.sc j x) := by
  unfold Sto.set_widen_Cluster
  rw [if_pos h]
  rfl
theorem sc_get {x : G_widen_Cluster} (h : j < s.widen_Cluster.length) : (s.sc j x).widen_Cluster[j]? = some x := by simp [Sto.sc, h]
theorem sc_sc (s : Sto) (j : Nat) (x y : G_widen_Cluster) : (s.sc j x).sc j y = s.sc j y := by simp [Sto.sc]
theorem sc_sp (s : Sto) (j k : Nat) (x : G_widen_Cluster) (y : G_place_Pen) : (s.sc j x).sp k y = (s.sp k y).sc j x := rfl
theorem Gw.sc (h : Gw s g ks W) (j : Nat) (x : G_widen_Cluster) : Gw (s.sc j x) g ks W := ⟨h.g, h.r, h.h1, h.h2, h.w1, h.w2⟩
theorem Gw.addc (h : Gw s g ks W) (x : G_widen_Cluster) : Gw (s.add_widen_Cluster x) g ks W := ⟨h.g, h.r, h.h1, h.h2, h.w1, h.w2⟩
theorem Pv.sc (h : Pv s s k g W q ks) (j : Nat) (x : G_widen_Cluster) : Pv (s.sc j x) (s.sc j x) k g W q ks :=
  ⟨h.p, h.g.sc j x, h.nd, h.l, rfl, h.f.rgp ⟨rfl, rfl, rfl⟩ ⟨rfl, rfl, rfl⟩⟩
theorem Pv.addc (h : Pv s s k g W q ks) (x : G_widen_Cluster) : Pv (s.add_widen_Cluster x) (s.add_widen_Cluster x) k g W q ks :=
  ⟨h.p, h.g.addc x, h.nd, h.l, rfl, h.f.rgp ⟨rfl, rfl, rfl⟩ ⟨rfl, rfl, rfl⟩⟩
theorem oth_cl {a b : Sto} (h : a.oth = b.oth) : a.widen_Cluster = b.widen_Cluster := by
  have := congrArg Sto.widen_Cluster h
  exact this

/-- The cluster j of the store: where it stands, its width, its numbers, its gauge. -/
structure Wc (s : Sto) (j : Nat) (c : G_api_Cursor) (y : G_cwidth_Gauge) (t : List Int) (n : Int) : Prop where
  x : ∃ b, s.widen_Cluster[j]? = some ⟨c, n, b, y⟩ ∧ Cv b t
theorem Wc.lt {c : G_api_Cursor} {y : G_cwidth_Gauge} {t : List Int} {n : Int} (h : Wc s j c y t n) : j < s.widen_Cluster.length := by
  obtain ⟨b, h, _⟩ := h.x
  exact get_lt h

theorem sca_fix (r : Int) : ((f_scalar_Valid r).bind fun x_6 => if (!x_6) = true then (some (65533) : Option (Int)) else (some (r) : Option (Int))) = some (fixv r) := by
  rw [sca_valid]
  unfold fixv
  cases vld r <;> rfl
theorem add_eq {c : G_api_Cursor} {y : G_cwidth_Gauge} {t : List Int} {n : Int} (h : Wc s j c y t n) (ht : t.length < 16) (r : Int) (x : G_api_Prop) :
    ∃ b', f_widen_Cluster_add s (some j) r x = some (s.sc j ⟨c, n, b', gz y (fixv r) x⟩, wz (gz y (fixv r) x)) ∧ Cv b' (t ++ [fixv r]) := by
  have hj := h.lt
  obtain ⟨b, hb, hv⟩ := h.x
  obtain ⟨b', h1, h2⟩ := cl_add hv ht (fixv r)
  refine ⟨b', ?_, h2⟩
  unfold f_widen_Cluster_add
  rw [sca_fix]
  simp only [bsm, hb, h1]
  rw [set_cl hj]
  simp only [bsm, gauge_step]
  rw [set_cl (by simp [Sto.sc]; exact hj), sc_sc]
  rfl

/-- The cursor's own clamp of widths. -/
theorem cl2_two (t : List Int) (h : 2 ≤ W) : cl2 2 t W = (2, t) := by
  unfold cl2
  rw [if_neg (by omega)]
  rfl
theorem cl2_one (t : List Int) (h : 1 ≤ W) : cl2 1 t W = (1, t) := by
  unfold cl2
  rw [if_neg (by omega)]
  rfl
theorem cl2_nar (t : List Int) : cl2 2 t 1 = (1, [65533]) := by
  unfold cl2
  rw [if_pos (by decide)]

/-- A cluster that stands on the screen: the pen is as the document's q0 with all its numbers put. -/
structure On (C s : Sto) (k g W H j : Nat) (q0 : G_linotyperef34_Pen) (y : G_cwidth_Gauge) (t : List Int) (q : G_linotyperef34_Pen) (c : G_api_Cursor) (ks : List Nat) : Prop where
  v : Pv s s k g W q ks
  f : Fr C s k g ks
  w : Wc s j c y t (wz y)
  n : ks.length = H
  p : f_linotyperef34_Pen_Put q0 (wz y) t = some (q, c)

theorem begin_eq {q0 : G_linotyperef34_Pen} (h : Pv C s k g W q0 ks) (r : Int) (x : G_api_Prop) : ∃ s' q' c ks', f_widen_Begin s (some k) r x = some (s', some s.widen_Cluster.length) ∧
    On C s' k g W ks.length s.widen_Cluster.length q0 (gz ⟨false, false, false⟩ (fixv r) x) [fixv r] q' c ks' ∧ ∃ z, s'.oth = (s.add_widen_Cluster z).oth := by
  unfold f_widen_Begin
  simp only [Option.isNone_some, orE_false, bsm, h.p, Bool.false_eq_true, if_false]
  have h0 : Wc (s.add_widen_Cluster ⟨⟨0, 0, false⟩, 0, ⟨(0, 0, 0, 0, 0, 0, 0, 0, 0, 0, 0, 0, 0, 0, 0, 0), 0⟩, ⟨false, false, false⟩⟩) s.widen_Cluster.length ⟨0, 0, false⟩ ⟨false, false, false⟩ [] 0 :=
    ⟨⟨⟨(0, 0, 0, 0, 0, 0, 0, 0, 0, 0, 0, 0, 0, 0, 0, 0), 0⟩, by simp [Sto.add_widen_Cluster], ⟨rfl, by simp, rfl⟩⟩⟩
  obtain ⟨b, h1, h2⟩ := add_eq h0 (by simp) r x
  have hlt := h0.lt
  rw [h1]
  have hv := (h.self.addc ⟨⟨0, 0, false⟩, 0, ⟨(0, 0, 0, 0, 0, 0, 0, 0, 0, 0, 0, 0, 0, 0, 0, 0), 0⟩, ⟨false, false, false⟩⟩).sc s.widen_Cluster.length ⟨⟨0, 0, false⟩, 0, b, gz ⟨false, false, false⟩ (fixv r) x⟩
  have hR : Rgp s (s.add_widen_Cluster ⟨⟨0, 0, false⟩, 0, ⟨(0, 0, 0, 0, 0, 0, 0, 0, 0, 0, 0, 0, 0, 0, 0, 0), 0⟩, ⟨false, false, false⟩⟩) := ⟨rfl, rfl, rfl⟩
  have hA : ∀ z, ((s.add_widen_Cluster ⟨⟨0, 0, false⟩, 0, ⟨(0, 0, 0, 0, 0, 0, 0, 0, 0, 0, 0, 0, 0, 0, 0, 0), 0⟩, ⟨false, false, false⟩⟩).sc s.widen_Cluster.length z) = s.add_widen_Cluster z := fun z => by
    simp [Sto.sc, Sto.add_widen_Cluster]
  generalize hs1 : s.add_widen_Cluster ⟨⟨0, 0, false⟩, 0, ⟨(0, 0, 0, 0, 0, 0, 0, 0, 0, 0, 0, 0, 0, 0, 0, 0), 0⟩, ⟨false, false, false⟩⟩ = s1 at *
  simp only [bsm]
  rw [sc_get hlt]
  simp only [bsm]
  rw [set_cl (by simp [Sto.sc]; exact hlt), sc_sc]
  simp only [bsm]
  rw [cl_text h2]
  simp only [bsm, List.nil_append]
  have hv2 := hv.sc s.widen_Cluster.length ⟨⟨0, 0, false⟩, wz (gz ⟨false, false, false⟩ (fixv r) x), b, gz ⟨false, false, false⟩ (fixv r) x⟩
  simp only [sc_sc] at hv2
  obtain ⟨s3, q3, ks3, i, a, p1, p2, p3, p4, p5, p6, p7, _⟩ := put_eq hv2 (wz (gz ⟨false, false, false⟩ (fixv r) x)) [fixv r] (by simp)
  rw [p2]
  have hcl : s3.widen_Cluster = (s1.sc s.widen_Cluster.length ⟨⟨0, 0, false⟩, wz (gz ⟨false, false, false⟩ (fixv r) x), b, gz ⟨false, false, false⟩ (fixv r) x⟩).widen_Cluster := oth_cl p4.o
  have hg3 : s3.widen_Cluster[s.widen_Cluster.length]? = some ⟨⟨0, 0, false⟩, wz (gz ⟨false, false, false⟩ (fixv r) x), b, gz ⟨false, false, false⟩ (fixv r) x⟩ := by
    rw [hcl]
    exact sc_get hlt
  simp only [bsm]
  rw [hg3]
  simp only [bsm]
  rw [set_cl (get_lt hg3)]
  refine ⟨_, q3, _, ks3, rfl, ⟨p4.self.sc _ _, ?_, ⟨_, sc_get (get_lt hg3), by simpa using h2⟩, p5, p3⟩, ⟨⟨(i : Int), (a : Int), false⟩, wz (gz ⟨false, false, false⟩ (fixv r) x), b, gz ⟨false, false, false⟩ (fixv r) x⟩, ?_⟩
  · exact (h.f.trans h.oG h.oR (p4.f.rgp (C' := s) ⟨hR.symm.r, hR.symm.g, hR.symm.p⟩ (Rgp.self _))).rgp (Rgp.self _) ⟨rfl, rfl, rfl⟩
  · rw [← hA]
    have := congrArg (fun y : Sto => y.sc s.widen_Cluster.length ⟨⟨(i : Int), (a : Int), false⟩, wz (gz ⟨false, false, false⟩ (fixv r) x), b, gz ⟨false, false, false⟩ (fixv r) x⟩) p4.o
    refine this.trans ?_
    show (((s1.sc _ _).sc _ _).oth) = _
    rw [sc_sc]

theorem wz_12 (y : G_cwidth_Gauge) : (y.wide = false ∧ wz y = 1) ∨ (y.wide = true ∧ wz y = 2) := by
  unfold wz
  cases y.wide
  · exact .inl ⟨rfl, rfl⟩
  · exact .inr ⟨rfl, rfl⟩
theorem gz_wide {y : G_cwidth_Gauge} (h : y.wide = true) (r : Int) (x : G_api_Prop) : (gz y r x).wide = true := by
  unfold gz
  simp [h]
/-- The text does not tell where a cluster comes to stand. -/
theorem cl2_fst (p1 : Int) (t t' : List Int) (W : Nat) : (cl2 p1 t W).1 = (cl2 p1 t' W).1 := by
  unfold cl2
  split <;> rfl
theorem join_full {q0 : G_linotyperef34_Pen} {y : G_cwidth_Gauge} {t : List Int} {c : G_api_Cursor} {H : Nat} (h : On C s k g W H j q0 y t q c ks) (ht : t.length = 16) (r : Int) (x : G_api_Prop) :
    f_widen_Cluster_Join s (some j) (some k) r x = some (s, false) := by
  obtain ⟨b, hb, hv⟩ := h.w.x
  unfold f_widen_Cluster_Join
  simp only [Option.isNone_some, orE_false, bsm, h.v.p, hb, cl_full hv, ht]
  rfl
theorem join_eq {C0 s0 : Sto} {ks0 : List Nat} {q0 : G_linotyperef34_Pen} {H : Nat} (h0 : Pv C0 s0 k g W q0 ks0) (hH : ks0.length = H) {y : G_cwidth_Gauge} {t : List Int} {c : G_api_Cursor} (h : On C s k g W H j q0 y t q c ks) (ht1 : 1 ≤ t.length) (ht : t.length < 16) (hvt : ∀ x ∈ t, vld x = true) (r : Int) (x : G_api_Prop) :
    ∃ s' q' c' ks', f_widen_Cluster_Join s (some j) (some k) r x = some (s', true) ∧ On C s' k g W H j q0 (gz y (fixv r) x) (t ++ [fixv r]) q' c' ks' ∧ ∃ z, s'.oth = (s.sc j z).oth := by
  have hj := h.w.lt
  obtain ⟨b', e1, e2⟩ := add_eq h.w ht r x
  obtain ⟨b, hb, hv⟩ := h.w.x
  have w1 := h0.g.w1
  have w2 := h0.g.w2
  unfold f_widen_Cluster_Join
  have hfull : decide (t.length = 16) = false := by simp; omega
  simp only [Option.isNone_some, orE_false, bsm, h.v.p, hb, cl_full hv, hfull, Bool.false_eq_true, if_false, e1]
  have htl : (t ++ [fixv r]).length ≤ 1000000 := by simp; omega
  generalize hy' : gz y (fixv r) x = y' at *
  rw [sc_get hj]
  simp only [bsm]
  rw [set_cl (by simp [Sto.sc]; exact hj), sc_sc]
  simp only [bsm]
  have hv2 := h.v.sc j ⟨c, wz y', b', y'⟩
  have hfr : Fr C (s.sc j ⟨c, wz y', b', y'⟩) k g ks := h.f.rgp (Rgp.self _) ⟨rfl, rfl, rfl⟩
  by_cases hw : wz y' = wz y
  · rw [if_neg (by simp [hw])]
    simp only [hv2.p, bsm]
    rw [grid_wide hv2.g]
    simp only [bsm]
    obtain ⟨hdd, hdw⟩ := cl2_d (wz y) t w1
    obtain ⟨L2, i, a, pd, r1, r2, r3, r4, r5⟩ := rdy_ok h0 hdd hdw
    have hq := put_of_room hdd h0 r1 r2 r3 r4 r5 (wz y) t (by omega) rfl
    have hq' := put_of_room hdd h0 r1 r2 r3 r4 r5 (wz y) (t ++ [fixv r]) htl (cl2_fst _ _ _ _)
    rw [h.p] at hq
    simp only [Option.some.injEq, Prod.mk.injEq] at hq
    obtain ⟨hq1, rfl⟩ := hq
    by_cases hle : wz y' ≤ (W : Int)
    · rw [if_pos (by simpa using hle)]
      have hcl : ∀ t2 : List Int, cl2 (wz y) t2 W = ((wz y).toNat, t2) := fun t2 => by
        rw [hw] at hle
        rcases wz_12 y with ⟨_, q1⟩ | ⟨_, q1⟩
        · rw [q1]; exact cl2_one t2 w1
        · rw [q1]; exact cl2_two t2 (by omega)
      rw [hcl] at hq1 r3 hdd hdw r1 hq'
      rw [hcl] at hq'
      simp only at hq1 r3 hdd hdw r1 hq'
      generalize (wz y).toNat = d at *
      have hik : i < ks.length := by rw [h.n, ← hH]; exact r2
      rw [grid_row hv2.g hik]
      simp only [bsm]
      have hfx : fx t = t := fx_id hvt (by omega)
      obtain ⟨⟨rc, rw_⟩, hr0, hsn, hlw⟩ := h.v.g.at hik
      simp only at hsn hlw
      have hlt : i < L2.length := by rw [r4]; exact r2
      have hat := h.v.at hik
      rw [ln_eq hr0] at hat
      have hqL : q.L = L2.set i ⟨pl (L2.getD i dl).Cells a (strip d (fx t)), pw (L2.getD i dl).Cells (L2.getD i dl).Wrap a d⟩ := by rw [hq1]; rfl
      have hgi : q.L[i]'(by rw [h.v.len]; exact hik) = ⟨pl (L2.getD i dl).Cells a (strip d (fx t)), pw (L2.getD i dl).Cells (L2.getD i dl).Wrap a d⟩ := by
        have : q.L[i]? = some ⟨pl (L2.getD i dl).Cells a (strip d (fx t)), pw (L2.getD i dl).Cells (L2.getD i dl).Wrap a d⟩ := by rw [hqL, List.getElem?_set_self hlt]
        rw [List.getElem?_eq_getElem (by rw [h.v.len]; exact hik)] at this
        exact Option.some.inj this
      rw [hgi] at hat
      simp only [G_api_Line.mk.injEq] at hat
      obtain ⟨hrc, hrw⟩ := hat
      subst hrc hrw
      have hcells : (L2.getD i dl).Cells.length = W := by
        rw [gdl hlt]
        exact (r5 _ (List.getElem_mem hlt)).2
      have hq1A : q.At = ca ⟨(i : Int), (a : Int), false⟩ d W q0.Auto ∧ q.Auto = q0.Auto := by rw [hq1]; exact ⟨rfl, rfl⟩
      generalize hl0 : (L2.getD i dl).Cells = l0 at *
      generalize hw0 : (L2.getD i dl).Wrap = w0 at *
      rw [hfx] at hr0 hsn hqL hlw hgi
      have hr0' : (s.sc j ⟨⟨(i : Int), (a : Int), false⟩, wz y', b', y'⟩).row_Row[ks[i]]? = some ⟨pl l0 a (strip d t), pw l0 w0 a d⟩ := hr0
      have hst := strip_d d hdd t
      have hst2 := strip_d d hdd (fx (t ++ [r]))
      rw [mark_more hdd hr0' hsn (by omega) (by omega) ht1 (by omega) r]
      simp only [bsm]
      have o1 := pl_over (l := l0) (p := strip d t) (p' := strip d (fx (t ++ [r]))) (Nat.le_refl a) (by omega) (by omega)
      have o2 := pw_over (l := l0) (w := w0) (p := strip d t) (p' := strip d (fx (t ++ [r]))) (Nat.le_refl a) (by omega) (by omega)
      rw [hst, hst2] at o2
      have hsn2 : Snd (pl l0 a (strip d (fx (t ++ [r])))) := by
        rw [← o1]
        exact hsn.paint (snd_fx _ _) (by rw [pl_len]; omega)
      have hv4 := hv2.row hik (r := ⟨pl l0 a (strip d (fx (t ++ [r]))), pw (pl l0 a (strip d t)) (pw l0 w0 a d) a d⟩) hsn2 (by simp only [pl_len]; exact hcells)
      refine ⟨_, _, _, ks, rfl, ⟨hv4.self, hfr.sr (List.getElem_mem hik) _, ⟨b', sc_get hj, e2⟩, h.n, ?_⟩, _, rfl⟩
      rw [hw, hq']
      have hfx2 := fx_snoc' (t := t) (by omega) r
      rw [o2, hqL, hq1A.1, hq1A.2, List.set_set, ← hfx2]
      unfold putq
      rw [hl0, hw0]
    · rw [if_neg (by simpa using hle)]
      have hW : W = 1 := by
        rcases wz_12 y' with ⟨_, q1⟩ | ⟨_, q1⟩ <;> omega
      refine ⟨_, q, _, ks, rfl, ⟨hv2, hfr, ⟨b', sc_get hj, e2⟩, h.n, ?_⟩, _, rfl⟩
      rw [hw, hq']
      have h2 : wz y = 2 := by
        rcases wz_12 y with ⟨_, q1⟩ | ⟨_, q1⟩
        · rw [hw, q1] at hle; omega
        · exact q1
      rw [hq1, h2, hW, cl2_nar, cl2_nar]
  · rw [if_pos (by simpa using hw)]
    have hy1 : wz y = 1 ∧ wz y' = 2 := by
      rcases wz_12 y with ⟨_, q1⟩ | ⟨q1, q2⟩
      · rcases wz_12 y' with ⟨_, q3⟩ | ⟨_, q3⟩
        · rw [q1, q3] at hw; exact absurd rfl hw
        · exact ⟨q1, q3⟩
      · have := gz_wide q1 (fixv r) x
        rw [hy'] at this
        unfold wz at hw
        rw [this, q1] at hw
        exact absurd rfl hw
    simp only [hv2.p, bsm]
    rw [set_pen (get_lt hv2.p)]
    simp only [bsm]
    have hv3 := hv2.set c q.Auto
    have hc3 : ((s.sc j ⟨c, wz y', b', y'⟩).sp k ⟨some g, c, q.Auto⟩).widen_Cluster[j]? = some ⟨c, wz y', b', y'⟩ := sc_get hj
    rw [hc3]
    simp only [bsm]
    rw [cl_text e2]
    simp only [bsm]
    obtain ⟨s4, q4, ks4, i, a, p1, p2, p3, p4, p5, p6, p7, _⟩ := put_eq hv3 (wz y') (t ++ [fixv r]) htl
    rw [p2]
    simp only [bsm]
    have hc4 : s4.widen_Cluster[j]? = some ⟨c, wz y', b', y'⟩ := by
      rw [oth_cl p4.o]
      exact hc3
    rw [hc4]
    simp only [bsm]
    rw [set_cl (get_lt hc4)]
    refine ⟨_, q4, _, ks4, rfl, ⟨p4.self.sc _ _, ?_, ⟨b', sc_get (get_lt hc4), e2⟩, p5.trans h.n, ?_⟩, ⟨⟨(i : Int), (a : Int), false⟩, wz y', b', y'⟩, ?_⟩
    · have h3 := p4.f
      have := h.f.trans h.v.oG h.v.oR (h3.rgp (C' := s) ⟨rfl, rfl, rfl⟩ (Rgp.self _))
      exact this.rgp (Rgp.self _) ⟨rfl, rfl, rfl⟩
    · rw [← p3]
      exact (put_again h0 (by omega) htl (by rw [hy1.1, cl2_one _ w1]) h.p h.v (h.n.trans hH.symm)).symm
    · have := congrArg (fun y : Sto => y.sc j ⟨⟨(i : Int), (a : Int), false⟩, wz y', b', y'⟩) p4.o
      refine this.trans ?_
      show (((s.sc _ _).sc _ _).oth) = _
      rw [sc_sc]
end Go.Proofs.YthokmpbbkpjhbaaGreatDoor
