/-
  A cluster put, told of by where it comes to stand; put anew and wider, or with more numbers, it leaves what had been put at once. In plain Lean. Conditions: the pen is as the document's.
-/
import Derived.Test.YthokmpbbkpjhbaaGreatDoorWg
namespace Go.Proofs.YthokmpbbkpjhbaaGreatDoor
open Go Go.Lt
variable {s C : Sto} {k g W : Nat} {l p p' : List G_api_Cell} {w : Bool} {q : G_linotyperef34_Pen} {ks : List Nat}

/-- Where a pen stands when a cluster d wide has room. -/
def rdy (q : G_linotyperef34_Pen) (W H d : Nat) : Option ((List G_api_Line) × Int × Int × Bool × Bool) := (rp1 ⟨q.L, hc q.At W H, q.Auto⟩).bind (rp2 d W)
/-- The pen behind a cluster d wide, with text t, put at (i, a) over lines L. -/
def putq (L : List G_api_Line) (i a d W : Nat) (au : Bool) (t : List Int) : G_linotyperef34_Pen :=
  ⟨L.set i ⟨pl (L.getD i dl).Cells a (strip d (fx t)), pw (L.getD i dl).Cells (L.getD i dl).Wrap a d⟩, ca ⟨(i : Int), (a : Int), false⟩ d W au, au⟩

theorem ref_paint_at {L : List G_api_Line} {c : G_api_Cursor} {au : Bool} {i a : Nat} (hi : i < L.length) (hL : L.length ≤ 1024) (hw : (L.getD i dl).Cells.length ≤ 1024) (hp : p.length ≤ 1000000) (ha : a ≤ 1000000) :
    f_linotyperef34_Pen_Paint ⟨L, c, au⟩ i a p = some ⟨L.set i ⟨pl (L.getD i dl).Cells a p, pw (L.getD i dl).Cells (L.getD i dl).Wrap a p.length⟩, c, au⟩ := by
  unfold f_linotyperef34_Pen_Paint f_linotyperef34_Pen_With
  simp only [gdl hi] at hw ⊢
  simp only [idx_at hi, bsm]
  rw [ref_paint _ _ _ _ (by omega) ha hp]
  simp only [bsm]
  rw [app_eq (by simp; omega), List.nil_append]
  simp only [bsm]
  rw [idx_at hi, sets_nat hi]
  rfl

theorem put_of_room {L2 : List G_api_Line} {i a d : Nat} {pd au : Bool} (hdd : d = 1 ∨ d = 2) (h : Pv C s k g W q ks) (hr : rdy q W ks.length d = some (L2, (i : Int), (a : Int), pd, au)) (hi : i < ks.length) (ha : a + d ≤ W) (hL : L2.length = ks.length) (hok : ∀ x ∈ L2, Okl W x) (p1 : Int) (t : List Int) (ht : t.length ≤ 1000000)
    (hcl : (cl2 p1 t W).1 = d) : f_linotyperef34_Pen_Put q p1 t = some (putq L2 i a d W au (cl2 p1 t W).2, ⟨(i : Int), (a : Int), false⟩) := by
  have hl : (cl2 p1 t W).2.length ≤ 1000000 := by unfold cl2; split <;> simp; exact ht
  have hce := cl2_eq (W := W) p1 t
  have w1 := h.g.w1
  have w2 := h.g.w2
  have h1 := h.set (hc q.At W ks.length) q.Auto
  have h2 := h.g.h2
  unfold f_linotyperef34_Pen_Put
  rw [ref_Hold h]
  unfold rdy at hr
  generalize hc q.At W ks.length = c at *
  simp only [bsm]
  rw [ref_wide h1]
  simp only [bsm]
  rw [hce, hcl]
  generalize (cl2 p1 t W).2 = t2 at *
  simp only [bsm]
  have hsl := strip_d d hdd (fx t2)
  have hc2 : 0 ≤ (⟨(i : Int), (a : Int), false⟩ : G_api_Cursor).Col ∧ (⟨(i : Int), (a : Int), false⟩ : G_api_Cursor).Col < (W : Int) := by simp only; omega
  obtain ⟨z, hz1, hz2⟩ := bs hr
  change ((rp1 ⟨q.L, c, q.Auto⟩).bind fun z_28 => (rp2 d W z_28).bind _) = _
  rw [hz1]
  simp only [bsm]
  rw [hz2]
  simp only [bsm]
  rw [ref_of _ _ (by omega)]
  simp only [bsm]
  have hlt : i < L2.length := by omega
  have hcells : (L2.getD i dl).Cells.length = W := by
    rw [gdl hlt]
    exact (hok _ (List.getElem_mem hlt)).2
  rw [ref_paint_at hlt (by omega) (by omega) (by omega) (by omega)]
  simp only [bsm]
  rw [ref_after _ hdd w1 w2 hc2]
  simp only [bsm, putq, hsl]

/-- Where there is room. -/
theorem rdy_ok (h : Pv C s k g W q ks) {d : Nat} (hdd : d = 1 ∨ d = 2) (hdw : d ≤ W) : ∃ L2 i a pd, rdy q W ks.length d = some (L2, ((i : Nat) : Int), ((a : Nat) : Int), pd, q.Auto) ∧ i < ks.length ∧ a + d ≤ W ∧ L2.length = ks.length ∧ (∀ x ∈ L2, Okl W x) := by
  have h1 := h.set (hc q.At W ks.length) q.Auto
  have hd := hc_hd q.At h.g.w1 h.g.h1
  obtain ⟨s2, q2, ks2, z, _, a2, a3, v2, n2, hr, hcl, au⟩ := room_eq h1 hd hdd hdw
  obtain ⟨i, hi⟩ : ∃ i : Nat, q2.At.Row = (i : Int) := ⟨q2.At.Row.toNat, by omega⟩
  obtain ⟨a, ha⟩ : ∃ a : Nat, q2.At.Col = (a : Int) := ⟨q2.At.Col.toNat, by omega⟩
  refine ⟨q2.L, i, a, q2.At.Pending, ?_, by omega, by omega, by rw [v2.len, n2], v2.ok⟩
  unfold rdy
  rw [a2]
  simp only [bsm]
  rw [a3]
  simp only [fld, hi, ha, au]
/-- A cluster 1 wide has room where the pen stands, once what is pending has gone on. -/
theorem rdy_one (h : Pv C s k g W q ks) : ∃ L1 i c, rp1 ⟨q.L, hc q.At W ks.length, q.Auto⟩ = some (L1, ((i : Nat) : Int), ((c : Nat) : Int), false, q.Auto) ∧ i < ks.length ∧ c + 1 ≤ W ∧ L1.length = ks.length ∧ (∀ x ∈ L1, Okl W x) := by
  have h1 := h.set (hc q.At W ks.length) q.Auto
  have hd := hc_hd q.At h.g.w1 h.g.h1
  obtain ⟨s2, q2, ks2, a1, a2, v2, n2, hd2, au, pe⟩ := room1 h1 hd
  have hr := hd2.rr
  have hcc := hd2.cc
  obtain ⟨i, hi⟩ : ∃ i : Nat, q2.At.Row = (i : Int) := ⟨q2.At.Row.toNat, by omega⟩
  obtain ⟨a, ha⟩ : ∃ a : Nat, q2.At.Col = (a : Int) := ⟨q2.At.Col.toNat, by omega⟩
  refine ⟨q2.L, i, a, ?_, by omega, by omega, by rw [v2.len, n2], v2.ok⟩
  rw [a2]
  simp only [fld, hi, ha, au, pe]
theorem rp2_one (W : Int) (z : (List G_api_Line) × Int × Int × Bool × Bool) : rp2 1 W z = some z := by
  unfold rp2
  simp only [andE_some, bsm]
  rw [if_neg (by simp)]

/-- Put anew where it stands, it is as put at once. -/
theorem put_again (h : Pv C s k g W q ks) {p1 p2 : Int} {t1 t2 : List Int} (ht1 : t1.length ≤ 1000000) (ht2 : t2.length ≤ 1000000) (hc1 : (cl2 p1 t1 W).1 = 1) {q' : G_linotyperef34_Pen} {at_ : G_api_Cursor} (hp : f_linotyperef34_Pen_Put q p1 t1 = some (q', at_))
    {s' C' : Sto} {ks' : List Nat} (h' : Pv C' s' k g W q' ks') (hk : ks'.length = ks.length) : f_linotyperef34_Pen_Put ⟨q'.L, at_, q'.Auto⟩ p2 t2 = f_linotyperef34_Pen_Put q p2 t2 := by
  obtain ⟨L1, i, c, e1, hi, hcw, hL1, hok1⟩ := rdy_one h
  have w1 := h.g.w1
  have w2 := h.g.w2
  have hh2 := h.g.h2
  have r1 : rdy q W ks.length 1 = some (L1, (i : Int), (c : Int), false, q.Auto) := by
    unfold rdy
    rw [e1]
    exact rp2_one (W : Int) _
  have hq := put_of_room (.inl rfl) h r1 hi hcw hL1 hok1 p1 t1 ht1 hc1
  rw [hp] at hq
  simp only [Option.some.injEq, Prod.mk.injEq] at hq
  obtain ⟨rfl, rfl⟩ := hq
  simp only [putq]
  have hlt : i < L1.length := by omega
  generalize hX : (⟨pl (L1.getD i dl).Cells c (strip (1 : Nat) (fx (cl2 p1 t1 W).2)), pw (L1.getD i dl).Cells (L1.getD i dl).Wrap c 1⟩ : G_api_Line) = X
  have hst := strip_d 1 (.inl rfl) (fx (cl2 p1 t1 W).2)
  have hcells : (L1.getD i dl).Cells.length = W := by
    rw [gdl hlt]
    exact (hok1 _ (List.getElem_mem hlt)).2
  have hXc : X.Cells.length = W := by rw [← hX]; simp only [pl_len]; exact hcells
  have h2 := h'.set ⟨(i : Int), (c : Int), false⟩ q.Auto
  simp only [putq] at h2
  rw [hX] at h2
  have hcid : hc ⟨(i : Int), (c : Int), false⟩ W ks.length = ⟨(i : Int), (c : Int), false⟩ := hc_id ⟨by simp only; omega, by simp only; omega, fun e => by cases e⟩
  have e2 : rp1 ⟨L1.set i X, hc ⟨(i : Int), (c : Int), false⟩ W ks'.length, q.Auto⟩ = some (L1.set i X, (i : Int), (c : Int), false, q.Auto) := by
    rw [hk, hcid]
    unfold rp1
    simp only [Bool.false_eq_true, if_false]
  have hg : (L1.set i X).getD i dl = X := by
    rw [List.getD_eq_getElem?_getD, List.getElem?_set_self hlt]
    rfl
  have hokX : ∀ x ∈ L1.set i X, Okl W x := h2.ok
  obtain ⟨hdd, hdw⟩ := cl2_d p2 t2 w1
  -- over the narrow one it leaves what it leaves alone
  have over : ∀ (a d : Nat), d = 1 ∨ d = 2 → a ≤ c → c + 1 ≤ a + d → a + d ≤ W → ∀ p : List G_api_Cell, p.length = d → (L1.set i X).set i ⟨pl ((L1.set i X).getD i dl).Cells a p, pw ((L1.set i X).getD i dl).Cells ((L1.set i X).getD i dl).Wrap a d⟩ = L1.set i ⟨pl (L1.getD i dl).Cells a p, pw (L1.getD i dl).Cells (L1.getD i dl).Wrap a d⟩ := by
    intro a d _ g1 g2 g3 p hpl
    rw [hg, List.set_set]
    congr 1
    rw [← hX]
    simp only
    have o1 := pl_over (l := (L1.getD i dl).Cells) (p := strip (1 : Nat) (fx (cl2 p1 t1 W).2)) (p' := p) g1 (by omega) (by omega)
    have o2 := pw_over (l := (L1.getD i dl).Cells) (w := (L1.getD i dl).Wrap) (p := strip (1 : Nat) (fx (cl2 p1 t1 W).2)) (p' := p) g1 (by omega) (by omega)
    rw [hst, hpl] at o2
    rw [o1, o2]
  -- the same room
  have fin : ∀ (a d : Nat) (pd pd' : Bool), d = 1 ∨ d = 2 → (cl2 p2 t2 W).1 = d → a ≤ c → c + 1 ≤ a + d → a + d ≤ W → rdy q W ks.length d = some (L1, (i : Int), (a : Int), pd, q.Auto) → rdy ⟨L1.set i X, ⟨(i : Int), (c : Int), false⟩, q.Auto⟩ W ks'.length d = some (L1.set i X, (i : Int), (a : Int), pd', q.Auto) →
      f_linotyperef34_Pen_Put ⟨L1.set i X, ⟨(i : Int), (c : Int), false⟩, q.Auto⟩ p2 t2 = f_linotyperef34_Pen_Put q p2 t2 := by
    intro a d pd pd' g0 g1 g2 g3 g4 b1 b2
    rw [put_of_room g0 h b1 hi g4 hL1 hok1 p2 t2 ht2 g1, put_of_room g0 h2 b2 (by omega) g4 (by rw [List.length_set]; omega) hokX p2 t2 ht2 g1]
    have := over a d g0 g2 g3 g4 (strip d (fx (cl2 p2 t2 W).2)) (strip_d d g0 _)
    unfold putq
    rw [this]
  have f1 : ∀ (L : List G_api_Line) (d : Nat), d = 2 → c + 1 < W → rp2 d W (L, (i : Int), (c : Int), false, q.Auto) = some (L, (i : Int), (c : Int), false, q.Auto) := by
    intro L d hd hcn
    unfold rp2
    simp only [andE_some, bsm]
    rw [w64_in (by omega), if_neg (by simp only [Bool.and_eq_true, beq_iff_eq]; omega)]
  rcases hdd with hd1 | hd2
  · refine fin c 1 false false (.inl rfl) hd1 (Nat.le_refl _) (Nat.le_refl _) hcw r1 ?_
    unfold rdy
    rw [e2]
    exact rp2_one (W : Int) _
  · by_cases hcn : c + 1 < W
    · refine fin c 2 false false (.inr rfl) hd2 (Nat.le_refl _) (by omega) (by omega) ?_ ?_
      · unfold rdy
        rw [e1]
        exact f1 _ 2 rfl hcn
      · unfold rdy
        rw [e2]
        exact f1 _ 2 rfl hcn
    · have hcW : (c : Int) = (W : Int) - 1 := by omega
      have ew1 : w64 ((W : Int) - 1) = ((W - 1 : Nat) : Int) := by rw [w64_in (by omega)]; omega
      have ew2 : w64 ((W : Int) - 2) = ((W - 2 : Nat) : Int) := by rw [w64_in (by omega)]; omega
      cases hau : q.Auto with
      | true =>
        have hpa : ∀ L : List G_api_Line, L.length = ks.length → (L.getD i dl).Cells.length = W → rp2 (2 : Nat) W (L, (i : Int), (c : Int), false, true) =
            (f_linotyperef34_Pen_GoOn ⟨L.set i ⟨pl (L.getD i dl).Cells (W - 1) [bl], pw (L.getD i dl).Cells (L.getD i dl).Wrap (W - 1) 1⟩, ⟨(i : Int), (c : Int), false⟩, true⟩).bind fun x_60 => (some (x_60.L, x_60.At.Row, x_60.At.Col, x_60.At.Pending, x_60.Auto) : Option ((List G_api_Line) × Int × Int × Bool × Bool)) := by
          intro L hL hLw
          unfold rp2
          simp only [andE_some, bsm]
          rw [if_pos (by simp only [Bool.and_eq_true, beq_iff_eq]; rw [ew1]; omega)]
          simp only [if_true]
          rw [rep_eq _ (by decide)]
          simp only [bsm]
          rw [show (List.replicate (1 : Int).toNat (⟨0, []⟩ : G_api_Cell)) = [bl] from rfl, ew1, ref_paint_at (by omega) (by omega) (by omega) (by decide) (by omega)]
          simp only [bsm]
          rfl
        obtain ⟨L2, i2, a2, pd2, g1, g2, g3, g4, g5⟩ := rdy_ok h (.inr rfl) (by omega : 2 ≤ W)
        have hsame : rdy ⟨L1.set i X, ⟨(i : Int), (c : Int), false⟩, true⟩ W ks'.length 2 = rdy q W ks.length 2 := by
          rw [hau] at e1 e2
          unfold rdy
          rw [hau, e1, e2]
          simp only [bsm]
          rw [hpa _ (by rw [List.length_set]; omega) (by rw [hg]; exact hXc), hpa _ hL1 hcells]
          rw [over (W - 1) 1 (.inl rfl) (by omega) (by omega) (by omega) [bl] rfl]
        rw [hau] at h2
        rw [put_of_room (.inr rfl) h g1 g2 g3 g4 g5 p2 t2 ht2 hd2, put_of_room (.inr rfl) h2 (hsame.trans g1) (by omega) g3 (by omega) g5 p2 t2 ht2 hd2]
      | false =>
        have hna : ∀ L : List G_api_Line, rp2 (2 : Nat) W (L, (i : Int), (c : Int), false, q.Auto) = some (L, (i : Int), ((W - 2 : Nat) : Int), false, q.Auto) := by
          intro L
          unfold rp2
          simp only [andE_some, bsm]
          rw [if_pos (by simp only [Bool.and_eq_true, beq_iff_eq]; rw [ew1]; omega)]
          simp only [hau, Bool.false_eq_true, if_false]
          rw [ew2]
        have key := fin (W - 2) 2 false false (.inr rfl) hd2 (by omega) (by omega) (by omega) (by unfold rdy; rw [e1]; exact hna _) (by unfold rdy; rw [e2]; exact hna _)
        rw [hau] at key
        exact key
end Go.Proofs.YthokmpbbkpjhbaaGreatDoor
