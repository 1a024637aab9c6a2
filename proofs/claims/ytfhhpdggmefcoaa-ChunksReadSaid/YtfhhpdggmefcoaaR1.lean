import Derived.Test.YtfhhpdggmefcoaaMr
import Derived.Test.YtfhhpdggmefcoaaProg
import Derived.Test.YtfhhpdggmefcoaaMy
import Derived.Test.YtfhhpdggmefcoaaMz
namespace Go.Proofs.Ytfhhpdggmefcoaa
open Go Go.Lt
set_option maxRecDepth 10000
set_option linter.unusedVariables false
attribute [local irreducible] W WL AC
open Try
variable {c0 : Cx} {G : Gm} {F : List En} {sg : Sto} {v1 v2 v3 v4 v5 v6 v7 v8 v9 v10 v11 v12 v13 v14 v15 v16 v17 v18 v19 v20 v21 v22 v23 v24 v25 v26 v27 v28 v29 v30 v31 v32 v33 v34 v35 v36 v37 v38 v39 v40 v41 v42 v43 v44 v45 v46 v47 v48 v49 v50 v51 v52 v53 v54 v55 v56 v57 v58 v59 v60 : Value}
def f_linotyperef03_some (p0 : List Int) (p1 : Int) : Option (Bool) :=
 (idx p0 0).bind fun c =>
 (idx ([0, 0, 192, 224, 240] : List Int) p1).bind fun d =>
 (orE (decide ((w64 ((w64 c) - d)) < 0)) ((idx ([0, 128, 32, 16, 8] : List Int) p1).bind fun l =>
 some (decide ((w64 ((w64 c) - d)) ≥ l)))).bind fun j =>
 if j = true then
 some false
 else
 (iter (σ := Int × Int × Int) (τ := Bool ⊕ (Int × Int)) ((p1 - 1).toNat + 1) (fun a =>
 if (decide (a.2.2 < p1)) = true then
 if (decide (a.2.2 < (p0.length : Int))) = true then
 (idx p0 a.2.2).bind fun e =>
 (orE (decide ((w64 ((w64 e) - 128)) < 0)) (some (decide ((w64 ((w64 e) - 128)) > 63)))).bind fun k =>
 if k = true then
 some (.inr (.inl false))
 else
 some (.inl ((w64 ((w64 (a.1 * 64)) + (w64 ((w64 e) - 128)))), (w64 ((w64 ((w64 ((w64 (a.2.1 * 64)) + 63)) - 63)) + (w64 ((w64 e) - 128)))), (w64 (a.2.2 + 1))))
 else
 some (.inl ((w64 (a.1 * 64)), (w64 ((w64 (a.2.1 * 64)) + 63)), (w64 (a.2.2 + 1))))
 else
 some (.inr (.inr (a.1, a.2.1)))) ((w64 ((w64 c) - d)), (w64 ((w64 c) - d)), 1)).bind fun b =>
 match b with
 | .inl b =>
 some b
 | .inr b =>
 (idx ([0, 0, 128, 2048, 65536] : List Int) p1).bind fun f =>
 (idx ([0, 127, 2047, 65535, 1114111] : List Int) p1).bind fun g =>
 (andE (decide ((imax b.1 f) ≤ (imin b.2 g))) ((orE (decide ((imax b.1 f) < 55296)) (some (decide ((imin b.2 g) > 57343)))).bind fun i =>
 some i)).bind fun h =>
 some h
theorem c_linotyperef03_some (O0 : Own c0 G F) (p0 : List Int) (n : Int) {r : Bool} (Z : Sl (RI .u8) c0 v1 p0) (H : f_linotyperef03_some p0 n = some r) :
    Calls prog 56 #[v1, I n] c0.w (Post c0 fun c v => Own c G (F) ∧ v = B r) := by
 unfold f_linotyperef03_some at H
 refine en func56 rfl rfl (sr (va (B false) (wln (sr (me (sl (RI .i64) 3 [[I 0], [I 0], [I 192], [I 224], [I 240]] ([0, 0, 192, 224, 240] : List Int) O0 ⟨rfl, rfl, rfl, rfl, rfl, trivial⟩) ?_)))))
 rintro v7 c6 l6 ⟨z, O3, h5⟩
 refine va (v7) (wln (sr (me (sl (RI .i64) 3 [[I 0], [I 128], [I 32], [I 16], [I 8]] ([0, 128, 32, 16, 8] : List Int) O3 ⟨rfl, rfl, rfl, rfl, rfl, trivial⟩) ?_)))
 rintro v12 n3 i0 ⟨u9, O8, X⟩
 refine va (v12) (wln (W.seq (rD [] (Kp G0 [es true (RI .i64) v7 3 z ([0, 0, 192, 224, 240] : List Int)]) O8 ?_)))
 intro N R E
 have v2 : Kp G0 [es true (RI .i64) v7 3 z ([0, 0, 192, 224, 240] : List Int)] N := (Kp.cons (E.on 1 rfl) Kp.nil0)
 refine ta 0 (v1) (bn H fun f u0 H => ?_)
 obtain ⟨h3, z1, o2⟩ := Sl.at (Z.mono (l6.trans (i0.trans R))) (idx_get u0)
 obtain rfl := z1
 refine tx 1 (fun c' h0 => ix underlying22 Z.m u0) (tx 2 (fun c' h0 => l1 underlying5 ((mm o2) 0 _ rfl)) (ta 3 (I (w64 f)) (ta 4 (v7) (ta 5 (I n) (bn H fun h a0 H => tx 6 (fun c' h0 => ixO underlying23 h5.m a0) ?_)))))
 obtain ⟨i3, a2, p2⟩ := OA.at (h5.mono (i0.trans R)) a0
 obtain rfl := a2
 refine AC.takeK 7 (I h) v2 rfl (by kernel_rfl) (by kernel_rfl) (by kernel_rfl) (fun c' h0 hk => (rx (by kernel_rfl) (ldE1 underlying3 rfl (hk.on 0 rfl) (h5.m.blk a0) (at1 (j := 0) p2 rfl)))) (ta 8 (I (w64 ((w64 f) - h))) (ta 9 (I (w64 ((w64 f) - h))) (dn (nrm (W.seq (W.seq (bn H fun f1 v0 H => W.join (Jn N fun c l => Own c G (es true (RI .i64) v12 3 u9 ([0, 128, 32, 16, 8] : List Int) :: es true (RI .i64) v7 3 z ([0, 0, 192, 224, 240] : List Int) :: F) ∧ l = [(0, v1), (1, I n), (7, I (w64 ((w64 f) - h))), (34, B f1)]) ?_ ?_)))))))
 ·clear H
  refine W.region (va (I (w64 ((w64 f) - h))) (va (B (decide ((w64 ((w64 f) - h)) < 0))) ?_))
  rcases bo (decide ((w64 ((w64 f) - h)) < 0)) with s | s
  ·obtain rfl := orT s v0
   exact vb s (ps (ps (ps (ps (ps (ps (va (B true) (wln ⟨N, _, _, rfl, pt, us, E, rfl⟩))))))))
  have T := orF s v0
  refine vb s (wn (va (I (w64 ((w64 f) - h))) (wn (va (v12) (wn (va (I n) (wn (bn T fun A b0 T => vx (ixO underlying23 X.m b0) (wn ?_)))))))))
  obtain ⟨j3, b2, q2⟩ := OA.at (X.mono R) b0
  obtain rfl := b2
  refine vr (I A) (rx (by kernel_rfl) (ldE1 underlying3 rfl (E.on 0 rfl) (X.m.blk b0) (at1 (j := 0) q2 rfl))) (wn (va (B (decide ((w64 ((w64 f) - h)) ≥ A))) ?_))
  obtain rfl := si T
  exact va (B (decide ((w64 ((w64 f) - h)) ≥ A))) (wln ⟨N, _, _, rfl, pt, us, E, rfl⟩)
 rintro U w_ ⟨p, q3, _, rfl, k2, rfl, q0, rfl⟩
 refine nrm (cn H (fun c2 H => ?_) (fun c2 H => ?_))
 ·refine sr (va (B false) (wln (W.ret (thr ?_))))
  obtain rfl := si H
  have n1 := q0.sD 2 []
  exact r1 ⟨_, p, rfl, rfl, pt, n1, rfl⟩
 refine W.skip (nrm (sr (va (I (w64 ((w64 f) - h))) (va (I (w64 ((w64 f) - h))) (va (I (w64 ((w64 f) - h))) (va (I (w64 ((w64 f) - h))) (wln (W.seq (sr (va (I 1) (wln (W.block (bn H fun b w0 k => lp w0 (fun a => Jn p fun c l => Own c G (es true (RI .i64) v12 3 u9 ([0, 128, 32, 16, 8] : List Int) :: es true (RI .i64) v7 3 z ([0, 0, 192, 224, 240] : List Int) :: F) ∧ l = [(0, v1), (1, I n), (8, I a.1), (9, I a.2.1), (10, I a.2.2)]) (fun t => match t with | .inl x_ => (fun w2 ex e w => ex = .ret ∧ (Jn p fun c l => Own c G (F) ∧ l = [(4, B w2)]) e w) x_ | .inr x_ => (fun S ex e w => ex = .exit 0 ∧ (Jn p fun c l => Own c G (es true (RI .i64) v12 3 u9 ([0, 128, 32, 16, 8] : List Int) :: es true (RI .i64) v7 3 z ([0, 0, 192, 224, 240] : List Int) :: F) ∧ l = [(1, I n), (8, I S.1), (9, I S.2)]) e w) x_) ?_ ?_ ?_)))))))))))))
 ·clear k w0
  intro a a4 x1 z2 H
  revert x1 z2
  rintro U w_ ⟨q, s3, _, rfl, l2, rfl, M, rfl⟩
  refine W.seq (sr (va (I a.2.2) (va (I n) (va (B (decide (a.2.2 < n))) (wln (cn H (fun d2 H => ?_) (fun d2 H => ?_)))))))
  ·refine W.skip (nrm (W.seq (W.block (sr (va (I a.1) (va (I (w64 (a.1 * 64))) (va (I (w64 (a.1 * 64))) (wln (sr (va (I a.2.1) (va (I (w64 (a.2.1 * 64))) (va (I (w64 ((w64 (a.2.1 * 64)) + 63))) (va (I (w64 ((w64 (a.2.1 * 64)) + 63))) (wln (sr (va (I a.2.2) (va (v1) (vx (ln 3 underlying22 Z.m) (va (B (decide (a.2.2 < (p0.length : Int)))) (wln (cn H (fun e2 H => ?_) (fun e2 H => ?_))))))))))))))))))))))
   ·refine sr (va (v1) (va (I a.2.2) (bn H fun d x0 H => ?_)))
    obtain ⟨k3, f2, s2⟩ := Sl.at (Z.mono (l6.trans (i0.trans (R.trans (k2.trans l2))))) (idx_get x0)
    obtain rfl := f2
    refine vx (ix underlying22 Z.m x0) (vx (l1 underlying5 (s2 0 _ rfl)) (va (I (w64 d)) (va (I (w64 ((w64 d) - 128))) (va (I (w64 ((w64 d) - 128))) (wln (W.seq (W.seq (bn H fun g1 y0 H => W.join (Jn q fun c l => Own c G (es true (RI .i64) v12 3 u9 ([0, 128, 32, 16, 8] : List Int) :: es true (RI .i64) v7 3 z ([0, 0, 192, 224, 240] : List Int) :: F) ∧ l = [(0, v1), (1, I n), (8, I (w64 (a.1 * 64))), (9, I (w64 ((w64 (a.2.1 * 64)) + 63))), (10, I a.2.2), (11, I (w64 ((w64 d) - 128))), (62, B g1)]) ?_ ?_))))))))
    ·clear H
     refine W.region (va (I (w64 ((w64 d) - 128))) (va (B (decide ((w64 ((w64 d) - 128)) < 0))) ?_))
     rcases bo (decide ((w64 ((w64 d) - 128)) < 0)) with u | u
     ·obtain rfl := orT u y0
      exact vb u (ps (ps (va (B true) (wln ⟨q, _, _, rfl, pt, us, M, rfl⟩))))
     have k1 := orF u y0
     refine vb u (wn (va (I (w64 ((w64 d) - 128))) (wn (va (B (decide ((w64 ((w64 d) - 128)) > 63))) ?_))))
     obtain rfl := si k1
     exact va (B (decide ((w64 ((w64 d) - 128)) > 63))) (wln ⟨q, _, _, rfl, pt, us, M, rfl⟩)
    rintro U w_ ⟨t0, t3, _, rfl, w3, rfl, s0, rfl⟩
    refine nrm (cn H (fun g2 H => ?_) (fun g2 H => ?_))
    ·refine sr (va (B false) (wln (W.ret (thr (bkr (thr ?_))))))
     obtain rfl := si H
     refine ⟨_, rfl, ⟨rfl, ?_⟩⟩
     have q1 := s0.sD 2 []
     exact ⟨t0, _, _, rfl, pt, us, q1, rfl⟩
    refine W.skip (nrm (sr (va (I (w64 (a.1 * 64))) (va (I (w64 ((w64 d) - 128))) (va (I (w64 ((w64 (a.1 * 64)) + (w64 ((w64 d) - 128))))) (va (I (w64 ((w64 (a.1 * 64)) + (w64 ((w64 d) - 128))))) (wln (W.region (va (I (w64 ((w64 (a.2.1 * 64)) + 63))) (va (I (w64 ((w64 ((w64 (a.2.1 * 64)) + 63)) - 63))) (va (I (w64 ((w64 d) - 128))) (va (I (w64 ((w64 ((w64 ((w64 (a.2.1 * 64)) + 63)) - 63)) + (w64 ((w64 d) - 128))))) (va (I (w64 ((w64 ((w64 ((w64 (a.2.1 * 64)) + 63)) - 63)) + (w64 ((w64 d) - 128))))) (WL.nil (bkn (nrm (W.region (va (I a.2.2) (va (I (w64 (a.2.2 + 1))) (va (I (w64 (a.2.2 + 1))) (WL.nil ?_)))))))))))))))))))))
    obtain rfl := si H
    exact ⟨_, rfl, ⟨t0, _, _, rfl, pt, us, s0, rfl⟩⟩
   refine W.skip (bkn (nrm (W.region (va (I a.2.2) (va (I (w64 (a.2.2 + 1))) (va (I (w64 (a.2.2 + 1))) (WL.nil ?_)))))))
   obtain rfl := si H
   exact ⟨_, rfl, ⟨q, _, _, rfl, pt, us, M, rfl⟩⟩
  refine W.exit (thx ?_)
  obtain rfl := si H
  exact ⟨_, rfl, rfl, ⟨q, _, _, rfl, pt, us, M, rfl⟩⟩
 ·exact ⟨p, _, _, rfl, pt, us, q0, rfl⟩
 rcases b with b | b
 ·intro y1; revert y1
  rintro _ U w_ ⟨rfl, w1, u3, _, rfl, x3, rfl, s1, rfl⟩
  refine bkr (thr ?_)
  obtain rfl := si k
  exact r1 ⟨_, w1, rfl, rfl, pt, s1, rfl⟩
 rintro _ U w_ ⟨rfl, o3, v3, _, rfl, y3, rfl, t1, rfl⟩
 refine bke (nrm (sr (me (sl (RI .i64) 3 [[I 0], [I 0], [I 128], [I 2048], [I 65536]] ([0, 0, 128, 2048, 65536] : List Int) t1 ⟨rfl, rfl, rfl, rfl, rfl, trivial⟩) ?_)))
 rintro k0 p3 z3 ⟨x2, u1, d0⟩
 refine va (k0) (wln (sr (me (sl (RI .i64) 3 [[I 0], [I 127], [I 2047], [I 65535], [I 1114111]] ([0, 127, 2047, 65535, 1114111] : List Int) u1 ⟨rfl, rfl, rfl, rfl, rfl, trivial⟩) ?_)))
 rintro l0 P n2 ⟨y2, o, e0⟩
 refine va (l0) (wln (sr (va (I b.1) (va (k0) (va (I n) (bn k fun i f0 k => vx (ixO underlying23 d0.m f0) ?_))))))
 obtain ⟨l3, i2, t2⟩ := OA.at (d0.mono n2) f0
 obtain rfl := i2
 refine vr (I i) (rx (by kernel_rfl) (ldE1 underlying3 rfl (o.on 1 rfl) (d0.m.blk f0) (at1 (j := 0) t2 rfl))) (va (I (imax b.1 i)) (va (I (imax b.1 i)) (wln (sr (va (I b.2) (va (l0) (va (I n) (bn k fun g g0 k => vx (ixO underlying23 e0 g0) ?_))))))))
 obtain ⟨m3, j2, u2⟩ := OA.at e0 g0
 obtain rfl := j2
 refine vr (I g) (rx (by kernel_rfl) (ldE1 underlying3 rfl (o.on 0 rfl) (e0.blk g0) (at1 (j := 0) u2 rfl))) (va (I (imin b.2 g)) (va (I (imin b.2 g)) (wln (W.seq (bn k fun o0 z0 k => W.join (Jn P fun c l => Own c G (es true (RI .i64) l0 3 y2 ([0, 127, 2047, 65535, 1114111] : List Int) :: es true (RI .i64) k0 3 x2 ([0, 0, 128, 2048, 65536] : List Int) :: es true (RI .i64) v12 3 u9 ([0, 128, 32, 16, 8] : List Int) :: es true (RI .i64) v7 3 z ([0, 0, 192, 224, 240] : List Int) :: F) ∧ l = [(4, B o0)]) ?_ ?_)))))
 ·clear k
  refine W.region (va (I (imax b.1 i)) (va (I (imin b.2 g)) (va (B (decide ((imax b.1 i) ≤ (imin b.2 g)))) ?_)))
  rcases bo (decide ((imax b.1 i) ≤ (imin b.2 g))) with x | x
  ·have D := anT x z0
   refine vb x (wn (va (I (imax b.1 i)) (wn (va (B (decide ((imax b.1 i) < 55296))) (wn (bn D fun a3 a1 D => ?_))))))
   rcases bo (decide ((imax b.1 i) < 55296)) with y | y
   ·obtain rfl := orT y a1
    refine vb y (ps (ps (wn (va (B true) ?_))))
    obtain rfl := si D
    exact va (B true) (va (B true) (wln ⟨P, _, _, rfl, pt, us, o, rfl⟩))
   have m1 := orF y a1
   refine vb y (wn (va (I (imin b.2 g)) (wn (va (B (decide ((imin b.2 g) > 57343))) (wn ?_)))))
   obtain rfl := si m1
   refine va (B (decide ((imin b.2 g) > 57343))) ?_
   obtain rfl := si D
   exact va (B (decide ((imin b.2 g) > 57343))) (va (B (decide ((imin b.2 g) > 57343))) (wln ⟨P, _, _, rfl, pt, us, o, rfl⟩))
  obtain rfl := anF x z0
  exact vb x (ps (ps (ps (ps (ps (ps (va (B false) (va (B false) (wln ⟨P, _, _, rfl, pt, us, o, rfl⟩)))))))))
 rintro U w_ ⟨e1, e3, _, rfl, g3, rfl, b1, rfl⟩
 refine nrm (W.ret ?_)
 obtain rfl := si k
 have c1 := b1.sD 4 []
 exact r1 ⟨_, e1, rfl, rfl, pt, c1, rfl⟩
def f_linotyperef03_Begins (p0 : List Int) : Option (Int) :=
 (iter (σ := Int) (τ := Int ⊕ Unit) (((4 : Int) - 1).toNat + 2) (fun a =>
 if (decide (a ≤ 4)) = true then
 (andE (decide ((p0.length : Int) ≥ 1)) (some (decide ((p0.length : Int) ≤ a)))).bind fun c =>
 (andE c ((f_linotyperef03_some p0 a).bind fun e =>
 some e)).bind fun d =>
 if d = true then
 some (.inr (.inl a))
 else
 some (.inl ((w64 (a + 1))))
 else
 some (.inr (.inr ()))) (1)).bind fun b =>
 match b with
 | .inl b =>
 some b
 | .inr b =>
 some 0
theorem c_linotyperef03_Begins (O0 : Own c0 G F) (f : List Int) {r : Int} (y : Sl (RI .u8) c0 v1 f) (H : f_linotyperef03_Begins f = some r) :
    Calls prog 40 #[v1] c0.w (Post c0 fun c v => Own c G (F) ∧ v = I r) := by
 unfold f_linotyperef03_Begins at H
 refine en func40 rfl rfl (sr (va (I 0) (wln (W.seq (sr (va (I 1) (wln (W.block (bn H fun i h3 s => lp h3 (fun a => Jn c0 fun c l => Own c G (F) ∧ l = [(0, v1), (3, I a)]) (fun t => match t with | .inl A => (fun e0 ex e w => ex = .ret ∧ (Jn c0 fun c l => Own c G (F) ∧ l = [(2, I e0)]) e w) A | .inr A => (fun i0 ex e w => ex = .exit 0 ∧ (Jn c0 fun c l => Own c G (F) ∧ l = []) e w) A) ?_ ?_ ?_)))))))))
 ·clear s h3
  intro a t0 U f0 H
  revert U f0
  rintro x z ⟨k, g6, _, rfl, l5, rfl, j, rfl⟩
  refine W.seq (sr (va (I a) (va (B (decide (a ≤ 4))) (wln (cn H (fun Z H => ?_) (fun Z H => ?_))))))
  ·refine W.skip (nrm (W.seq (W.block (W.seq (bn H fun h0 p H => bn H fun u h H => W.join (Jn k fun c l => Own c G (F) ∧ l = [(0, v1), (3, I a), (21, B u)]) ?_ ?_)))))
   ·clear H
    refine W.region (va (v1) (vx (ln 3 underlying22 y.m) (va (B (decide ((f.length : Int) ≥ 1))) ?_)))
    rcases bo (decide ((f.length : Int) ≥ 1)) with b | b
    ·have E := anT b p
     refine vb b (wn (va (v1) (wn (vx (ln 3 underlying22 y.m) (wn (va (I a) (wn (va (B (decide ((f.length : Int) ≤ a))) ?_))))))))
     obtain rfl := si E
     refine va (B (decide ((f.length : Int) ≤ a))) ?_
     rcases bo (decide ((f.length : Int) ≤ a)) with d | d
     ·have g := anT d h
      refine vb d (wn (va (v1) (wn (va (I a) (wn (bn g fun D a0 g => cl (c_linotyperef03_some j f a y.m a0) ?_))))))
      rintro v24 R m0 ⟨M, rfl⟩
      obtain rfl := si g
      exact va (B D) (wln ⟨R, _, _, rfl, pt, us, M, rfl⟩)
     obtain rfl := anF d h
     exact vb d (ps (ps (ps (va (B false) (wln ⟨k, _, _, rfl, pt, us, j, rfl⟩)))))
    obtain rfl := anF b p
    refine vb b (ps (ps (ps (ps (va (B false) ?_)))))
    have q : false = false := rfl
    obtain rfl := anF q h
    exact vb q (ps (ps (ps (va (B false) (wln ⟨k, _, _, rfl, pt, us, j, rfl⟩)))))
   rintro x z ⟨o, j0, _, rfl, o0, rfl, n, rfl⟩
   refine nrm (cn H (fun d0 H => ?_) (fun d0 H => ?_))
   ·refine sr (va (I a) (va (I a) (wln (W.ret (bkr (thr ?_))))))
    obtain rfl := si H
    exact ⟨_, rfl, ⟨rfl, ⟨o, _, _, rfl, pt, us, n, rfl⟩⟩⟩
   refine W.skip (bkn (nrm (W.region (va (I a) (va (I (w64 (a + 1))) (va (I (w64 (a + 1))) (WL.nil ?_)))))))
   obtain rfl := si H
   exact ⟨_, rfl, ⟨o, _, _, rfl, pt, us, n, rfl⟩⟩
  refine W.exit (thx ?_)
  obtain rfl := si H
  exact ⟨_, rfl, rfl, ⟨k, _, _, rfl, pt, us, j, rfl⟩⟩
 ·exact ⟨c0, _, _, rfl, pt, us, O0, rfl⟩
 rcases i with i | i
 ·intro X; revert X
  rintro _ x z ⟨rfl, S, k0, _, rfl, q0, rfl, N, rfl⟩
  refine bkr (thr ?_)
  obtain rfl := si s
  exact r1 ⟨_, S, rfl, rfl, pt, N, rfl⟩
 rintro _ x z ⟨rfl, T, l0, _, rfl, s0, rfl, P, rfl⟩
 refine bke (nrm (sr (va (I 0) (wln (W.ret ?_)))))
 obtain rfl := si s
 exact r1 ⟨_, T, rfl, rfl, pt, P, rfl⟩
def f_linotyperef03_whole (p0 : List Int) : Option (Int) :=
 (idx p0 0).bind fun e =>
 (idx ([0, 0, 192, 224, 240] : List Int) (p0.length : Int)).bind fun c =>
 (iter (σ := Int × Int) (τ := Int) (((p0.length : Int) - 1).toNat + 1) (fun a =>
 if (decide (a.2 < (p0.length : Int))) = true then
 (idx p0 a.2).bind fun d =>
 some (.inl ((w64 ((w64 ((w64 (a.1 * 64)) + (w64 d))) - 128)), (w64 (a.2 + 1))))
 else
 some (.inr (a.1))) ((w64 ((w64 e) - c)), 1)).bind fun b =>
 some (w32 b)
theorem c_linotyperef03_whole (O0 : Own c0 G F) (E : List Int) {r : Int} (h : Sl (RI .u8) c0 v1 E) (H : f_linotyperef03_whole E = some r) :
    Calls prog 69 #[v1] c0.w (Post c0 fun c v => Own c G (F) ∧ v = J r) := by
 unfold f_linotyperef03_whole at H
 refine en func69 rfl rfl (sr (va (J 0) (wln (sr (me (sl (RI .i64) 3 [[I 0], [I 0], [I 192], [I 224], [I 240]] ([0, 0, 192, 224, 240] : List Int) O0 ⟨rfl, rfl, rfl, rfl, rfl, trivial⟩) ?_)))))
 rintro v7 c6 l6 ⟨q, O3, A⟩
 refine va (v7) (wln (W.seq (rD [] (Kp G0 [es true (RI .i64) v7 3 q ([0, 0, 192, 224, 240] : List Int)]) O3 ?_)))
 intro o D P
 have g0 : Kp G0 [es true (RI .i64) v7 3 q ([0, 0, 192, 224, 240] : List Int)] o := (Kp.cons (P.on 0 rfl) Kp.nil0)
 refine ta 0 (v1) (bn H fun k x H => ?_)
 obtain ⟨m0, T, d0⟩ := Sl.at (h.mono (l6.trans D)) (idx_get x)
 obtain rfl := T
 refine tx 1 (fun n g => ix underlying22 h.m x) (tx 2 (fun n g => l1 underlying5 ((mm d0) 0 _ rfl)) (ta 3 (I (w64 k)) (ta 4 (v7) (ta 5 (v1) (tx 6 (fun n g => ln 3 underlying22 h.m) (bn H fun f i H => tx 7 (fun n g => ixO underlying23 A.m i) ?_))))))
 obtain ⟨o0, U, e0⟩ := OA.at (A.mono D) i
 obtain rfl := U
 refine AC.takeK 8 (I f) g0 rfl (by kernel_rfl) (by kernel_rfl) (by kernel_rfl) (fun n g hk => (rx (by kernel_rfl) (ldE1 underlying3 rfl (hk.on 0 rfl) (A.m.blk i) (at1 (j := 0) e0 rfl)))) (ta 9 (I (w64 ((w64 k) - f))) (ta 10 (I (w64 ((w64 k) - f))) (dn (nrm (W.seq (sr (va (I 1) (wln (W.block (bn H fun d y s => lp y (fun a => Jn o fun c l => Own c G (es true (RI .i64) v7 3 q ([0, 0, 192, 224, 240] : List Int) :: F) ∧ l = [(0, v1), (4, I a.1), (5, I a.2)]) (fun p ex e w => ex = .exit 0 ∧ (Jn o fun c l => Own c G (es true (RI .i64) v7 3 q ([0, 0, 192, 224, 240] : List Int) :: F) ∧ l = [(4, I p)]) e w) ?_ ?_ ?_))))))))))
 ·clear s y
  intro a w0 S h0 H
  revert S h0
  rintro e_ w_ ⟨u, t0, _, rfl, a0, rfl, t, rfl⟩
  refine W.seq (sr (va (I a.2) (va (v1) (vx (ln 3 underlying22 h.m) (va (B (decide (a.2 < (E.length : Int)))) (wln (cn H (fun X H => ?_) (fun X H => ?_))))))))
  ·refine W.skip (nrm (W.seq (W.block (W.region (va (I a.1) (va (I (w64 (a.1 * 64))) (va (v1) (va (I a.2) (bn H fun b z H => ?_)))))))))
   obtain ⟨q0, Z, f0⟩ := Sl.at (h.mono (l6.trans (D.trans a0))) (idx_get z)
   obtain rfl := Z
   refine vx (ix underlying22 h.m z) (vx (l1 underlying5 (f0 0 _ rfl)) (va (I (w64 b)) (va (I (w64 ((w64 (a.1 * 64)) + (w64 b)))) (va (I (w64 ((w64 ((w64 (a.1 * 64)) + (w64 b))) - 128))) (va (I (w64 ((w64 ((w64 (a.1 * 64)) + (w64 b))) - 128))) (WL.nil (bkn (nrm (W.region (va (I a.2) (va (I (w64 (a.2 + 1))) (va (I (w64 (a.2 + 1))) (WL.nil ?_)))))))))))))
   obtain rfl := si H
   exact ⟨_, rfl, ⟨u, _, _, rfl, pt, us, t, rfl⟩⟩
  refine W.exit (thx ?_)
  obtain rfl := si H
  exact ⟨_, rfl, rfl, ⟨u, _, _, rfl, pt, us, t, rfl⟩⟩
 ·exact ⟨o, _, _, rfl, pt, us, P, rfl⟩
 rintro _ e_ w_ ⟨rfl, R, u0, _, rfl, v0, rfl, M, rfl⟩
 refine bke (nrm (sr (va (I d) (va (J (w32 d)) (va (J (w32 d)) (wln (W.ret ?_)))))))
 obtain rfl := si s
 have N := M.sD 1 []
 exact r1 ⟨_, R, rfl, rfl, pt, N, rfl⟩
def f_linotyperef03_Step__0 (p0 : List Int) (p1 : Int) : Option ((List Int) × (List Int)) := none
theorem c_linotyperef03_Step__0 (g : Own c0 G F) (b : List Int) (d : Int) {r : (List Int) × (List Int)} (h : Sl (RI .u8) c0 v1 b) (H : f_linotyperef03_Step__0 b d = some r) :
    Calls prog 57 #[v1, .int .u8 d] c0.w (Post c0 fun c v => ∃ a e f, Own c G (es true (RI .i32) a 21 e r.1 :: F) ∧ v = .tuple #[a, f] ∧ OA (RI .i32) c a e r.1 ∧ Sl (RI .u8) c f r.2) := by
 unfold f_linotyperef03_Step__0 at H
 cases H
def f_linotyperef03_Step__1 (p0 : List Int) (p1 : Int) : Option ((List Int) × (List Int)) :=
 (app ([] : List Int) p0).bind fun g =>
 (app g ([p1] : List Int)).bind fun b =>
 (f_linotyperef03_Begins b).bind fun a =>
 (andE (decide (a > 0)) (some (decide (a > (b.length : Int))))).bind fun d =>
 if d = true then
 some (([] : List Int), b)
 else
 if (decide (a > 0)) = true then
 (f_linotyperef03_whole b).bind fun e =>
 some (([e] : List Int), ([] : List Int))
 else
 if ((p0.length : Int) == 0) = true then
 some (([65533] : List Int), ([] : List Int))
 else
 (f_linotyperef03_Step__0 ([] : List Int) p1).bind fun c =>
 (app ([65533] : List Int) c.1).bind fun f =>
 some (f, c.2)
theorem c_linotyperef03_Step__1 (O0 : Own c0 G F) (P : List Int) (d : Int) {r : (List Int) × (List Int)} (h2 : Sl (RI .u8) c0 v1 P) (H : f_linotyperef03_Step__1 P d = some r) :
    Calls prog 57 #[v1, .int .u8 d] c0.w (Post c0 fun c v => ∃ R y2 y3, Own c G (es true (RI .i32) R 21 y2 r.1 :: F) ∧ v = .tuple #[R, y3] ∧ OA (RI .i32) c R y2 r.1 ∧ Sl (RI .u8) c y3 r.2) := by
 unfold f_linotyperef03_Step__1 at H
 refine en func57 rfl rfl (sr (va (Y) (va (Y) (wln (sr (me (sl (RI .u8) 5 [] ([] : List Int) O0 trivial) ?_))))))
 rintro v7 c6 l6 ⟨u4, O3, h5⟩
 refine va (v1) (bn H fun n3 h8 H => me (ap (RI .u8) (.int .u8 0) 1 68 0 O3 h5 h2.m h8 underlying68) ?_)
 rintro v13 m2 x2 ⟨h3, O9, o0⟩
 refine va (.int .u8 d) (me (sl (RI .u8) 5 [[.int .u8 d]] ([d] : List Int) O9 ⟨rfl, trivial⟩) ?_)
 rintro v18 n2 z2 ⟨u1, T, q0⟩
 obtain ⟨o2, u0, a3, U, t0⟩ := T.frz 0 rfl q0
 refine WL.gh u0 (bn H fun h v0 H => me (ap (RI .u8) (.int .u8 0) 1 68 1 U o0.m t0 v0 underlying68) ?_)
 rintro v28 p2 b3 ⟨w1, X, i⟩
 refine va (v28) (wln (sr (va (v28) ?_)))
 obtain ⟨q2, x0, u, Z, w0⟩ := X.frz 1 rfl i
 refine WL.gh x0 (bn H fun a y0 H => cl (c_linotyperef03_Begins Z h w0 y0) ?_)
 rintro v39 k x ⟨p, rfl⟩
 refine va (I a) (wln (W.seq (W.seq (bn H fun M t H => W.join (Jn k fun c l => Own c G (es false (RI .u8) v18 5 u1 ([d] : List Int) :: es false (RI .u8) v28 5 w1 h :: F) ∧ l = [(0, v1), (1, .int .u8 d), (6, v28), (7, I a), (25, B M)]) ?_ ?_))))
 ·clear H
  refine W.region (va (I a) (va (B (decide (a > 0))) ?_))
  rcases bo (decide (a > 0)) with g | g
  ·have S := anT g t
   refine vb g (wn (va (I a) (wn (va (v28) (wn (vx (lnO 3 underlying68 i.m) (wn (va (B (decide (a > (h.length : Int)))) ?_))))))))
   obtain rfl := si S
   exact va (B (decide (a > (h.length : Int)))) (wln ⟨k, _, _, rfl, pt, us, p, rfl⟩)
  obtain rfl := anF g t
  exact vb g (ps (ps (ps (ps (va (B false) (wln ⟨k, _, _, rfl, pt, us, p, rfl⟩))))))
 rintro e_ w_ ⟨s, w2, _, rfl, y, rfl, f, rfl⟩
 refine nrm (cn H (fun z0 H => ?_) (fun z0 H => ?_))
 ·refine sr (va (v28) (va (Y) (va (v28) (wln (W.ret (thr ?_))))))
  obtain rfl := si H
  have a1 : OA (RI .i32) s (Y) [] [] := OA.nil (Nat.succ_pos _)
  have q := f.addHole (e := es true (RI .i32) (Y) 21 [] ([] : List Int)) rfl
  have b1 := q.slf 2 rfl (i.mono (u.trans (x.trans y)))
  have a0 := q.sD 3 [0]
  exact r2 ⟨_, s, rfl, rfl, pt, (Y), [], v28, a0, rfl, a1, b1⟩
 refine W.skip (nrm (W.seq (sr (va (I a) (va (B (decide (a > 0))) (wln (cn H (fun c1 H => ?_) (fun c1 H => ?_))))))))
 ·refine sr (va (v28) ?_)
  have d1 := f.slf 1 rfl (i.mono (u.trans (x.trans y)))
  refine bn H fun o e1 H => cl (c_linotyperef03_whole f h d1 e1) ?_
  rintro k3 s2 c3 ⟨b0, rfl⟩
  refine me (sl (RI .i32) 21 [[J o]] ([o] : List Int) b0 ⟨rfl, trivial⟩) ?_
  rintro z l0 d3 ⟨x1, d0, f1⟩
  refine va (z) (va (Y) (wln (W.ret (thr ?_))))
  obtain rfl := si H
  have e0 := d0.sD 3 [0]
  exact r2 ⟨_, l0, rfl, rfl, pt, z, x1, (Y), e0, rfl, f1, (Sl.nl _ _)⟩
 refine W.skip (nrm (W.seq (sr (va (v1) (vx (ln 3 underlying68 h2.m) (va (B ((P.length : Int) == 0)) (wln (cn H (fun g1 H => ?_) (fun g1 H => ?_)))))))))
 ·refine sr (me (sl (RI .i32) 21 [[J 65533]] ([65533] : List Int) f ⟨rfl, trivial⟩) ?_)
  rintro A m0 e3 ⟨z1, f0, h1⟩
  refine va (A) (va (Y) (wln (W.ret (thr ?_))))
  obtain rfl := si H
  have g0 := f0.sD 3 [0]
  exact r2 ⟨_, m0, rfl, rfl, pt, A, z1, (Y), g0, rfl, h1, (Sl.nl _ _)⟩
 refine W.skip (nrm (sr (va (.int .u8 d) (bn H fun k2 i1 H => cl (c_linotyperef03_Step__0 f ([] : List Int) d (Sl.nl _ _) i1) ?_))))
 rintro l3 t2 f3 ⟨j, i3, b, h0, rfl, j1, k1⟩
 refine va (.tuple #[j, b]) (va (j) (va (b) (va (j) (va (b) (wln (sr (me (sl (RI .i32) 21 [[J 65533]] ([65533] : List Int) h0 ⟨rfl, trivial⟩) ?_)))))))
 rintro m3 u2 t1 ⟨j3, i0, m1⟩
 refine va (j) ?_
 obtain ⟨v2, q1, g3, j0, n1⟩ := i0.frz 1 rfl (j1.mono t1)
 refine WL.gh q1 (bn H fun l2 s1 H => me (ap (RI .i32) (J 0) 4 32 0 j0 m1.m n1 s1 underlying32) ?_)
 rintro n E j2 ⟨a2, k0, N⟩
 refine va (b) (va (n) (va (b) (wln (W.ret ?_))))
 obtain rfl := si H
 have D := k0.sD 4 [0]
 exact r2 ⟨_, E, rfl, rfl, pt, n, a2, b, D, rfl, N, k1.m⟩
def f_linotyperef03_Step (p0 : List Int) (p1 : Int) : Option ((List Int) × (List Int)) :=
 (app ([] : List Int) p0).bind fun g =>
 (app g ([p1] : List Int)).bind fun b =>
 (f_linotyperef03_Begins b).bind fun a =>
 (andE (decide (a > 0)) (some (decide (a > (b.length : Int))))).bind fun d =>
 if d = true then
 some (([] : List Int), b)
 else
 if (decide (a > 0)) = true then
 (f_linotyperef03_whole b).bind fun e =>
 some (([e] : List Int), ([] : List Int))
 else
 if ((p0.length : Int) == 0) = true then
 some (([65533] : List Int), ([] : List Int))
 else
 (f_linotyperef03_Step__1 ([] : List Int) p1).bind fun c =>
 (app ([65533] : List Int) c.1).bind fun f =>
 some (f, c.2)
theorem c_linotyperef03_Step (O0 : Own c0 G F) (P : List Int) (d : Int) {r : (List Int) × (List Int)} (h2 : Sl (RI .u8) c0 v1 P) (H : f_linotyperef03_Step P d = some r) :
    Calls prog 57 #[v1, .int .u8 d] c0.w (Post c0 fun c v => ∃ R y2 y3, Own c G (es true (RI .i32) R 21 y2 r.1 :: F) ∧ v = .tuple #[R, y3] ∧ OA (RI .i32) c R y2 r.1 ∧ Sl (RI .u8) c y3 r.2) := by
 unfold f_linotyperef03_Step at H
 refine en func57 rfl rfl (sr (va (Y) (va (Y) (wln (sr (me (sl (RI .u8) 5 [] ([] : List Int) O0 trivial) ?_))))))
 rintro v7 c6 l6 ⟨u4, O3, h5⟩
 refine va (v1) (bn H fun n3 h8 H => me (ap (RI .u8) (.int .u8 0) 1 68 0 O3 h5 h2.m h8 underlying68) ?_)
 rintro v13 m2 x2 ⟨h3, O9, o0⟩
 refine va (.int .u8 d) (me (sl (RI .u8) 5 [[.int .u8 d]] ([d] : List Int) O9 ⟨rfl, trivial⟩) ?_)
 rintro v18 n2 z2 ⟨u1, T, q0⟩
 obtain ⟨o2, u0, a3, U, t0⟩ := T.frz 0 rfl q0
 refine WL.gh u0 (bn H fun h v0 H => me (ap (RI .u8) (.int .u8 0) 1 68 1 U o0.m t0 v0 underlying68) ?_)
 rintro v28 p2 b3 ⟨w1, X, i⟩
 refine va (v28) (wln (sr (va (v28) ?_)))
 obtain ⟨q2, x0, u, Z, w0⟩ := X.frz 1 rfl i
 refine WL.gh x0 (bn H fun a y0 H => cl (c_linotyperef03_Begins Z h w0 y0) ?_)
 rintro v39 k x ⟨p, rfl⟩
 refine va (I a) (wln (W.seq (W.seq (bn H fun M t H => W.join (Jn k fun c l => Own c G (es false (RI .u8) v18 5 u1 ([d] : List Int) :: es false (RI .u8) v28 5 w1 h :: F) ∧ l = [(0, v1), (1, .int .u8 d), (6, v28), (7, I a), (25, B M)]) ?_ ?_))))
 ·clear H
  refine W.region (va (I a) (va (B (decide (a > 0))) ?_))
  rcases bo (decide (a > 0)) with g | g
  ·have S := anT g t
   refine vb g (wn (va (I a) (wn (va (v28) (wn (vx (lnO 3 underlying68 i.m) (wn (va (B (decide (a > (h.length : Int)))) ?_))))))))
   obtain rfl := si S
   exact va (B (decide (a > (h.length : Int)))) (wln ⟨k, _, _, rfl, pt, us, p, rfl⟩)
  obtain rfl := anF g t
  exact vb g (ps (ps (ps (ps (va (B false) (wln ⟨k, _, _, rfl, pt, us, p, rfl⟩))))))
 rintro e_ w_ ⟨s, w2, _, rfl, y, rfl, f, rfl⟩
 refine nrm (cn H (fun z0 H => ?_) (fun z0 H => ?_))
 ·refine sr (va (v28) (va (Y) (va (v28) (wln (W.ret (thr ?_))))))
  obtain rfl := si H
  have a1 : OA (RI .i32) s (Y) [] [] := OA.nil (Nat.succ_pos _)
  have q := f.addHole (e := es true (RI .i32) (Y) 21 [] ([] : List Int)) rfl
  have b1 := q.slf 2 rfl (i.mono (u.trans (x.trans y)))
  have a0 := q.sD 3 [0]
  exact r2 ⟨_, s, rfl, rfl, pt, (Y), [], v28, a0, rfl, a1, b1⟩
 refine W.skip (nrm (W.seq (sr (va (I a) (va (B (decide (a > 0))) (wln (cn H (fun c1 H => ?_) (fun c1 H => ?_))))))))
 ·refine sr (va (v28) ?_)
  have d1 := f.slf 1 rfl (i.mono (u.trans (x.trans y)))
  refine bn H fun o e1 H => cl (c_linotyperef03_whole f h d1 e1) ?_
  rintro k3 s2 c3 ⟨b0, rfl⟩
  refine me (sl (RI .i32) 21 [[J o]] ([o] : List Int) b0 ⟨rfl, trivial⟩) ?_
  rintro z l0 d3 ⟨x1, d0, f1⟩
  refine va (z) (va (Y) (wln (W.ret (thr ?_))))
  obtain rfl := si H
  have e0 := d0.sD 3 [0]
  exact r2 ⟨_, l0, rfl, rfl, pt, z, x1, (Y), e0, rfl, f1, (Sl.nl _ _)⟩
 refine W.skip (nrm (W.seq (sr (va (v1) (vx (ln 3 underlying68 h2.m) (va (B ((P.length : Int) == 0)) (wln (cn H (fun g1 H => ?_) (fun g1 H => ?_)))))))))
 ·refine sr (me (sl (RI .i32) 21 [[J 65533]] ([65533] : List Int) f ⟨rfl, trivial⟩) ?_)
  rintro A m0 e3 ⟨z1, f0, h1⟩
  refine va (A) (va (Y) (wln (W.ret (thr ?_))))
  obtain rfl := si H
  have g0 := f0.sD 3 [0]
  exact r2 ⟨_, m0, rfl, rfl, pt, A, z1, (Y), g0, rfl, h1, (Sl.nl _ _)⟩
 refine W.skip (nrm (sr (va (.int .u8 d) (bn H fun k2 i1 H => cl (c_linotyperef03_Step__1 f ([] : List Int) d (Sl.nl _ _) i1) ?_))))
 rintro l3 t2 f3 ⟨j, i3, b, h0, rfl, j1, k1⟩
 refine va (.tuple #[j, b]) (va (j) (va (b) (va (j) (va (b) (wln (sr (me (sl (RI .i32) 21 [[J 65533]] ([65533] : List Int) h0 ⟨rfl, trivial⟩) ?_)))))))
 rintro m3 u2 t1 ⟨j3, i0, m1⟩
 refine va (j) ?_
 obtain ⟨v2, q1, g3, j0, n1⟩ := i0.frz 1 rfl (j1.mono t1)
 refine WL.gh q1 (bn H fun l2 s1 H => me (ap (RI .i32) (J 0) 4 32 0 j0 m1.m n1 s1 underlying32) ?_)
 rintro n E j2 ⟨a2, k0, N⟩
 refine va (b) (va (n) (va (b) (wln (W.ret ?_))))
 obtain rfl := si H
 have D := k0.sD 4 [0]
 exact r2 ⟨_, E, rfl, rfl, pt, n, a2, b, D, rfl, N, k1.m⟩
def f_linotyperef03_Feed (p0 : List Int) (p1 : List Int) : Option ((List Int) × (List Int)) :=
 (iter (σ := (List Int) × (List Int) × Int) (τ := ((List Int) × (List Int))) (((p1.length : Int) - 0).toNat + 1) (fun a =>
 if (decide (a.2.2 < (p1.length : Int))) = true then
 (idx p1 a.2.2).bind fun d =>
 (f_linotyperef03_Step a.1 d).bind fun b =>
 (app a.2.1 b.1).bind fun e =>
 some (.inl (b.2, e, (w64 (a.2.2 + 1))))
 else
 some (.inr (a.1, a.2.1))) (p0, ([] : List Int), 0)).bind fun c =>
 some (c.2, c.1)
theorem c_linotyperef03_Feed (O0 : Own c0 G F) (p0 : List Int) (n : List Int) {r : (List Int) × (List Int)} (h2 : Sl (RI .u8) c0 v1 p0) (k : Sl (RI .u8) c0 v3 n) (H : f_linotyperef03_Feed p0 n = some r) :
    Calls prog 41 #[v1, v3] c0.w (Post c0 fun c v => ∃ p y2 y3, Own c G (es true (RI .i32) p 21 y2 r.1 :: F) ∧ v = .tuple #[p, y3] ∧ OA (RI .i32) c p y2 r.1 ∧ Sl (RI .u8) c y3 r.2) := by
 unfold f_linotyperef03_Feed at H
 refine en func41 rfl rfl (sr (va (Y) (va (Y) (wln (sr (va (Y) (wln (W.seq (sr (va (I 0) (wln (W.block (bn H fun f1 h5 q => lp h5 (fun a => Jn c0 fun c l => ∃ v7 f v9, Own c G (es true (RI .i32) v7 21 f a.2.1 :: F) ∧ l = [(0, v9), (1, v3), (6, v7), (7, I a.2.2)] ∧ OA (RI .i32) c v7 f a.2.1 ∧ Sl (RI .u8) c v9 a.1) (fun b ex e w => ex = .exit 0 ∧ (Jn c0 fun c l => ∃ v10 d v12, Own c G (es true (RI .i32) v10 21 d b.2 :: F) ∧ l = [(0, v12), (6, v10)] ∧ OA (RI .i32) c v10 d b.2 ∧ Sl (RI .u8) c v12 b.1) e w) ?_ ?_ ?_)))))))))))))
 ·clear q h5
  intro a h1 M k0 H
  revert M k0
  rintro e_ w_ ⟨A, z0, _, rfl, g0, rfl, v7, f, v9, g, rfl, h, i⟩
  refine W.seq (sr (va (I a.2.2) (va (v3) (vx (ln 3 underlying22 k.m) (va (B (decide (a.2.2 < (n.length : Int)))) (wln (cn H (fun N H => ?_) (fun N H => ?_))))))))
  ·refine W.skip (nrm (W.seq (W.block (sr (va (Y) (wln (sr (va (v9) (va (v3) (va (I a.2.2) (bn H fun o j H => ?_)))))))))))
   obtain ⟨t0, P, h0⟩ := Sl.at (k.mono g0) (idx_get j)
   obtain rfl := P
   refine vx (ix underlying22 k.m j) (vx (l1 underlying5 (h0 0 _ rfl)) (bn H fun v0 R H => cl (c_linotyperef03_Step g a.1 o i R) ?_))
   rintro v37 x0 b1 ⟨v27, g1, v30, s, rfl, S, T⟩
   refine va (.tuple #[v27, v30]) (va (v27) (va (v30) (va (v27) (va (v30) (wln (W.region (va (v7) (va (v27) ?_))))))))
   obtain ⟨y0, X, c1, t, U⟩ := s.frz 0 rfl S
   refine WL.gh X (bn H fun w0 Z H => me (ap (RI .i32) (J 0) 4 32 1 t h.m U Z underlying32) ?_)
   rintro v47 D d1 ⟨j0, u, a0⟩
   refine va (v47) (WL.nil (bkn (nrm (W.region (va (I a.2.2) (va (I (w64 (a.2.2 + 1))) (va (I (w64 (a.2.2 + 1))) (WL.nil ?_))))))))
   obtain rfl := si H
   refine ⟨_, rfl, ?_⟩
   have x := u.sD 2 [1]
   exact ⟨D, _, _, rfl, pt, us, v47, j0, v30, x, rfl, a0, T.m⟩
  refine W.exit (thx ?_)
  obtain rfl := si H
  exact ⟨_, rfl, rfl, ⟨A, _, _, rfl, pt, us, v7, f, v9, g, rfl, h, i⟩⟩
 ·have d0 : OA (RI .i32) c0 (Y) [] [] := OA.nil (Nat.succ_pos _)
  have y := O0.addHole (e := es true (RI .i32) (Y) 21 [] ([] : List Int)) rfl
  exact ⟨c0, _, _, rfl, pt, us, (Y), [], v1, y, rfl, d0, h2⟩
 rintro _ e_ w_ ⟨rfl, E, a1, _, rfl, e1, rfl, v10, d, v12, z, rfl, e0, f0⟩
 refine bke (nrm (sr (va (v10) (va (v12) (va (v10) (va (v12) (wln (W.ret ?_))))))))
 obtain rfl := si q
 exact r2 ⟨_, E, rfl, rfl, pt, v10, d, v12, z, rfl, e0, f0⟩
def f_linotyperef04_All (p0 : List Int) : Option (List G_linotyperef04_Got) :=
 (iter (σ := (List G_linotyperef04_Got) × Int) (τ := (List G_linotyperef04_Got)) (((p0.length : Int) - 0).toNat + 1) (fun a =>
 if (decide (a.2 < (p0.length : Int))) = true then
 (iter (σ := Int) (τ := Int) (((p0.length : Int) - (w64 (a.2 + 0))).toNat + 1) (fun c =>
 (andE (decide ((w64 (a.2 + c)) < (p0.length : Int))) ((slc p0 a.2 (w64 ((w64 (a.2 + c)) + 1))).bind fun h =>
 (f_linotyperef03_Begins h).bind fun i =>
 some (decide (i > 0)))).bind fun g =>
 if g = true then
 (slc p0 a.2 (w64 (a.2 + (w64 (c + 1))))).bind fun j =>
 (f_linotyperef03_Begins j).bind fun k =>
 if (k == (w64 (c + 1))) = true then
 some (.inr ((w64 (c + 1))))
 else
 some (.inl ((w64 (c + 1))))
 else
 some (.inr (c))) (0)).bind fun b =>
 (if (decide (b > 0)) = true then
 (slc p0 a.2 (w64 (a.2 + b))).bind fun l =>
 (f_linotyperef03_Feed ([] : List Int) l).bind fun e =>
 if ((e.2.length : Int) == 0) = true then
 (idx e.1 0).bind fun m =>
 some (m, b, (w64 (a.2 + b)), false)
 else
 some (65533, (imax b 1), (imin (w64 ((w64 (a.2 + b)) + 1)) (p0.length : Int)), true)
 else
 some (65533, (imax b 1), (w64 (a.2 + 1)), true)).bind fun d =>
 (app a.1 ([(⟨d.1, a.2, d.2.1, d.2.2.1, d.2.2.2⟩ : G_linotyperef04_Got)] : List G_linotyperef04_Got)).bind fun f =>
 some (.inl (f, (w64 (a.2 + d.2.1))))
 else
 some (.inr (a.1))) (([] : List G_linotyperef04_Got), 0)).bind fun n =>
 some n
theorem c_linotyperef04_All (O0 : Own c0 G F) (n : List Int) {r : List G_linotyperef04_Got} (u : Sl (RI .u8) c0 v1 n) (H : f_linotyperef04_All n = some r) :
    Calls prog 31 #[v1] c0.w (Post c0 fun c v => ∃ y1 y2, Own c G (es true R_linotyperef04_Got y1 57 y2 r :: F) ∧ v = y1 ∧ OA R_linotyperef04_Got c y1 y2 r) := by
 unfold f_linotyperef04_All at H
 refine en func31 rfl rfl (sr (va (Y) (wln (sr (va (Y) (wln (sr (va (I 0) (wln (W.seq (W.block (bn H fun o4 h3 H4 => lp h3 (fun a => Jn c0 fun c l => ∃ v5 o, Own c G (es true R_linotyperef04_Got v5 57 o a.1 :: F) ∧ l = [(0, v1), (3, v5), (4, I a.2)] ∧ OA R_linotyperef04_Got c v5 o a.1) (fun P ex e w => ex = .exit 0 ∧ (Jn c0 fun c l => ∃ v7 u8, Own c G (es true R_linotyperef04_Got v7 57 u8 P :: F) ∧ l = [(3, v7)] ∧ OA R_linotyperef04_Got c v7 u8 P) e w) ?_ ?_ ?_))))))))))))
 ·clear H4 h3
  intro a l3 E T H
  revert E T
  rintro D S ⟨X, g4, _, rfl, l9, rfl, v5, o, d0, rfl, l0⟩
  refine W.seq (sr (va (I a.2) (va (v1) (vx (ln 3 underlying22 u.m) (va (B (decide (a.2 < (n.length : Int)))) (wln (cn H (fun g2 H => ?_) (fun g2 H => ?_))))))))
  ·refine W.skip (nrm (W.block (sr (va (I 0) (wln (W.seq (W.block (bn H fun b m0 b0 => lp m0 (fun f => Jn X fun c l => Own c G (es true R_linotyperef04_Got v5 57 o a.1 :: F) ∧ l = [(0, v1), (3, v5), (4, I a.2), (5, I f)]) (fun Z ex e w => ex = .exit 2 ∧ (Jn X fun c l => Own c G (es true R_linotyperef04_Got v5 57 o a.1 :: F) ∧ l = [(0, v1), (3, v5), (4, I a.2), (5, I Z)]) e w) ?_ ?_ ?_))))))))
   ·clear b0 m0
    intro f l3 E T H
    revert E T
    rintro D S ⟨i0, h4, _, rfl, q0, rfl, e0, rfl⟩
    refine W.seq (W.seq (bn H fun z0 o0 H => W.join (Jn i0 fun c l => Own c G (es true R_linotyperef04_Got v5 57 o a.1 :: F) ∧ l = [(0, v1), (3, v5), (4, I a.2), (5, I f), (29, B z0)]) ?_ ?_))
    ·clear H
     refine W.region (va (I a.2) (va (I f) (va (I (w64 (a.2 + f))) (va (v1) (vx (ln 3 underlying22 u.m) (va (B (decide ((w64 (a.2 + f)) < (n.length : Int)))) ?_))))))
     rcases bo (decide ((w64 (a.2 + f)) < (n.length : Int))) with i | i
     ·have h := anT i o0
      refine vb i (wn (va (v1) (wn (va (I a.2) (wn (va (I a.2) (wn (va (I f) (wn (va (I (w64 (a.2 + f))) (wn (va (I (w64 ((w64 (a.2 + f)) + 1))) (wn (bn h fun j1 i2 h => ?_))))))))))))))
      obtain ⟨v29, k2, l2⟩ := run_cut (k := .i64) (k' := .i64) underlying22 (by kernel_rfl) (u.mono (l9.trans q0)) i2
      refine vr v29 (rx (by kernel_rfl) (k2 _)) (wn (bn h fun U m2 h => cl (c_linotyperef03_Begins e0 j1 l2 m2) ?_))
      rintro v38 c2 k4 ⟨t1, rfl⟩
      refine wn (va (B (decide (U > 0))) ?_)
      obtain rfl := si h
      exact va (B (decide (U > 0))) (wln ⟨c2, _, _, rfl, pt, us, t1, rfl⟩)
     obtain rfl := anF i o0
     exact vb i (ps (ps (ps (ps (ps (ps (ps (ps (ps (va (B false) (wln ⟨i0, _, _, rfl, pt, us, e0, rfl⟩)))))))))))
    rintro D S ⟨d2, i4, _, rfl, d3, rfl, f0, rfl⟩
    refine nrm (cn H (fun n2 H => ?_) (fun n2 H => ?_))
    ·refine W.skip (nrm (W.block (sr (va (I f) (va (I (w64 (f + 1))) (va (I (w64 (f + 1))) (wln (sr (va (v1) (va (I a.2) (va (I a.2) (va (I (w64 (f + 1))) (va (I (w64 (a.2 + (w64 (f + 1))))) (bn H fun k1 o2 H => ?_))))))))))))))
     obtain ⟨v47, p2, q2⟩ := run_cut (k := .i64) (k' := .i64) underlying22 (by kernel_rfl) (u.mono (l9.trans (q0.trans d3))) o2
     refine vr v47 (rx (by kernel_rfl) (p2 _)) (bn H fun m1 s2 H => cl (c_linotyperef03_Begins f0 k1 q2 s2) ?_)
     rintro v56 j0 l4 ⟨g0, rfl⟩
     refine va (I (w64 (f + 1))) (va (B (m1 == (w64 (f + 1)))) (wln (cn H (fun t2 H => ?_) (fun t2 H => ?_))))
     ·refine W.exit (bko rfl ?_)
      obtain rfl := si H
      exact ⟨_, rfl, rfl, ⟨j0, _, _, rfl, pt, us, g0, rfl⟩⟩
     refine W.skip (bkn ?_)
     obtain rfl := si H
     exact ⟨_, rfl, ⟨j0, _, _, rfl, pt, us, g0, rfl⟩⟩
    refine W.exit (thx ?_)
    obtain rfl := si H
    exact ⟨_, rfl, rfl, ⟨d2, _, _, rfl, pt, us, f0, rfl⟩⟩
   ·exact ⟨X, _, _, rfl, pt, us, d0, rfl⟩
   rintro _ D S ⟨rfl, d4, j4, _, rfl, e3, rfl, u1, rfl⟩
   refine bke (nrm (sr (va (I a.2) (va (I b) (va (I (imax b 1)) (va (I a.2) (va (I (w64 (a.2 + 1))) (va (.agg #[J 65533, I a.2, I (imax b 1), I (w64 (a.2 + 1)), B true]) (me (al 57 [J 0, I 0, I 0, I 0, B false] u1) ?_)))))))))
   rintro q4 e4 f3 ⟨q, rfl, w1⟩
   refine md (sA 57 [J 65533, I a.2, I (imax b 1), I (w64 (a.2 + 1)), B true] 0 w1 ⟨rfl, rfl, rfl, rfl, rfl, trivial⟩) ?_
   rintro k0 g3 h0
   refine wln (bn b0 fun d g x => W.seqJ (Jn k0 fun c l => Own c G ((Eb q 57 [J d.1, I a.2, I d.2.1, I d.2.2.1, B d.2.2.2]) :: es true R_linotyperef04_Got v5 57 o a.1 :: F) ∧ l = [(0, v1), (3, v5), (4, I a.2), (6, Q q)]) ?_ ?_)
   ·refine sr (va (I b) (va (B (decide (b > 0))) (wln (cn g (fun u2 g => ?_) (fun u2 g => ?_)))))
    ·refine sr (va (v1) (va (I a.2) (va (I a.2) (va (I b) (va (I (w64 (a.2 + b))) (bn g fun n1 v2 g => ?_))))))
     obtain ⟨k3, w2, x2⟩ := run_cut (k := .i64) (k' := .i64) underlying22 (by kernel_rfl) (u.mono (l9.trans (e3.trans (f3.trans g3)))) v2
     refine vr k3 (rx (by kernel_rfl) (w2 _)) (bn g fun p1 z2 g => cl (c_linotyperef03_Feed h0 ([] : List Int) n1 (Sl.nl _ _) x2 z2) ?_)
     rintro r4 f4 m4 ⟨s, p4, t, x1, rfl, M, a3⟩
     refine va (.tuple #[s, t]) (va (s) (va (t) (va (s) (va (t) (wln (sr (va (I a.2) (va (I b) (va (I (w64 (a.2 + b))) (va (I (w64 ((w64 (a.2 + b)) + 1))) (va (v1) (vx (ln 3 underlying22 u.m) (va (I (imin (w64 ((w64 (a.2 + b)) + 1)) (n.length : Int))) (va (.pointer (some ⟨q, 3, none⟩)) (md (sC 3 3 (I (imin (w64 ((w64 (a.2 + b)) + 1)) (n.length : Int))) [J 65533, I a.2, I (imax b 1), I (imin (w64 ((w64 (a.2 + b)) + 1)) (n.length : Int)), B true] 1 x1 ⟨rfl, trivial⟩) ?_)))))))))))))))
     rintro e2 i3 A
     refine wln (sr (va (t) (vx (ln 3 underlying68 a3.m) (va (B ((p1.2.length : Int) == 0)) (wln (cn g (fun b3 g => ?_) (fun b3 g => ?_)))))))
     ·refine W.region (va (s) (bn g fun p N g => vx (ixO underlying32 M.m N) ?_))
      obtain ⟨a4, c3, j3⟩ := OA.at (M.mono i3) N
      obtain rfl := c3
      refine vr (J p) (rx (by kernel_rfl) (ldE1 underlying21 rfl (A.on 0 rfl) (M.m.blk N) (at1 (j := 0) j3 rfl))) (va (I a.2) (va (I b) (va (I a.2) (va (I b) (va (I (w64 (a.2 + b))) (va (.agg #[J p, I a.2, I b, I (w64 (a.2 + b)), B false]) (md (sA 57 [J p, I a.2, I b, I (w64 (a.2 + b)), B false] 1 A ⟨rfl, rfl, rfl, rfl, rfl, trivial⟩) ?_)))))))
      rintro f2 n4 z1
      refine wln ?_
      obtain rfl := si g
      have a2 := z1.sD 3 [1, 2]
      exact ⟨f2, _, _, rfl, pt, us, a2, rfl⟩
     refine W.skip (nrm ?_)
     obtain rfl := si g
     have b2 := A.sD 3 [1, 2]
     exact ⟨e2, _, _, rfl, pt, us, b2, rfl⟩
    refine W.skip (nrm ?_)
    obtain rfl := si g
    exact ⟨k0, _, _, rfl, pt, us, h0, rfl⟩
   rintro D S ⟨p3, t3, _, rfl, v3, rfl, y, rfl⟩
   refine sr (va (v5) (vx (leN 57 0 [J d.1, I a.2, I d.2.1, I d.2.2.1, B d.2.2.2] (y.on 0 rfl)) (me (sl R_linotyperef04_Got 57 [[J d.1, I a.2, I d.2.1, I d.2.2.1, B d.2.2.2]] ([(⟨d.1, a.2, d.2.1, d.2.2.1, d.2.2.2⟩ : G_linotyperef04_Got)] : List G_linotyperef04_Got) y ⟨rfl, trivial⟩) ?_)))
   rintro c4 q3 w3 ⟨b4, s0, a1⟩
   obtain ⟨s3, c1, x3, t0, b1⟩ := s0.frz 0 rfl a1
   refine WL.gh c1 (bn x fun n3 d1 x => me (ap R_linotyperef04_Got (.agg #[J 0, I 0, I 0, I 0, B false]) 40 54 2 t0 l0.m b1 d1 underlying54) ?_)
   rintro R x0 y3 ⟨i1, z, e1⟩
   refine va (R) (wln (W.region (va (I a.2) (va (.pointer (some ⟨q, 2, none⟩)) (vx (le1 2 underlying3 (z.on 1 rfl)) (va (I (w64 (a.2 + d.2.1))) (va (I (w64 (a.2 + d.2.1))) (WL.nil (bkn ?_)))))))))
   obtain rfl := si x
   refine ⟨_, rfl, ?_⟩
   have u0 := z.sD 3 [2]
   exact ⟨x0, _, _, rfl, pt, us, R, i1, u0, rfl, e1⟩
  refine W.exit (thx ?_)
  obtain rfl := si H
  exact ⟨_, rfl, rfl, ⟨X, _, _, rfl, pt, us, v5, o, d0, rfl, l0⟩⟩
 ·have f1 : OA R_linotyperef04_Got c0 (Y) [] [] := OA.nil (Nat.succ_pos _)
  have v0 := O0.addHole (e := es true R_linotyperef04_Got (Y) 57 [] ([] : List G_linotyperef04_Got)) rfl
  exact ⟨c0, _, _, rfl, pt, us, (Y), [], v0, rfl, f1⟩
 rintro _ D S ⟨rfl, y0, u3, _, rfl, z3, rfl, v7, u8, w0, rfl, g1⟩
 refine bke (nrm (sr (va (v7) (va (v7) (wln (W.ret ?_))))))
 obtain rfl := si H4
 exact r1 ⟨_, y0, rfl, rfl, pt, v7, u8, w0, rfl, g1⟩
def f_linotyperef04_Runes (p0 : List Int) : Option (List Int) :=
 (f_linotyperef04_All p0).bind fun b =>
 (iter (σ := (List Int) × Int) (τ := (List Int)) (((b.length : Int) - 0).toNat + 1) (fun a =>
 if (decide (a.2 < (b.length : Int))) = true then
 (idx b a.2).bind fun d =>
 (app a.1 ([d.R] : List Int)).bind fun e =>
 some (.inl (e, (w64 (a.2 + 1))))
 else
 some (.inr (a.1))) (([] : List Int), 0)).bind fun c =>
 some c
theorem c_linotyperef04_Runes (O0 : Own c0 G F) (t : List Int) {r : List Int} (h2 : Sl (RI .u8) c0 v1 t) (H : f_linotyperef04_Runes t = some r) :
    Calls prog 15 #[v1] c0.w (Post c0 fun c v => ∃ u y2, Own c G (es true (RI .i32) u 21 y2 r :: F) ∧ v = u ∧ OA (RI .i32) c u y2 r) := by
 unfold f_linotyperef04_Runes at H
 refine en func15 rfl rfl (sr (va (Y) (wln (sr (va (Y) (wln (sr (va (v1) (bn H fun n h3 H => cl (c_linotyperef04_All O0 t h2 h3) ?_)))))))))
 rintro v4 d d1 ⟨_, u5, O8, rfl, o⟩
 refine va (v4) (wln (W.seq (sr (va (I 0) (wln (W.block (bn H fun w0 q p => lp q (fun a => Jn d fun c l => ∃ v15 g, Own c G (es true (RI .i32) v15 21 g a.1 :: es true R_linotyperef04_Got v4 57 u5 n :: F) ∧ l = [(3, v15), (4, v4), (5, I a.2)] ∧ OA (RI .i32) c v15 g a.1) (fun f ex e w => ex = .exit 0 ∧ (Jn d fun c l => ∃ v17 h, Own c G (es true (RI .i32) v17 21 h f :: es true R_linotyperef04_Got v4 57 u5 n :: F) ∧ l = [(3, v17)] ∧ OA (RI .i32) c v17 h f) e w) ?_ ?_ ?_)))))))
 ·clear p q
  intro a j1 T l0 H
  revert T l0
  rintro e_ w_ ⟨N, b1, _, rfl, h0, rfl, v15, g, i, rfl, s⟩
  refine W.seq (sr (va (I a.2) (va (v4) (vx (lnO 3 underlying54 o.m) (va (B (decide (a.2 < (n.length : Int)))) (wln (cn H (fun U H => ?_) (fun U H => ?_))))))))
  ·refine W.skip (nrm (W.seq (W.block (W.region (va (v15) (va (v4) (va (I a.2) (bn H fun b k H => vx (ixO underlying54 o.m k) (va (.pointer (some ⟨sb v4, a.2.toNat * 5, none⟩)) ?_)))))))))
   obtain ⟨v0, X, i0⟩ := OA.at (o.mono h0) k
   obtain rfl := X
   refine vr (J b.R) (rx (by kernel_rfl) (ldE1 underlying21 rfl (i.on 1 rfl) (o.m.blk k) (at1 (j := 0) i0 rfl))) (me (sl (RI .i32) 21 [[J b.R]] ([b.R] : List Int) i ⟨rfl, trivial⟩) ?_)
   rintro v35 z0 e1 ⟨i1, x, Z⟩
   obtain ⟨a1, b0, f1, y, a0⟩ := x.frz 0 rfl Z
   refine WL.gh b0 (bn H fun y0 d0 H => me (ap (RI .i32) (J 0) 4 32 1 y s.m a0 d0 underlying32) ?_)
   rintro v45 P g1 ⟨j0, z, e0⟩
   refine va (v45) (WL.nil (bkn (nrm (W.region (va (I a.2) (va (I (w64 (a.2 + 1))) (va (I (w64 (a.2 + 1))) (WL.nil ?_))))))))
   obtain rfl := si H
   refine ⟨_, rfl, ?_⟩
   have A := z.sD 3 [1, 2]
   exact ⟨P, _, _, rfl, pt, us, v45, j0, A, rfl, e0⟩
  refine W.exit (thx ?_)
  obtain rfl := si H
  exact ⟨_, rfl, rfl, ⟨N, _, _, rfl, pt, us, v15, g, i, rfl, s⟩⟩
 ·have f0 : OA (RI .i32) d (Y) [] [] := OA.nil (Nat.succ_pos _)
  have D := O8.addHole (e := es true (RI .i32) (Y) 21 [] ([] : List Int)) rfl
  exact ⟨d, _, _, rfl, pt, us, (Y), [], D, rfl, f0⟩
 rintro _ e_ w_ ⟨rfl, S, c1, _, rfl, h1, rfl, v17, h, E, rfl, g0⟩
 refine bke (nrm (sr (va (v17) (va (v17) (wln (W.ret ?_))))))
 obtain rfl := si p
 have M := E.sD 2 [0]
 exact r1 ⟨_, S, rfl, rfl, pt, v17, h, M, rfl, g0⟩

end Go.Proofs.Ytfhhpdggmefcoaa
