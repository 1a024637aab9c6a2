/- Parts of the proofs of FeedNone, FeedPlays: the walk through the code, and plain Lean. No condition. -/
import Derived.Test.YthokmpbbkpjhbaaGreatDoorFeA
import Derived.Test.YthokmpbbkpjhbaaGreatDoorProg
namespace Go.Proofs.YthokmpbbkpjhbaaGreatDoor
open Go Go.Lt
set_option maxRecDepth 10000
set_option linter.unusedVariables false
attribute [local irreducible] W WL AC
open Tryz
variable {c0 : Cx} {G : Gm} {F : List En} {sg : Sto} {v1 v2 v3 v4 v5 v6 v7 v8 v9 v10 v11 v12 v13 v14 v15 v16 v17 v18 v19 v20 v21 v22 v23 v24 v25 v26 v27 v28 v29 v30 v31 v32 v33 v34 v35 v36 v37 v38 v39 v40 v41 v42 v43 v44 v45 v46 v47 v48 v49 v50 v51 v52 v53 v54 v55 v56 v57 v58 v59 v60 : Value}
def f_scalar_Valid (p0 : Int) : Option (Bool) :=
 (andE (decide (p0 ≥ 0)) (some (decide (p0 < 55296)))).bind fun b =>
 (orE b ((andE (decide (p0 > 57343)) (some (decide (p0 ≤ 1114111)))).bind fun a =>
 some a)).bind fun c =>
 some c
theorem c_scalar_Valid (e : Own c0 G F) (a : Int) {r : Bool} (H : f_scalar_Valid a = some r) :
    Calls prog 108 #[J a] c0.w (Post c0 fun c v => Own c G (F) ∧ v = B r) := by
 unfold f_scalar_Valid at H
 refine en func108 rfl rfl (sr (va (B false) (wln (W.seq (bn H fun z t H => bn H fun s n H => W.join (Jn c0 fun c l => Own c G (F) ∧ l = [(2, B s)]) ?_ ?_)))))
 ·clear H
  refine W.region (va (J a) (va (B (decide (a ≥ 0))) ?_))
  rcases bo (decide (a ≥ 0)) with f | f
  ·have x := anT f t
   refine vb f (wn (va (J a) (wn (va (B (decide (a < 55296))) ?_))))
   obtain rfl := si x
   refine va (B (decide (a < 55296))) ?_
   rcases bo (decide (a < 55296)) with g | g
   ·obtain rfl := orT g n
    exact vb g (ps (ps (ps (ps (ps (ps (va (B true) (va (B true) (wln ⟨c0, _, _, rfl, pt, us, e, rfl⟩)))))))))
   have i := orF g n
   refine vb g (wn (va (J a) (wn (va (B (decide (a > 57343))) (wn (bn i fun m u i => ?_))))))
   rcases bo (decide (a > 57343)) with h | h
   ·have y := anT h u
    refine vb h (wn (va (J a) (wn (va (B (decide (a ≤ 1114111))) (wn ?_)))))
    obtain rfl := si y
    refine va (B (decide (a ≤ 1114111))) ?_
    obtain rfl := si i
    exact va (B (decide (a ≤ 1114111))) (va (B (decide (a ≤ 1114111))) (wln ⟨c0, _, _, rfl, pt, us, e, rfl⟩))
   obtain rfl := anF h u
   refine vb h (ps (ps (wn (va (B false) ?_))))
   obtain rfl := si i
   exact va (B false) (va (B false) (wln ⟨c0, _, _, rfl, pt, us, e, rfl⟩))
  obtain rfl := anF f t
  refine vb f (ps (ps (va (B false) ?_)))
  have j : false = false := rfl
  have d := orF j n
  refine vb j (wn (va (J a) (wn (va (B (decide (a > 57343))) (wn (bn d fun m k d => ?_))))))
  rcases bo (decide (a > 57343)) with b | b
  ·have o := anT b k
   refine vb b (wn (va (J a) (wn (va (B (decide (a ≤ 1114111))) (wn ?_)))))
   obtain rfl := si o
   refine va (B (decide (a ≤ 1114111))) ?_
   obtain rfl := si d
   exact va (B (decide (a ≤ 1114111))) (va (B (decide (a ≤ 1114111))) (wln ⟨c0, _, _, rfl, pt, us, e, rfl⟩))
  obtain rfl := anF b k
  refine vb b (ps (ps (wn (va (B false) ?_))))
  obtain rfl := si d
  exact va (B false) (va (B false) (wln ⟨c0, _, _, rfl, pt, us, e, rfl⟩))
 rintro E M ⟨q, A, _, rfl, D, rfl, p, rfl⟩
 refine nrm (W.ret ?_)
 obtain rfl := si H
 exact r1 ⟨_, q, rfl, rfl, pt, p, rfl⟩
def f_linotyperef01_Valid (p0 : Int) : Option (Bool) :=
 (andE (decide (p0 ≥ 0)) (some (decide (p0 ≤ 1114111)))).bind fun b =>
 (andE b ((orE (decide (p0 < 55296)) (some (decide (p0 > 57343)))).bind fun a =>
 some a)).bind fun c =>
 some c
theorem c_linotyperef01_Valid (g : Own c0 G F) (a : Int) {r : Bool} (H : f_linotyperef01_Valid a = some r) :
    Calls prog 86 #[J a] c0.w (Post c0 fun c v => Own c G (F) ∧ v = B r) := by
 unfold f_linotyperef01_Valid at H
 refine en func86 rfl rfl (sr (va (B false) (wln (W.seq (bn H fun t n H => bn H fun m i H => W.join (Jn c0 fun c l => Own c G (F) ∧ l = [(2, B m)]) ?_ ?_)))))
 ·clear H
  refine W.region (va (J a) (va (B (decide (a ≥ 0))) ?_))
  rcases bo (decide (a ≥ 0)) with b | b
  ·have p := anT b n
   refine vb b (wn (va (J a) (wn (va (B (decide (a ≤ 1114111))) ?_))))
   obtain rfl := si p
   refine va (B (decide (a ≤ 1114111))) ?_
   rcases bo (decide (a ≤ 1114111)) with d | d
   ·have f := anT d i
    refine vb d (wn (va (J a) (wn (va (B (decide (a < 55296))) (wn (bn f fun s o f => ?_))))))
    rcases bo (decide (a < 55296)) with e | e
    ·obtain rfl := orT e o
     refine vb e (ps (ps (wn (va (B true) ?_))))
     obtain rfl := si f
     exact va (B true) (va (B true) (wln ⟨c0, _, _, rfl, pt, us, g, rfl⟩))
    have q := orF e o
    refine vb e (wn (va (J a) (wn (va (B (decide (a > 57343))) (wn ?_)))))
    obtain rfl := si q
    refine va (B (decide (a > 57343))) ?_
    obtain rfl := si f
    exact va (B (decide (a > 57343))) (va (B (decide (a > 57343))) (wln ⟨c0, _, _, rfl, pt, us, g, rfl⟩))
   obtain rfl := anF d i
   exact vb d (ps (ps (ps (ps (ps (ps (va (B false) (va (B false) (wln ⟨c0, _, _, rfl, pt, us, g, rfl⟩)))))))))
  obtain rfl := anF b n
  refine vb b (ps (ps (va (B false) ?_)))
  have h : false = false := rfl
  obtain rfl := anF h i
  exact vb h (ps (ps (ps (ps (ps (ps (va (B false) (va (B false) (wln ⟨c0, _, _, rfl, pt, us, g, rfl⟩)))))))))
 rintro y z ⟨k, u, _, rfl, x, rfl, j, rfl⟩
 refine nrm (W.ret ?_)
 obtain rfl := si H
 exact r1 ⟨_, k, rfl, rfl, pt, j, rfl⟩
def f_linotyperef01_Same (p0 : List Int) (p1 : List Int) : Option (Bool) :=
 if ((p0.length : Int) != (p1.length : Int)) = true then
 some false
 else
 (iter (σ := Int) (τ := Bool ⊕ Unit) (((p0.length : Int) - 0).toNat + 1) (fun b =>
 if (decide (b < (p0.length : Int))) = true then
 (idx p0 b).bind fun c =>
 (idx p1 b).bind fun d =>
 if (c != d) = true then
 some (.inr (.inl false))
 else
 some (.inl ((w64 (b + 1))))
 else
 some (.inr (.inr ()))) (0)).bind fun a =>
 match a with
 | .inl a =>
 some a
 | .inr a =>
 some true
theorem c_linotyperef01_Same (A : Own c0 G F) (h : List Int) (u : List Int) {r : Bool} (g : Sl (RI .i32) c0 v1 h) (s : Sl (RI .i32) c0 v3 u) (H : f_linotyperef01_Same h u = some r) :
    Calls prog 23 #[v1, v3] c0.w (Post c0 fun c v => Own c G (F) ∧ v = B r) := by
 unfold f_linotyperef01_Same at H
 refine en func23 rfl rfl (sr (va (B false) (wln (W.seq (sr (va (v1) (vx (ln 3 underlying27 g) (va (v3) (vx (ln 3 underlying27 s) (va (B ((h.length : Int) != (u.length : Int))) (wln (cn H (fun h5 H => ?_) (fun h5 H => ?_)))))))))))))
 ·refine sr (va (B false) (wln (W.ret (thr ?_))))
  obtain rfl := si H
  exact r1 ⟨_, c0, rfl, rfl, pt, A, rfl⟩
 refine W.skip (nrm (W.seq (sr (va (I 0) (wln (W.block (bn H fun b h6 p => lp h6 (fun a => Jn c0 fun c l => Own c G (F) ∧ l = [(0, v1), (1, v3), (5, I a)]) (fun t => match t with | .inl x => (fun f0 ex e w => ex = .ret ∧ (Jn c0 fun c l => Own c G (F) ∧ l = [(4, B f0)]) e w) x | .inr x => (fun i0 ex e w => ex = .exit 0 ∧ (Jn c0 fun c l => Own c G (F) ∧ l = []) e w) x) ?_ ?_ ?_)))))))
 ·clear p h6
  intro a v0 R h0 H
  revert R h0
  rintro P w_ ⟨c8, g9, _, rfl, l8, rfl, i, rfl⟩
  refine W.seq (sr (va (I a) (va (v1) (vx (ln 3 underlying27 g.m) (va (B (decide (a < (h.length : Int)))) (wln (cn H (fun T H => ?_) (fun T H => ?_))))))))
  ·refine W.skip (nrm (W.seq (W.block (W.seq (rD [] (Kp G0 []) i ?_)))))
   intro d o j
   have u0 : Kp G0 [] d := Kp.nil0
   refine ta 0 (v1) (ta 1 (I a) (bn H fun y k H => ?_))
   obtain ⟨l0, U, d0⟩ := Sl.at (g.mono (l8.trans o)) (idx_get k)
   obtain rfl := U
   refine tx 2 (fun q f => ix underlying27 g.m k) (tx 3 (fun q f => l1 underlying21 ((mm d0) 0 _ rfl)) (ta 4 (v3) (ta 5 (I a) (bn H fun z n H => ?_))))
   obtain ⟨m0, X, e0⟩ := Sl.at (s.mono (l8.trans o)) (idx_get n)
   obtain rfl := X
   refine tx 6 (fun q f => ix underlying27 s.m n) (tx 7 (fun q f => l1 underlying21 ((mm e0) 0 _ rfl)) (ta 8 (B (y != z)) (dn (nrm (cn H (fun Z H => ?_) (fun Z H => ?_))))))
   ·refine sr (va (B false) (wln (W.ret (bkr (thr ?_)))))
    obtain rfl := si H
    exact ⟨_, rfl, ⟨rfl, ⟨d, _, _, rfl, pt, us, j, rfl⟩⟩⟩
   refine W.skip (bkn (nrm (W.region (va (I a) (va (I (w64 (a + 1))) (va (I (w64 (a + 1))) (WL.nil ?_)))))))
   obtain rfl := si H
   exact ⟨_, rfl, ⟨d, _, _, rfl, pt, us, j, rfl⟩⟩
  refine W.exit (thx ?_)
  obtain rfl := si H
  exact ⟨_, rfl, rfl, ⟨c8, _, _, rfl, pt, us, i, rfl⟩⟩
 ·exact ⟨c0, _, _, rfl, pt, us, A, rfl⟩
 rcases b with b | b
 ·intro S; revert S
  rintro _ P w_ ⟨rfl, M, o0, _, rfl, s0, rfl, D, rfl⟩
  refine bkr (thr ?_)
  obtain rfl := si p
  exact r1 ⟨_, M, rfl, rfl, pt, D, rfl⟩
 rintro _ P w_ ⟨rfl, N, q0, _, rfl, t0, rfl, E, rfl⟩
 refine bke (nrm (sr (va (B true) (wln (W.ret ?_)))))
 obtain rfl := si p
 exact r1 ⟨_, N, rfl, rfl, pt, E, rfl⟩
def f_linotyperef23_Right (p0 : G_api_Cell) : Option (Bool) :=
 (orE (p0.Kind == 0) (some (p0.Kind == 3))).bind fun h =>
 if h = true then
 some ((p0.Text.length : Int) == 0)
 else
 (andE (p0.Kind != 1) (some (p0.Kind != 2))).bind fun c =>
 (orE c (some (decide ((p0.Text.length : Int) < 1)))).bind fun d =>
 (orE d (some (decide ((p0.Text.length : Int) > 16)))).bind fun e =>
 if e = true then
 some false
 else
 (iter (σ := Int) (τ := Bool ⊕ Unit) (((p0.Text.length : Int) - 0).toNat + 1) (fun b =>
 if (decide (b < (p0.Text.length : Int))) = true then
 (idx p0.Text b).bind fun f =>
 (f_linotyperef01_Valid f).bind fun g =>
 if (!g) = true then
 some (.inr (.inl false))
 else
 some (.inl ((w64 (b + 1))))
 else
 some (.inr (.inr ()))) (0)).bind fun a =>
 match a with
 | .inl a =>
 some a
 | .inr a =>
 some true
def f_linotyperef23_Kind (p0 : List G_api_Cell) (p1 : Int) : Option (Int) :=
 (orE (decide (p1 < 0)) (some (decide (p1 ≥ (p0.length : Int))))).bind fun b =>
 if b = true then
 some 0
 else
 (idx p0 p1).bind fun a =>
 some a.Kind
def f_linotyperef23_Sound (p0 : List G_api_Cell) : Option (Bool) :=
 (iter (σ := Int) (τ := Bool ⊕ Unit) (((p0.length : Int) - 0).toNat + 1) (fun a =>
 if (decide (a < (p0.length : Int))) = true then
 (idx p0 a).bind fun g =>
 (f_linotyperef23_Right g).bind fun h =>
 (orE (!h) ((idx p0 a).bind fun i =>
 (andE (i.Kind == 2) ((f_linotyperef23_Kind p0 (w64 (a + 1))).bind fun j =>
 some (j != 3))).bind fun d =>
 some d)).bind fun c =>
 (orE c ((idx p0 a).bind fun k =>
 (andE (k.Kind == 3) ((f_linotyperef23_Kind p0 (w64 (a - 1))).bind fun l =>
 some (l != 2))).bind fun f =>
 some f)).bind fun e =>
 if e = true then
 some (.inr (.inl false))
 else
 some (.inl ((w64 (a + 1))))
 else
 some (.inr (.inr ()))) (0)).bind fun b =>
 match b with
 | .inl b =>
 some b
 | .inr b =>
 some true
def f_linotyperef23_Of (p0 : Int) (p1 : List Int) : Option (List G_api_Cell) :=
 (iter (σ := (List Int) × Int) (τ := (List Int)) (((p1.length : Int) - 0).toNat + 1) (fun a =>
 (andE (decide (a.2 < (p1.length : Int))) (some (decide (a.2 < 16)))).bind fun c =>
 if c = true then
 ((idx p1 a.2).bind fun e =>
 (f_linotyperef01_Valid e).bind fun f =>
 if f = true then
 (idx p1 a.2).bind fun g =>
 (app a.1 ([g] : List Int)).bind fun h =>
 some (h)
 else
 (app a.1 ([65533] : List Int)).bind fun i =>
 some (i)).bind fun j =>
 some (.inl (j, (w64 (a.2 + 1))))
 else
 some (.inr (a.1))) (([] : List Int), 0)).bind fun b =>
 (andE ((b.length : Int) == 0) (some (decide (p0 > 1)))).bind fun d =>
 if d = true then
 some ([(⟨0, ([] : List Int)⟩ : G_api_Cell), (⟨0, ([] : List Int)⟩ : G_api_Cell)] : List G_api_Cell)
 else
 if ((b.length : Int) == 0) = true then
 some ([(⟨0, ([] : List Int)⟩ : G_api_Cell)] : List G_api_Cell)
 else
 if (decide (p0 > 1)) = true then
 some ([(⟨2, b⟩ : G_api_Cell), (⟨3, ([] : List Int)⟩ : G_api_Cell)] : List G_api_Cell)
 else
 some ([(⟨1, b⟩ : G_api_Cell)] : List G_api_Cell)
theorem c_linotyperef23_Of (O0 : Own c0 G F) (f : Int) (X : List Int) {r : List G_api_Cell} (A : Sl (RI .i32) c0 v1 X) (H : f_linotyperef23_Of f X = some r) :
    Calls prog 159 #[I f, v1] c0.w (Post c0 fun c v => ∃ y1 y2, Own c G (es true R_api_Cell y1 101 y2 r :: F) ∧ v = y1 ∧ OA R_api_Cell c y1 y2 r) := by
 unfold f_linotyperef23_Of at H
 refine en func159 rfl rfl (sr (va (Y) (wln (sr (va (Y) (wln (W.seq (sr (va (I 0) (wln (W.block (bn H fun h h3 d => lp h3 (fun a => Jn c0 fun c l => ∃ v5 E, Own c G (es true (RI .i32) v5 21 E a.1 :: F) ∧ l = [(0, I f), (1, v1), (5, v5), (6, I a.2)] ∧ OA (RI .i32) c v5 E a.1) (fun D ex e w => ex = .exit 0 ∧ (Jn c0 fun c l => ∃ v7 Z, Own c G (es true (RI .i32) v7 21 Z D :: F) ∧ l = [(0, I f), (5, v7)] ∧ OA (RI .i32) c v7 Z D) e w) ?_ ?_ ?_))))))))))))
 ·clear d h3
  intro a k5 w2 y3 H
  revert w2 y3
  rintro U w_ ⟨c9, u4, _, rfl, l9, rfl, v5, E, b0, rfl, z⟩
  refine W.seq (W.seq (bn H fun f1 h0 H => W.join (Jn c9 fun c l => Own c G (es true (RI .i32) v5 21 E a.1 :: F) ∧ l = [(0, I f), (1, v1), (5, v5), (6, I a.2), (15, B f1)]) ?_ ?_))
  ·clear H
   refine W.region (va (I a.2) (va (v1) (vx (ln 3 underlying27 A.m) (va (B (decide (a.2 < (X.length : Int)))) ?_))))
   rcases bo (decide (a.2 < (X.length : Int))) with i | i
   ·have e2 := anT i h0
    refine vb i (wn (va (I a.2) (wn (va (B (decide (a.2 < 16))) ?_))))
    obtain rfl := si e2
    exact va (B (decide (a.2 < 16))) (wln ⟨c9, _, _, rfl, pt, us, b0, rfl⟩)
   obtain rfl := anF i h0
   exact vb i (ps (ps (va (B false) (wln ⟨c9, _, _, rfl, pt, us, b0, rfl⟩))))
  rintro U w_ ⟨g0, v4, _, rfl, l0, rfl, d0, rfl⟩
  refine nrm (cn H (fun x2 H => ?_) (fun x2 H => ?_))
  ·refine W.skip (nrm (bn H fun T b f2 => W.seqJ (Jn g0 fun c l => ∃ v28 x, Own c G (es true (RI .i32) v28 21 x T :: F) ∧ l = [(0, I f), (1, v1), (5, v28), (6, I a.2)] ∧ OA (RI .i32) c v28 x T) ?_ ?_))
   ·refine W.block (sr (va (v1) (va (I a.2) (bn b fun c2 i0 b => ?_))))
    obtain ⟨j4, a3, u3⟩ := Sl.at (A.mono (l9.trans l0)) (idx_get i0)
    obtain rfl := a3
    refine vx (ix underlying27 A.m i0) (vx (l1 underlying21 (u3 0 _ rfl)) (bn b fun l4 b3 b => cl (c_linotyperef01_Valid d0 c2 b3) ?_))
    rintro v40 o4 s3 ⟨e0, rfl⟩
    refine wln (cn b (fun c3 b => ?_) (fun c3 b => ?_))
    ·refine W.region (va (v5) (va (v1) (va (I a.2) (bn b fun S j0 b => ?_))))
     obtain ⟨k4, d3, v3⟩ := Sl.at (A.mono (l9.trans (l0.trans s3))) (idx_get j0)
     obtain rfl := d3
     refine vx (ix underlying27 A.m j0) (vx (l1 underlying21 (v3 0 _ rfl)) (me (sl (RI .i32) 21 [[J S]] ([S] : List Int) e0 ⟨rfl, trivial⟩) ?_))
     rintro v50 p4 z4 ⟨h5, i2, e3⟩
     obtain ⟨q4, g3, a5, j2, f3⟩ := i2.frz 0 rfl e3
     refine WL.gh g3 (bn b fun m4 i3 b => me (ap (RI .i32) (J 0) 4 27 1 j2 z.m f3 i3 underlying27) ?_)
     rintro v60 t2 b5 ⟨w3, k2, j3⟩
     refine va (v60) (WL.nil (bkn (nrm ?_)))
     obtain rfl := si b
     have l2 := k2.sD 2 [1]
     exact ⟨t2, _, _, rfl, pt, us, v60, w3, l2, rfl, j3⟩
    refine W.region (va (v5) (me (sl (RI .i32) 21 [[J 65533]] ([65533] : List Int) e0 ⟨rfl, trivial⟩) ?_))
    rintro j5 r4 c5 ⟨i5, m2, k3⟩
    obtain ⟨s4, m3, d5, n2, l3⟩ := m2.frz 0 rfl k3
    refine WL.gh m3 (bn b fun n4 n3 b => me (ap (RI .i32) (J 0) 4 27 1 n2 z.m l3 n3 underlying27) ?_)
    rintro m0 u2 e5 ⟨x3, o2, o3⟩
    refine va (m0) (WL.nil (bkn (nrm ?_)))
    obtain rfl := si b
    have p2 := o2.sD 2 [1]
    exact ⟨u2, _, _, rfl, pt, us, m0, x3, p2, rfl, o3⟩
   rintro U w_ ⟨v2, w4, _, rfl, f5, rfl, v28, x, q2, rfl, p3⟩
   refine W.region (va (I a.2) (va (I (w64 (a.2 + 1))) (va (I (w64 (a.2 + 1))) (WL.nil ?_))))
   obtain rfl := si f2
   exact ⟨_, rfl, ⟨v2, _, _, rfl, pt, us, v28, x, q2, rfl, p3⟩⟩
  refine W.exit (thx ?_)
  obtain rfl := si H
  exact ⟨_, rfl, rfl, ⟨g0, _, _, rfl, pt, us, v5, E, d0, rfl, z.m⟩⟩
 ·have q3 : OA (RI .i32) c0 (Y) [] [] := OA.nil (Nat.succ_pos _)
  have s2 := O0.addHole (e := es true (RI .i32) (Y) 21 [] ([] : List Int)) rfl
  exact ⟨c0, _, _, rfl, pt, us, (Y), [], s2, rfl, q3⟩
 rintro _ U w_ ⟨rfl, y, x4, _, rfl, g5, rfl, v7, Z, f0, rfl, g⟩
 refine bke (nrm (sr (va (I f) (va (B (decide (f > 1))) (va (B (decide (f > 1))) (wln (W.seq (W.seq (bn d fun g1 k0 d => W.join (Jn y fun c l => Own c G (es true (RI .i32) v7 21 Z h :: F) ∧ l = [(5, v7), (7, B (decide (f > 1))), (40, B g1)]) ?_ ?_)))))))))
 ·clear d
  refine W.region (va (v7) (vx (lnO 3 underlying27 g) (va (B ((h.length : Int) == 0)) ?_)))
  rcases bo ((h.length : Int) == 0) with j | j
  ·have g2 := anT j k0
   refine vb j (wn (va (B (decide (f > 1))) ?_))
   obtain rfl := si g2
   exact va (B (decide (f > 1))) (wln ⟨y, _, _, rfl, pt, us, f0, rfl⟩)
  obtain rfl := anF j k0
  exact vb j (ps (va (B false) (wln ⟨y, _, _, rfl, pt, us, f0, rfl⟩)))
 rintro U w_ ⟨t4, y4, _, rfl, u, rfl, t, rfl⟩
 refine nrm (cn d (fun h1 d => ?_) (fun h1 d => ?_))
 ·refine sr (va (.agg #[I 0, Y]) (va (.agg #[I 0, Y]) (me (sl R_api_Cell 101 [[I 0, Y], [I 0, Y]] ([(⟨0, ([] : List Int)⟩ : G_api_Cell), (⟨0, ([] : List Int)⟩ : G_api_Cell)] : List G_api_Cell) t ⟨⟨(Y), rfl, (Sl.nl _ _)⟩, ⟨(Y), rfl, (Sl.nl _ _)⟩, trivial⟩) ?_)))
  rintro M a1 d4 ⟨x1, o0, i1⟩
  refine va (M) (wln (W.ret (thr ?_)))
  obtain rfl := si d
  have q0 := o0.sD 2 [0]
  exact r1 ⟨_, a1, rfl, rfl, pt, M, x1, q0, rfl, i1⟩
 refine W.skip (nrm (W.seq (sr (va (v7) (vx (lnO 3 underlying27 g.m) (va (B ((h.length : Int) == 0)) (wln (cn d (fun j1 d => ?_) (fun j1 d => ?_)))))))))
 ·refine sr (va (.agg #[I 0, Y]) (me (sl R_api_Cell 101 [[I 0, Y]] ([(⟨0, ([] : List Int)⟩ : G_api_Cell)] : List G_api_Cell) t ⟨⟨(Y), rfl, (Sl.nl _ _)⟩, trivial⟩) ?_))
  rintro N b1 e4 ⟨z1, s0, k1⟩
  refine va (N) (wln (W.ret (thr ?_)))
  obtain rfl := si d
  have t0 := s0.sD 2 [0]
  exact r1 ⟨_, b1, rfl, rfl, pt, N, z1, t0, rfl, k1⟩
 refine W.skip (nrm (W.seq (sr (va (B (decide (f > 1))) (wln (cn d (fun m1 d => ?_) (fun m1 d => ?_)))))))
 ·refine sr (va (v7) ?_)
  obtain ⟨k, n, o, rfl⟩ := ((g.mono u)).form
  refine va (.agg #[I 2, .slice k n o]) (va (.agg #[I 3, Y]) ?_)
  obtain ⟨b4, q1, f4, u0, n1⟩ := t.frz 0 rfl (g.mono u)
  refine WL.gh q1 (me (sl R_api_Cell 101 [[I 2, .slice k n o], [I 3, Y]] ([(⟨2, h⟩ : G_api_Cell), (⟨3, ([] : List Int)⟩ : G_api_Cell)] : List G_api_Cell) u0 ⟨⟨(.slice k n o), rfl, n1⟩, ⟨(Y), rfl, (Sl.nl _ _)⟩, trivial⟩) ?_)
  rintro P c1 g4 ⟨a2, v0, s1⟩
  refine va (P) (wln (W.ret (thr ?_)))
  obtain rfl := si d
  have w0 := v0.sD 2 [0]
  exact r1 ⟨_, c1, rfl, rfl, pt, P, a2, w0, rfl, s1⟩
 refine W.skip (nrm (sr (va (v7) ?_)))
 obtain ⟨p, q, s, rfl⟩ := ((g.mono u)).form
 refine va (.agg #[I 1, .slice p q s]) ?_
 obtain ⟨c4, u1, h4, x0, t1⟩ := t.frz 0 rfl (g.mono u)
 refine WL.gh u1 (me (sl R_api_Cell 101 [[I 1, .slice p q s]] ([(⟨1, h⟩ : G_api_Cell)] : List G_api_Cell) x0 ⟨⟨(.slice p q s), rfl, t1⟩, trivial⟩) ?_)
 rintro R d1 i4 ⟨b2, y0, w1⟩
 refine va (R) (wln (W.ret ?_))
 obtain rfl := si d
 have z0 := y0.sD 2 [0]
 exact r1 ⟨_, d1, rfl, rfl, pt, R, b2, z0, rfl, w1⟩
def f_linotyperef23_Same (p0 : List G_api_Cell) (p1 : List G_api_Cell) : Option (Bool) :=
 if ((p0.length : Int) != (p1.length : Int)) = true then
 some false
 else
 (iter (σ := Int) (τ := Bool ⊕ Unit) (((p0.length : Int) - 0).toNat + 1) (fun a =>
 if (decide (a < (p0.length : Int))) = true then
 (idx p0 a).bind fun d =>
 (idx p1 a).bind fun e =>
 (orE (d.Kind != e.Kind) ((idx p0 a).bind fun f =>
 (idx p1 a).bind fun g =>
 (f_linotyperef01_Same f.Text g.Text).bind fun h =>
 some (!h))).bind fun c =>
 if c = true then
 some (.inr (.inl false))
 else
 some (.inl ((w64 (a + 1))))
 else
 some (.inr (.inr ()))) (0)).bind fun b =>
 match b with
 | .inl b =>
 some b
 | .inr b =>
 some true
theorem c_linotyperef23_Same (O0 : Own c0 G F) (s : List G_api_Cell) (X : List G_api_Cell) {r : Bool} (j : Sl R_api_Cell c0 v1 s) (k : Sl R_api_Cell c0 v3 X) (H : f_linotyperef23_Same s X = some r) :
    Calls prog 161 #[v1, v3] c0.w (Post c0 fun c v => Own c G (F) ∧ v = B r) := by
 unfold f_linotyperef23_Same at H
 refine en func161 rfl rfl (sr (va (B false) (wln (W.seq (sr (va (v1) (vx (ln 3 underlying69 j) (va (v3) (vx (ln 3 underlying69 k) (va (B ((s.length : Int) != (X.length : Int))) (wln (cn H (fun h5 H => ?_) (fun h5 H => ?_)))))))))))))
 ·refine sr (va (B false) (wln (W.ret (thr ?_))))
  obtain rfl := si H
  exact r1 ⟨_, c0, rfl, rfl, pt, O0, rfl⟩
 refine W.skip (nrm (W.seq (sr (va (I 0) (wln (W.block (bn H fun h h6 S => lp h6 (fun a => Jn c0 fun c l => Own c G (F) ∧ l = [(0, v1), (1, v3), (5, I a)]) (fun t => match t with | .inl x_ => (fun f1 ex e w => ex = .ret ∧ (Jn c0 fun c l => Own c G (F) ∧ l = [(4, B f1)]) e w) x_ | .inr x_ => (fun h1 ex e w => ex = .exit 0 ∧ (Jn c0 fun c l => Own c G (F) ∧ l = []) e w) x_) ?_ ?_ ?_)))))))
 ·clear S h6
  intro a c2 l0 g1 H
  revert l0 g1
  rintro U Z ⟨c8, g9, _, rfl, q, rfl, u, rfl⟩
  refine W.seq (sr (va (I a) (va (v1) (vx (ln 3 underlying69 j.m) (va (B (decide (a < (s.length : Int)))) (wln (cn H (fun o0 H => ?_) (fun o0 H => ?_))))))))
  ·refine W.skip (nrm (W.seq (W.block (W.seq (bn H fun n E H => bn H fun o M H => bn H fun T N H => W.join (Jn c8 fun c l => Own c G (F) ∧ l = [(0, v1), (1, v3), (5, I a), (41, B T)]) ?_ ?_)))))
   ·clear H
    refine rD [] (Kp G0 []) u ?_
    intro z i x
    have b2 : Kp G0 [] z := Kp.nil0
    refine ta 0 (v1) (ta 1 (I a) ?_)
    obtain ⟨j1, q0, a1⟩ := Sl.at (j.mono (q.trans i)) (idx_get E)
    obtain ⟨v24, rfl, u1⟩ := q0
    refine tx 2 (fun f b => ix underlying69 j.m E) (ta 3 (.pointer (some ⟨sb v1, so v1 + a.toNat * 2, none⟩)) (tx 4 (fun f b => l1 underlying3 ((mm a1) 0 _ rfl)) (ta 5 (v3) (ta 6 (I a) ?_))))
    obtain ⟨k1, s0, b1⟩ := Sl.at (k.mono (q.trans i)) (idx_get M)
    obtain ⟨v29, rfl, w1⟩ := s0
    refine tx 7 (fun f b => ix underlying69 k.m M) (ta 8 (.pointer (some ⟨sb v3, so v3 + a.toNat * 2, none⟩)) (tx 9 (fun f b => l1 underlying3 ((mm b1) 0 _ rfl)) (ta 10 (B (n.Kind != o.Kind)) ?_)))
    rcases bo (n.Kind != o.Kind) with g | g
    ·obtain rfl := orT g N
     exact AC.takeb 11 g rfl (by kernel_rfl) (by kernel_rfl) (fun f b => (by kernel_rfl)) (tp 12 (tp 13 (tp 14 (tp 15 (tp 16 (tp 17 (tp 18 (tp 19 (tp 20 (tp 21 (tp 22 (tp 23 (ta 24 (B true) (dn (nrm ⟨z, _, _, rfl, pt, us, x, rfl⟩)))))))))))))))
    have d := orF g N
    refine bn d fun b0 P d => bn d fun d0 R d => bn d fun p t0 d => AC.takeb 11 g rfl (by kernel_rfl) (by kernel_rfl) (fun f b => (by kernel_rfl)) (ta 12 (v1) (ta 13 (I a) ?_))
    obtain ⟨m1, u0, c1⟩ := Sl.at (j.mono (q.trans i)) (idx_get P)
    obtain ⟨v39, rfl, v0⟩ := u0
    refine tx 14 (fun f b => ix underlying69 j.m P) (ta 15 (.pointer (some ⟨sb v1, so v1 + a.toNat * 2 + 1, none⟩)) (tx 16 (fun f b => l1 underlying27 ((mm c1) 1 _ rfl)) (ta 17 (v3) (ta 18 (I a) ?_))))
    obtain ⟨n1, w0, d1⟩ := Sl.at (k.mono (q.trans i)) (idx_get R)
    obtain ⟨v44, rfl, x0⟩ := w0
    refine tx 19 (fun f b => ix underlying69 k.m R) (ta 20 (.pointer (some ⟨sb v3, so v3 + a.toNat * 2 + 1, none⟩)) (tx 21 (fun f b => l1 underlying27 ((mm d1) 1 _ rfl)) (o1 22 (gc 22 (c_linotyperef01_Same x b0.Text d0.Text v0 x0 t0) ?_))))
    rintro v51 A x1 ⟨f0, rfl⟩
    have e1 : Kp G0 [] A := Kp.nil0
    refine ⟨.inr e1, ta 23 (B (!p)) ?_⟩
    obtain rfl := si d
    exact ta 24 (B (!p)) (dn (nrm ⟨A, _, _, rfl, pt, us, f0, rfl⟩))
   rintro U Z ⟨D, q1, _, rfl, y1, rfl, y, rfl⟩
   refine nrm (cn H (fun y0 H => ?_) (fun y0 H => ?_))
   ·refine sr (va (B false) (wln (W.ret (bkr (thr ?_)))))
    obtain rfl := si H
    exact ⟨_, rfl, ⟨rfl, ⟨D, _, _, rfl, pt, us, y, rfl⟩⟩⟩
   refine W.skip (bkn (nrm (W.region (va (I a) (va (I (w64 (a + 1))) (va (I (w64 (a + 1))) (WL.nil ?_)))))))
   obtain rfl := si H
   exact ⟨_, rfl, ⟨D, _, _, rfl, pt, us, y, rfl⟩⟩
  refine W.exit (thx ?_)
  obtain rfl := si H
  exact ⟨_, rfl, rfl, ⟨c8, _, _, rfl, pt, us, u, rfl⟩⟩
 ·exact ⟨c0, _, _, rfl, pt, us, O0, rfl⟩
 rcases h with h | h
 ·intro m0; revert m0
  rintro _ U Z ⟨rfl, i0, s1, _, rfl, z1, rfl, g0, rfl⟩
  refine bkr (thr ?_)
  obtain rfl := si S
  exact r1 ⟨_, i0, rfl, rfl, pt, g0, rfl⟩
 rintro _ U Z ⟨rfl, j0, t1, _, rfl, a2, rfl, h0, rfl⟩
 refine bke (nrm (sr (va (B true) (wln (W.ret ?_)))))
 obtain rfl := si S
 exact r1 ⟨_, j0, rfl, rfl, pt, h0, rfl⟩
def f_cell_Right_1 (p0 : Int) : Option (Bool) :=
 (f_scalar_Valid p0).bind fun a =>
 some (!a)
theorem c_cell_Right_1 (d : Own c0 G F) (a : Int) {r : Bool} (H : f_cell_Right_1 a = some r) :
    Calls prog 247 #[J a] c0.w (Post c0 fun c v => Own c G (F) ∧ v = B r) := by
 unfold f_cell_Right_1 at H
 refine en func247 rfl rfl (sr (va (B false) (wln (sr (va (J a) (bn H fun b g H => cl (c_scalar_Valid d a g) ?_))))))
 rintro v7 f h ⟨e, rfl⟩
 refine va (B (!b)) (va (B (!b)) (wln (W.ret ?_)))
 obtain rfl := si H
 exact r1 ⟨_, f, rfl, rfl, pt, e, rfl⟩
def f_slices_IndexFunc_rune_rune__cell_Right_1 (p0 : List Int) : Option (Int) :=
 (iter (σ := Int) (τ := Int ⊕ Unit) (((p0.length : Int) - 0).toNat + 1) (fun b =>
 if (decide (b < (p0.length : Int))) = true then
 (idx p0 b).bind fun c =>
 (f_cell_Right_1 c).bind fun d =>
 if d = true then
 some (.inr (.inl b))
 else
 some (.inl ((w64 (b + 1))))
 else
 some (.inr (.inr ()))) (0)).bind fun a =>
 match a with
 | .inl a =>
 some a
 | .inr a =>
 some (-1)
theorem c_slices_IndexFunc_rune_rune__cell_Right_1 (U : Own c0 G F) (d : List Int) {r : Int} (j : Sl (RI .i32) c0 v1 d) (H : f_slices_IndexFunc_rune_rune__cell_Right_1 d = some r) :
    Calls prog 266 #[v1, .func (.func 247) #[] #[]] c0.w (Post c0 fun c v => Own c G (F) ∧ v = I r) := by
 unfold f_slices_IndexFunc_rune_rune__cell_Right_1 at H
 refine en func266 rfl rfl (sr (va (I 0) (wln (W.seq (sr (va (v1) (vx (ln 3 underlying27 j) (va (I 0) (wln (W.block (bn H fun b N i => lp N (fun a => Jn c0 fun c l => Own c G (F) ∧ l = [(0, v1), (1, .func (.func 247) #[] #[]), (7, I (d.length : Int)), (8, I a)]) (fun t => match t with | .inl k => (fun R ex e w => ex = .ret ∧ (Jn c0 fun c l => Own c G (F) ∧ l = [(4, I R)]) e w) k | .inr k => (fun b0 ex e w => ex = .exit 0 ∧ (Jn c0 fun c l => Own c G (F) ∧ l = []) e w) k) ?_ ?_ ?_)))))))))))
 ·clear i N
  intro a j0 y T H
  revert y T
  rintro x S ⟨X, g6, _, rfl, Z, rfl, q, rfl⟩
  refine sr (va (B (decide (a < (d.length : Int)))) (wln (W.seq (cn H (fun A H => ?_) (fun A H => ?_)))))
  ·refine W.skip (nrm (W.seq (W.block (sr (va (I a) (va (I a) (wln (sr (va (.func (.func 247) #[] #[]) (va (v1) (va (I a) (bn H fun n h H => ?_))))))))))))
   obtain ⟨a0, D, P⟩ := Sl.at (j.mono Z) (idx_get h)
   obtain rfl := D
   refine vx (ix underlying27 j.m h) (vx (l1 underlying21 (P 0 _ rfl)) (bn H fun d0 E H => cl (c_cell_Right_1 q n E) ?_))
   rintro v22 g g0 ⟨f, rfl⟩
   refine wln (cn H (fun M H => ?_) (fun M H => ?_))
   ·refine sr (va (I a) (va (I a) (wln (W.ret (bkr (thr ?_))))))
    obtain rfl := si H
    exact ⟨_, rfl, ⟨rfl, ⟨g, _, _, rfl, pt, us, f, rfl⟩⟩⟩
   refine W.skip (bkn (nrm (W.region (va (I (w64 (a + 1))) (va (I (w64 (a + 1))) (WL.nil ?_))))))
   obtain rfl := si H
   exact ⟨_, rfl, ⟨g, _, _, rfl, pt, us, f, rfl⟩⟩
  refine W.exit (thx ?_)
  obtain rfl := si H
  exact ⟨_, rfl, rfl, ⟨X, _, _, rfl, pt, us, q, rfl⟩⟩
 ·exact ⟨c0, _, _, rfl, pt, us, U, rfl⟩
 rcases b with b | b
 ·intro z; revert z
  rintro _ x S ⟨rfl, s, e0, _, rfl, h0, rfl, o, rfl⟩
  refine bkr (thr ?_)
  obtain rfl := si i
  exact r1 ⟨_, s, rfl, rfl, pt, o, rfl⟩
 rintro _ x S ⟨rfl, u, f0, _, rfl, i0, rfl, p, rfl⟩
 refine bke (nrm (sr (va (I (-1)) (wln (W.ret ?_)))))
 obtain rfl := si i
 exact r1 ⟨_, u, rfl, rfl, pt, p, rfl⟩
def f_slices_ContainsFunc_rune_rune__cell_Right_1 (p0 : List Int) : Option (Bool) :=
 (f_slices_IndexFunc_rune_rune__cell_Right_1 p0).bind fun a =>
 some (decide (a ≥ 0))
theorem c_slices_ContainsFunc_rune_rune__cell_Right_1 (d : Own c0 G F) (b : List Int) {r : Bool} (g : Sl (RI .i32) c0 v1 b) (H : f_slices_ContainsFunc_rune_rune__cell_Right_1 b = some r) :
    Calls prog 246 #[v1, .func (.func 247) #[] #[]] c0.w (Post c0 fun c v => Own c G (F) ∧ v = B r) := by
 unfold f_slices_ContainsFunc_rune_rune__cell_Right_1 at H
 refine en func246 rfl rfl (sr (va (B false) (wln (sr (va (v1) (va (.func (.func 247) #[] #[]) (bn H fun a h H => cl (c_slices_IndexFunc_rune_rune__cell_Right_1 d b g h) ?_)))))))
 rintro v9 f i ⟨e, rfl⟩
 refine va (B (decide (a ≥ 0))) (va (B (decide (a ≥ 0))) (wln (W.ret ?_)))
 obtain rfl := si H
 exact r1 ⟨_, f, rfl, rfl, pt, e, rfl⟩
def f_cell_Right (p0 : G_api_Cell) : Option (Bool) :=
 (if (p0.Kind == 0) = true then
 some (p0.Kind == 0)
 else
 some (p0.Kind == 3)).bind fun e =>
 if e = true then
 some ((p0.Text.length : Int) == 0)
 else
 (if (p0.Kind == 1) = true then
 some (p0.Kind == 1)
 else
 some (p0.Kind == 2)).bind fun d =>
 if d = true then
 (andE (decide ((p0.Text.length : Int) > 0)) (some (decide ((p0.Text.length : Int) ≤ 16)))).bind fun a =>
 (andE a ((f_slices_ContainsFunc_rune_rune__cell_Right_1 p0.Text).bind fun c =>
 some (!c))).bind fun b =>
 some b
 else
 some false
theorem c_cell_Right (O0 : Own c0 G F) (a : G_api_Cell) {r : Bool} (s : Sl (RI .i32) c0 v1 a.Text) (H : f_cell_Right a = some r) :
    Calls prog 202 #[.agg #[I a.Kind, v1]] c0.w (Post c0 fun c v => Own c G (F) ∧ v = B r) := by
 unfold f_cell_Right at H
 refine en func202 rfl rfl (sr ?_)
 obtain ⟨a3, a4, a5, rfl⟩ := (s).form
 refine me (bx 101 [I a.Kind, .slice a3 a4 a5] O0) ?_
 rintro v10 z l9 ⟨i, rfl, P, u⟩
 refine va (B false) (wln (W.seq (sr (va (Q i) (vx (l1 underlying3 (u 0 _ rfl)) (wln (W.block (bn H fun e0 d e => W.seqJ (Jn z fun c l => Own c G (F) ∧ l = [(1, Q i), (4, I a.Kind), (5, B e0)]) ?_ ?_))))))))
 ·refine sr (va (B (a.Kind == 0)) (va (B (a.Kind == 0)) (wln (cn d (fun U d => ?_) (fun U d => ?_)))))
  ·refine W.skip (nrm ?_)
   obtain rfl := si d
   exact ⟨z, _, _, rfl, pt, us, P, rfl⟩
  refine W.region (va (B (a.Kind == 3)) (va (B (a.Kind == 3)) (wln ?_)))
  obtain rfl := si d
  exact ⟨z, _, _, rfl, pt, us, P, rfl⟩
 rintro T w_ ⟨n, k0, _, rfl, o0, rfl, q, rfl⟩
 refine cn e (fun X e => ?_) (fun X e => ?_)
 ·refine sr (va (.pointer (some ⟨i, 0 + 1, none⟩)) (vx (l1 underlying27 ((mm u) 1 _ rfl)) (vx (ln 3 underlying27 s.m) (va (B ((a.Text.length : Int) == 0)) (va (B ((a.Text.length : Int) == 0)) (wln (W.ret (bkr (thr ?_)))))))))
  obtain rfl := si e
  exact r1 ⟨_, n, rfl, rfl, pt, q, rfl⟩
 refine bn e fun D f b => W.seqJ (Jn n fun c l => Own c G (F) ∧ l = [(1, Q i), (12, B D)]) ?_ ?_
 ·refine sr (va (B (a.Kind == 1)) (va (B (a.Kind == 1)) (wln (cn f (fun Z f => ?_) (fun Z f => ?_)))))
  ·refine W.skip (nrm ?_)
   obtain rfl := si f
   exact ⟨n, _, _, rfl, pt, us, q, rfl⟩
  refine W.region (va (B (a.Kind == 2)) (va (B (a.Kind == 2)) (wln ?_)))
  obtain rfl := si f
  exact ⟨n, _, _, rfl, pt, us, q, rfl⟩
 rintro T w_ ⟨o, l0, _, rfl, q0, rfl, k, rfl⟩
 refine cn b (fun a0 b => ?_) (fun a0 b => ?_)
 ·refine W.seq (bn b fun j0 x b => bn b fun A t b => W.join (Jn o fun c l => Own c G (F) ∧ l = [(2, B A)]) ?_ ?_)
  ·clear b
   refine W.region (va (.pointer (some ⟨i, 0 + 1, none⟩)) (vx (l1 underlying27 ((mm u) 1 _ rfl)) (vx (ln 3 underlying27 s.m) (va (B (decide ((a.Text.length : Int) > 0))) ?_))))
   rcases bo (decide ((a.Text.length : Int) > 0)) with g | g
   ·have E := anT g x
    refine vb g (wn (va (.pointer (some ⟨i, 0 + 1, none⟩)) (wn (vx (l1 underlying27 ((mm u) 1 _ rfl)) (wn (vx (ln 3 underlying27 s.m) (wn (va (B (decide ((a.Text.length : Int) ≤ 16))) ?_))))))))
    obtain rfl := si E
    refine va (B (decide ((a.Text.length : Int) ≤ 16))) ?_
    rcases bo (decide ((a.Text.length : Int) ≤ 16)) with h | h
    ·have p := anT h t
     refine vb h (wn (va (.pointer (some ⟨i, 0 + 1, none⟩)) (wn (vx (l1 underlying27 ((mm u) 1 _ rfl)) (wn (bn p fun j b0 p => cl (c_slices_ContainsFunc_rune_rune__cell_Right_1 k a.Text s.m b0) ?_))))))
     rintro v43 R s0 ⟨M, rfl⟩
     refine wn (va (B (!j)) ?_)
     obtain rfl := si p
     exact va (B (!j)) (va (B (!j)) (wln ⟨R, _, _, rfl, pt, us, M, rfl⟩))
    obtain rfl := anF h t
    exact vb h (ps (ps (ps (ps (va (B false) (va (B false) (wln ⟨o, _, _, rfl, pt, us, k, rfl⟩)))))))
   obtain rfl := anF g x
   refine vb g (ps (ps (ps (ps (va (B false) ?_)))))
   have y : false = false := rfl
   obtain rfl := anF y t
   exact vb y (ps (ps (ps (ps (va (B false) (va (B false) (wln ⟨o, _, _, rfl, pt, us, k, rfl⟩)))))))
  rintro T w_ ⟨S, m0, _, rfl, t0, rfl, N, rfl⟩
  refine nrm (W.ret (bkr (thr ?_)))
  obtain rfl := si b
  exact r1 ⟨_, S, rfl, rfl, pt, N, rfl⟩
 refine W.skip (bkn (nrm (sr (va (B false) (wln (W.ret ?_))))))
 obtain rfl := si b
 exact r1 ⟨_, o, rfl, rfl, pt, k, rfl⟩
def f_cell_Sound (p0 : List G_api_Cell) : Option (Bool) :=
 (iter (σ := Bool × Int) (τ := Bool ⊕ Bool) (((p0.length : Int) - 0).toNat + 1) (fun b =>
 if (decide (b.2 < (p0.length : Int))) = true then
 (idx p0 b.2).bind fun c =>
 (f_cell_Right c).bind fun e =>
 (orE (!e) (some (!(b.1 == (c.Kind == 3))))).bind fun d =>
 if d = true then
 some (.inr (.inl false))
 else
 some (.inl (c.Kind == 2, (w64 (b.2 + 1))))
 else
 some (.inr (.inr (b.1)))) (false, 0)).bind fun a =>
 match a with
 | .inl a =>
 some a
 | .inr a =>
 some (!a)
theorem c_cell_Sound (O0 : Own c0 G F) (p : List G_api_Cell) {r : Bool} (M : Sl R_api_Cell c0 v1 p) (H : f_cell_Sound p = some r) :
    Calls prog 148 #[v1] c0.w (Post c0 fun c v => Own c G (F) ∧ v = B r) := by
 unfold f_cell_Sound at H
 refine en func148 rfl rfl (sr (va (B false) (wln (sr (va (B false) (wln (W.seq (sr (va (v1) (vx (ln 3 underlying69 M) (va (I 0) (wln (W.block (bn H fun d h3 A => lp h3 (fun b => Jn c0 fun c l => Own c G (F) ∧ l = [(3, B b.1), (6, v1), (7, I (p.length : Int)), (8, I b.2)]) (fun t => match t with | .inl R => (fun s0 ex e w => ex = .ret ∧ (Jn c0 fun c l => Own c G (F) ∧ l = [(2, B s0)]) e w) R | .inr R => (fun N ex e w => ex = .exit 0 ∧ (Jn c0 fun c l => Own c G (F) ∧ l = [(3, B N)]) e w) R) ?_ ?_ ?_))))))))))))))
 ·clear A h3
  intro b h1 g0 t0 H
  revert g0 t0
  rintro E P ⟨c5, g6, _, rfl, l5, rfl, O7, rfl⟩
  refine sr (va (B (decide (b.2 < (p.length : Int)))) (wln (W.seq (cn H (fun i0 H => ?_) (fun i0 H => ?_)))))
  ·refine W.skip (nrm (W.seq (W.block (sr (bn H fun a y H => ?_)))))
   obtain ⟨x0, j0, q0⟩ := Sl.at (M.mono l5) (idx_get y)
   obtain ⟨v16, rfl, o⟩ := j0
   refine vx (ix underlying69 M.m y) (vx (lN 101 q0) (me (al 101 [I 0, Y] O7) ?_))
   rintro v21 y0 o0 ⟨g, rfl, T⟩
   obtain ⟨j, k, n, rfl⟩ := ((o.mono o0)).form
   refine md (sA 101 [I a.Kind, .slice j k n] 0 T ⟨rfl, o.m.one, trivial⟩) ?_
   rintro d0 c1 s
   refine wln (W.seq (W.seq (bn H fun q k0 H => bn H fun D z H => W.join (Jn d0 fun c l => Own c G ((Eb g 101 [I a.Kind, .slice j k n]) :: F) ∧ l = [(5, Q g), (6, v1), (7, I (p.length : Int)), (8, I b.2), (21, B D)]) ?_ ?_)))
   ·clear H
    refine W.region (vx (leN 101 0 [I a.Kind, .slice j k n] (s.on 0 rfl)) (cl (c_cell_Right s a o.m k0) ?_))
    rintro v34 u d1 ⟨h, rfl⟩
    refine va (B (!q)) ?_
    rcases bo (!q) with f | f
    ·obtain rfl := orT f z
     exact vb f (ps (ps (ps (ps (ps (va (B true) (wln ⟨u, _, _, rfl, pt, us, h, rfl⟩)))))))
    have S := orF f z
    refine vb f (wn (va (B b.1) (wn (va (Q g) (wn (vx (le1 0 underlying3 (h.on 0 rfl)) (wn (va (B (a.Kind == 3)) (wn (va (B (!(b.1 == (a.Kind == 3)))) ?_))))))))))
    obtain rfl := si S
    exact va (B (!(b.1 == (a.Kind == 3)))) (wln ⟨u, _, _, rfl, pt, us, h, rfl⟩)
   rintro E P ⟨x, z0, _, rfl, e1, rfl, i, rfl⟩
   refine nrm (cn H (fun m0 H => ?_) (fun m0 H => ?_))
   ·refine sr (va (B false) (wln (W.ret (thr (bkr (thr ?_))))))
    obtain rfl := si H
    refine ⟨_, rfl, ⟨rfl, ?_⟩⟩
    have U := i.sD 1 []
    exact ⟨x, _, _, rfl, pt, us, U, rfl⟩
   refine W.skip (nrm (W.region (va (Q g) (vx (le1 0 underlying3 (i.on 0 rfl)) (va (B (a.Kind == 2)) (va (B (a.Kind == 2)) (WL.nil (bkn (nrm (W.region (va (I (w64 (b.2 + 1))) (va (I (w64 (b.2 + 1))) (WL.nil ?_)))))))))))))
   obtain rfl := si H
   refine ⟨_, rfl, ?_⟩
   have X := i.sD 1 []
   exact ⟨x, _, _, rfl, pt, us, X, rfl⟩
  refine W.exit (thx ?_)
  obtain rfl := si H
  exact ⟨_, rfl, rfl, ⟨c5, _, _, rfl, pt, us, O7, rfl⟩⟩
 ·exact ⟨c0, _, _, rfl, pt, us, O0, rfl⟩
 rcases d with d | d
 ·intro h0; revert h0
  rintro _ E P ⟨rfl, e0, a1, _, rfl, f1, rfl, Z, rfl⟩
  refine bkr (thr ?_)
  obtain rfl := si A
  exact r1 ⟨_, e0, rfl, rfl, pt, Z, rfl⟩
 rintro _ E P ⟨rfl, f0, b1, _, rfl, g1, rfl, a0, rfl⟩
 refine bke (nrm (sr (va (B d) (va (B (!d)) (va (B (!d)) (wln (W.ret ?_)))))))
 obtain rfl := si A
 exact r1 ⟨_, f0, rfl, rfl, pt, a0, rfl⟩
def f_cell_Blanks (p0 : Int) : Option (List G_api_Cell) :=
 (rep (imax 0 (imin p0 1024)) (⟨0, ([] : List Int)⟩ : G_api_Cell)).bind fun a =>
 some a
theorem c_cell_Blanks (f : Own c0 G F) (a : Int) {r : List G_api_Cell} (H : f_cell_Blanks a = some r) :
    Calls prog 199 #[I a] c0.w (Post c0 fun c v => ∃ b e, Own c G (es true R_api_Cell b 101 e r :: F) ∧ v = b ∧ OA R_api_Cell c b e r) := by
 unfold f_cell_Blanks at H
 refine en func199 rfl rfl (sr (va (Y) (wln (sr (va (I a) (va (I (imin a 1024)) (va (I (imax 0 (imin a 1024))) (bn H fun m d H => me (Own.mkS (kl := .i64) (kc := .i64) (R := R_api_Cell) (z := .agg #[I 0, Y]) (lz := [I 0, Y]) (x := (⟨0, ([] : List Int)⟩ : G_api_Cell)) (by_ := 32) (i := (imax 0 (imin a 1024))) (j := (imax 0 (imin a 1024))) true f (Nat.succ_pos _) d (Int.le_refl _) (rep_le d) underlying69 (by kernel_rfl) rfl rfl (fun _ => ⟨(Y), rfl, (Sl.nl _ _)⟩) (by kernel_rfl) (by kernel_rfl)) ?_))))))))
 rintro v6 h n ⟨l, g, k⟩
 refine va (v6) (wln (W.ret ?_))
 obtain rfl := si H
 exact r1 ⟨_, h, rfl, rfl, pt, v6, l, g, rfl, k⟩
def f_row_New (sg : Sto) (p0 : Int) : Option (Sto × (Option Nat)) :=
 (f_cell_Blanks (imax 1 p0)).bind fun b =>
 (some (sg.add_row_Row (⟨b, false⟩ : G_row_Row))).bind fun a =>
 some (a, (some sg.row_Row.length))
theorem c_row_New (N : Own c0 G F) (R : Rel c0 sg G) (g : Int) {r : Sto × (Option Nat)} (H : f_row_New sg g = some r) :
    Calls prog 149 #[I g] c0.w (Post c0 fun c v => ∃ M, ∃ G_ : Gm, Own c G_ (F) ∧ Rel c r.1 G_ ∧ Adds G G_ ∧ v = M ∧ Pt 0 c M r.2) := by
 unfold f_row_New at H
 refine en func149 rfl rfl (sr (va (.pointer none) (wln (sr (va (I g) (va (I (imax 1 g)) (bn H fun j S H => cl (c_cell_Blanks N (imax 1 g) S) ?_)))))))
 rintro v2 c9 T ⟨_, D, P, rfl, z⟩
 obtain ⟨d, e, f, rfl⟩ := (z).form
 refine va (.agg #[.slice d e f, B false]) (me (al 188 [.slice d e f, B false] P) ?_)
 rintro v17 U l16 ⟨a, rfl, l⟩
 have m := l.sD 2 [0, 1]
 refine bn H fun A q H => ?_
 obtain ⟨i, k, s, a0, t, n, h, X, u, o⟩ := Rel.new_row_Row (E := [(Eb a 188 [.slice d e f, B false]), es true R_api_Cell (.slice d e f) 101 D j]) (F := F) (x := (⟨j, false⟩ : G_row_Row)) (b := a) m (R.mono (T.trans l16)) (fun c_ hle_ => ⟨a, (.slice d e f), D, rfl, rfl, ((z.mono l16).mono hle_)⟩)
 rw [Option.some.inj q] at h
 refine WL.gh s.1 ?_
 have Z := Adds.nil (Adds.refl _) u
 have p := (Adds.refl _).trans o
 have y : Pt 0 i (Q a) (some sg.row_Row.length) := ⟨a, rfl, t⟩
 refine va (Q a) (wln (W.ret ?_))
 obtain rfl := si H
 exact r1 ⟨_, i, rfl, rfl, pt, (Q a), k, n, h, p, rfl, y⟩
def f_row_own (p0 : G_api_Cell) : Option (G_api_Cell) :=
 (f_slices_Clone p0.Text).bind fun a =>
 some (⟨p0.Kind, a⟩ : G_api_Cell)
theorem c_row_own (E : Own c0 G F) (a : G_api_Cell) {r : G_api_Cell} (t : Sl (RI .i32) c0 v1 a.Text) (H : f_row_own a = some r) :
    Calls prog 150 #[.agg #[I a.Kind, v1]] c0.w (Post c0 fun c v => ∃ i D, Own c G (es true (RI .i32) i 21 D r.Text :: F) ∧ v = .agg #[I r.Kind, i] ∧ OA (RI .i32) c i D r.Text) := by
 unfold f_row_own at H
 refine en func150 rfl rfl (sr ?_)
 obtain ⟨N, P, R, rfl⟩ := (t).form
 refine me (bx 101 [I a.Kind, .slice N P R] E) ?_
 rintro v10 c9 l9 ⟨o, rfl, M, x⟩
 refine me (al 101 [I 0, Y] M) ?_
 rintro v14 U X ⟨T, rfl, j⟩
 refine wln (W.seq (rD [] (Kp G0 []) j ?_))
 intro p Z k
 have d0 : Kp G0 [] p := Kp.nil0
 refine ta 0 (Q o) (tx 1 (fun S u => l1 underlying3 ((mm x) 0 _ rfl)) (ta 2 (.pointer (some ⟨o, 0 + 1, none⟩)) (tx 3 (fun S u => l1 underlying27 ((mm x) 1 _ rfl)) (bn H fun e0 s H => o1 4 (gc 4 (c_slices_Clone k a.Text t.m s) ?_)))))
 rintro v19 q a0 ⟨_, A, l, rfl, g⟩
 have y : Kp G0 [] q := Kp.nil0
 refine ⟨.inr y, ?_⟩
 obtain ⟨b, d, e, rfl⟩ := (g).form
 refine ta 5 (.agg #[I a.Kind, .slice b d e]) (o1 6 (gD 6 (sA 101 [I a.Kind, .slice b d e] 1 l ⟨rfl, (g).one, trivial⟩) ?_))
 rintro f b0 h
 have z : Kp G0 [] f := Kp.nil0
 refine ⟨.inr z, dn (nrm (W.ret ?_))⟩
 obtain rfl := si H
 have n := h.sD 2 [0]
 exact retC (c := f) (vs := [I a.Kind, .slice b d e]) rfl (by kernel_rfl) (by kernel_rfl) (by kernel_rfl) (h.on 1 rfl _ rfl).1 ⟨_, f, rfl, rfl, pt, (.slice b d e), A, n, rfl, g.m⟩
def f_row_Of (sg : Sto) (p0 : List G_api_Cell) : Option (Sto × (Option Nat) × Er) :=
 (orE ((p0.length : Int) == 0) (some (decide ((p0.length : Int) > 1024)))).bind fun k =>
 if k = true then
 some (sg, (none : Option Nat), (Er.sent 0))
 else
 (f_cell_Sound p0).bind fun h =>
 if (!h) = true then
 some (sg, (none : Option Nat), (Er.sent 4))
 else
 (f_row_New sg (p0.length : Int)).bind fun c =>
 (iter (σ := Int × Sto) (τ := Sto) (((p0.length : Int) - 0).toNat + 1) (fun a =>
 if (decide (a.1 < (p0.length : Int))) = true then
 (idx p0 a.1).bind fun i =>
 (c.2).bind fun e =>
 (a.2.row_Row[e]?).bind fun b =>
 (f_row_own i).bind fun j =>
 (idx b.cells a.1).bind fun l =>
 (sets b.cells a.1 j).bind fun g =>
 (a.2.set_row_Row e (⟨g, b.wrap⟩ : G_row_Row)).bind fun d =>
 some (.inl ((w64 (a.1 + 1)), d))
 else
 some (.inr (a.2))) (0, c.1)).bind fun f =>
 some (f, c.2, Er.nil)
def f_row_Row_Wide (sg : Sto) (p0 : Option Nat) : Option (Int) :=
 if p0.isNone = true then
 some 0
 else
 (p0).bind fun b =>
 (sg.row_Row[b]?).bind fun a =>
 some (a.cells.length : Int)
theorem c_row_Row_Wide (d : Own c0 G F) (k : Rel c0 sg G) (f : Option Nat) {r : Int} (j : Pt 0 c0 v1 f) (H : f_row_Row_Wide sg f = some r) :
    Calls prog 79 #[v1] c0.w (Post c0 fun c v => Own c G (F) ∧ v = I r) := by
 unfold f_row_Row_Wide at H
 refine en func79 rfl rfl (sr (va (I 0) (wln (W.seq (sr (va (v1) (vr (B f.isNone) (by rcases (j).cs with ⟨a, b⟩ | ⟨q, a, b⟩ <;> (subst a; rw [b]; kernel_rfl)) (wln (cn H (fun l H => ?_) (fun l H => ?_))))))))))
 ·refine sr (va (I 0) (wln (W.ret (thr ?_))))
  obtain rfl := si H
  exact r1 ⟨_, c0, rfl, rfl, pt, d, rfl⟩
 refine W.skip (nrm (sr (va (v1) (bn H fun p n H => ?_))))
 obtain ⟨g, rfl, m⟩ := (j).get n
 refine va (Q g) (va (Q g) (bn H fun e o H => ?_))
 obtain ⟨v8, s, i, h⟩ := Rel.open_row_Row k o m
 refine vx (le1 0 underlying69 (d.gon i 0 rfl)) (vx (lnO 3 underlying69 h) (va (I (e.cells.length : Int)) (wln (W.ret ?_))))
 obtain rfl := si H
 exact r1 ⟨_, c0, rfl, rfl, pt, d, rfl⟩
def f_row_Row_Cells (sg : Sto) (p0 : Option Nat) : Option (List G_api_Cell) :=
 (f_row_Row_Wide sg p0).bind fun b =>
 (iter (σ := (List G_api_Cell) × Int) (τ := (List G_api_Cell)) ((b - 0).toNat + 1) (fun a =>
 if (decide (a.2 < b)) = true then
 (p0).bind fun c =>
 (sg.row_Row[c]?).bind fun d =>
 (idx d.cells a.2).bind fun e =>
 (f_row_own e).bind fun f =>
 (app a.1 ([f] : List G_api_Cell)).bind fun g =>
 some (.inl (g, (w64 (a.2 + 1))))
 else
 some (.inr (a.1))) (([] : List G_api_Cell), 0)).bind fun h =>
 some h
theorem c_row_Row_Cells (O0 : Own c0 G F) (R0 : Rel c0 sg G) (M : Option Nat) {r : List G_api_Cell} (h2 : Pt 0 c0 v1 M) (H : f_row_Row_Cells sg M = some r) :
    Calls prog 103 #[v1] c0.w (Post c0 fun c v => ∃ N y2, Own c G (es true R_api_Cell N 101 y2 r :: F) ∧ v = N ∧ OA R_api_Cell c N y2 r) := by
 unfold f_row_Row_Cells at H
 refine en func103 rfl rfl (sr (va (Y) (wln (sr (va (Y) (wln (W.seq (sr (va (v1) (bn H fun E h3 H => cl (c_row_Row_Wide O0 R0 M h2 h3) ?_))))))))))
 rintro v9 o l8 ⟨O5, rfl⟩
 refine va (I 0) (wln (W.block (bn H fun i2 x p => lp x (fun a => Jn o fun c l => ∃ v12 f, Own c G (es true R_api_Cell v12 101 f a.1 :: F) ∧ l = [(0, v1), (3, v12), (6, I E), (7, I a.2)] ∧ OA R_api_Cell c v12 f a.1) (fun k ex e w => ex = .exit 0 ∧ (Jn o fun c l => ∃ v14 g, Own c G (es true R_api_Cell v14 101 g k :: F) ∧ l = [(3, v14)] ∧ OA R_api_Cell c v14 g k) e w) ?_ ?_ ?_)))
 ·clear p x
  intro a m2 h0 f1 H
  revert h0 f1
  rintro e_ w_ ⟨e0, z1, _, rfl, l16, rfl, v12, f, d, rfl, y⟩
  refine sr (va (B (decide (a.2 < E))) (wln (W.seq (cn H (fun j0 H => ?_) (fun j0 H => ?_)))))
  ·refine W.skip (nrm (W.seq (W.block (sr (va (I a.2) (va (I a.2) (wln (W.region (va (v12) (va (v1) (bn H fun m1 l0 H => ?_)))))))))))
   obtain ⟨u, rfl, k0⟩ := ((h2.mono (l8.trans l16))).get l0
   refine va (Q u) (va (Q u) (bn H fun p1 m0 H => ?_))
   obtain ⟨v28, j2, z, h⟩ := Rel.open_row_Row (R0.mono (l8.trans l16)) m0 k0
   refine vx (le1 0 underlying69 (d.gon z 0 rfl)) (va (I a.2) (bn H fun b i H => vx (ixO underlying69 h i) ?_))
   obtain ⟨n1, o0, d1⟩ := OA.at h i
   obtain ⟨v36, rfl, q0⟩ := o0
   refine vr (.agg #[I b.Kind, v36]) (rx (by kernel_rfl) (ldEN (T := 101) (l := [I b.Kind, v36]) (by kernel_rfl) (by kernel_rfl) (d.gon z 1 rfl) (h.blk i) (at2 (j := 0) d1 rfl))) (bn H fun n s0 H => cl (c_row_own d b q0 s0) ?_)
   rintro v47 t1 b2 ⟨v39, k2, P, rfl, t0⟩
   obtain ⟨u1, u0, c2, R, A⟩ := P.frz 0 rfl t0
   refine WL.gh u0 ?_
   obtain ⟨q, s, t, rfl⟩ := (A).form
   refine me (sl R_api_Cell 101 [[I n.Kind, .slice q s t]] ([n] : List G_api_Cell) R ⟨⟨(.slice q s t), rfl, A⟩, trivial⟩) ?_
   rintro v59 w1 d2 ⟨l2, S, v0⟩
   obtain ⟨x1, x0, e2, U, w0⟩ := S.frz 0 rfl v0
   refine WL.gh x0 (bn H fun s1 y0 H => me (ap R_api_Cell (.agg #[I 0, Y]) 32 69 2 U y.m w0 y0 underlying69) ?_)
   rintro D f0 f2 ⟨e1, X, z0⟩
   refine va (D) (WL.nil (bkn (nrm (W.region (va (I (w64 (a.2 + 1))) (va (I (w64 (a.2 + 1))) (WL.nil ?_)))))))
   obtain rfl := si H
   refine ⟨_, rfl, ?_⟩
   have Z := X.sD 3 [2]
   exact ⟨f0, _, _, rfl, pt, us, D, e1, Z, rfl, z0⟩
  refine W.exit (thx ?_)
  obtain rfl := si H
  exact ⟨_, rfl, rfl, ⟨e0, _, _, rfl, pt, us, v12, f, d, rfl, y⟩⟩
 ·have a1 : OA R_api_Cell o (Y) [] [] := OA.nil (Nat.succ_pos _)
  have a0 := O5.addHole (e := es true R_api_Cell (Y) 101 [] ([] : List G_api_Cell)) rfl
  exact ⟨o, _, _, rfl, pt, us, (Y), [], a0, rfl, a1⟩
 rintro _ e_ w_ ⟨rfl, g0, a2, _, rfl, g2, rfl, v14, g, b0, rfl, b1⟩
 refine bke (nrm (sr (va (v14) (va (v14) (wln (W.ret ?_))))))
 obtain rfl := si p
 exact r1 ⟨_, g0, rfl, rfl, pt, v14, g, b0, rfl, b1⟩
def f_row_Row_Cell (sg : Sto) (p0 : Option Nat) (p1 : Int) : Option (G_api_Cell × Bool) :=
 (orE (decide (p1 < 0)) ((f_row_Row_Wide sg p0).bind fun c =>
 some (decide (p1 ≥ c)))).bind fun f =>
 if f = true then
 some ((⟨0, ([] : List Int)⟩ : G_api_Cell), false)
 else
 (p0).bind fun a =>
 (sg.row_Row[a]?).bind fun b =>
 (idx b.cells p1).bind fun d =>
 (f_row_own d).bind fun e =>
 some (e, true)
theorem c_row_Row_Cell (O0 : Own c0 G F) (Z : Rel c0 sg G) (E : Option Nat) (a : Int) {r : G_api_Cell × Bool} (h2 : Pt 0 c0 v1 E) (H : f_row_Row_Cell sg E a = some r) :
    Calls prog 113 #[v1, I a] c0.w (Post c0 fun c v => ∃ M y2, Own c G (es true (RI .i32) M 21 y2 r.1.Text :: F) ∧ v = .tuple #[.agg #[I r.1.Kind, M], B r.2] ∧ OA (RI .i32) c M y2 r.1.Text) := by
 unfold f_row_Row_Cell at H
 refine en func113 rfl rfl (sr (me (al 101 [I 0, Y] O0) ?_))
 rintro v6 c5 l5 ⟨b3, rfl, S⟩
 refine va (B false) (wln (W.seq (W.seq (bn H fun e0 h7 H => W.join (Jn c5 fun c l => Own c G ((Eb b3 101 [I 0, Y]) :: F) ∧ l = [(0, v1), (1, I a), (4, Q b3), (13, B e0)]) ?_ ?_))))
 ·clear H
  refine W.region (va (I a) (va (B (decide (a < 0))) ?_))
  rcases bo (decide (a < 0)) with p | p
  ·obtain rfl := orT p h7
   exact vb p (ps (ps (ps (ps (va (B true) (wln ⟨c5, _, _, rfl, pt, us, S, rfl⟩))))))
  have D := orF p h7
  refine vb p (wn (va (I a) (wn (va (v1) (wn (bn D fun q f0 D => cl (c_row_Row_Wide S Z.m E h2.m f0) ?_))))))
  rintro v16 b0 e1 ⟨N, rfl⟩
  refine wn (va (B (decide (a ≥ q))) ?_)
  obtain rfl := si D
  exact va (B (decide (a ≥ q))) (wln ⟨b0, _, _, rfl, pt, us, N, rfl⟩)
 rintro e_ w_ ⟨b1, d1, _, rfl, A, rfl, d, rfl⟩
 refine nrm (cn H (fun h0 H => ?_) (fun h0 H => ?_))
 ·refine sr (va (.agg #[I 0, Y]) (md (sA 101 [I 0, Y] 0 d ⟨rfl, rfl, trivial⟩) ?_))
  rintro i f1 P
  refine va (B false) (wln (W.ret (thr ?_)))
  obtain rfl := si H
  have i0 : OA (RI .i32) i (Y) [] [] := OA.nil (Nat.succ_pos _)
  have t := P.addHole (e := es true (RI .i32) (Y) 21 [] ([] : List Int)) rfl
  have R := t.sD 2 [0]
  exact retCT (c := i) (vs := [I 0, Y]) (v := B false) rfl (by kernel_rfl) (by kernel_rfl) (by kernel_rfl) (by kernel_rfl) (t.on 1 rfl _ rfl).1 ⟨_, i, rfl, rfl, pt, (Y), [], R, rfl, i0⟩
 refine W.skip (nrm (sr (va (v1) (bn H fun y0 k0 H => ?_))))
 obtain ⟨x, rfl, j0⟩ := ((h2.mono (l5.trans A))).get k0
 refine va (Q x) (va (Q x) (bn H fun a1 l0 H => ?_))
 obtain ⟨v33, i1, z, k⟩ := Rel.open_row_Row (Z.mono (l5.trans A)) l0 j0
 refine vx (le1 0 underlying69 (d.gon z 0 rfl)) (va (I a) (bn H fun b n H => vx (ixO underlying69 k n) ?_))
 obtain ⟨z0, m0, u0⟩ := OA.at k n
 obtain ⟨v41, rfl, o0⟩ := m0
 refine vr (.agg #[I b.Kind, v41]) (rx (by kernel_rfl) (ldEN (T := 101) (l := [I b.Kind, v41]) (by kernel_rfl) (by kernel_rfl) (d.gon z 1 rfl) (k.blk n) (at2 (j := 0) u0 rfl))) (bn H fun s q0 H => cl (c_row_own d b o0 q0) ?_)
 rintro v52 c1 g1 ⟨v44, v0, U, rfl, o⟩
 obtain ⟨f, g, h, rfl⟩ := (o).form
 refine md (sA 101 [I s.Kind, .slice f g h] 1 U ⟨rfl, (o).one, trivial⟩) ?_
 rintro y h1 u
 refine va (B true) (wln (W.ret ?_))
 obtain rfl := si H
 have X := u.sD 2 [0]
 exact retCT (c := y) (vs := [I s.Kind, .slice f g h]) (v := B true) rfl (by kernel_rfl) (by kernel_rfl) (by kernel_rfl) (by kernel_rfl) (u.on 1 rfl _ rfl).1 ⟨_, y, rfl, rfl, pt, (.slice f g h), v0, X, rfl, o.m⟩
def f_row_Row_kind (sg : Sto) (p0 : Option Nat) (p1 : Int) : Option (Int) :=
 (orE (decide (p1 < 0)) ((f_row_Row_Wide sg p0).bind fun e =>
 some (decide (p1 ≥ e)))).bind fun d =>
 if d = true then
 some 0
 else
 (p0).bind fun a =>
 (sg.row_Row[a]?).bind fun b =>
 (idx b.cells p1).bind fun c =>
 some c.Kind
theorem c_row_Row_kind (q : Own c0 G F) (s : Rel c0 sg G) (p : Option Nat) (a : Int) {r : Int} (y : Pt 0 c0 v1 p) (H : f_row_Row_kind sg p a = some r) :
    Calls prog 243 #[v1, I a] c0.w (Post c0 fun c v => Own c G (F) ∧ v = I r) := by
 unfold f_row_Row_kind at H
 refine en func243 rfl rfl (sr (va (I 0) (wln (W.seq (W.seq (bn H fun u E H => W.join (Jn c0 fun c l => Own c G (F) ∧ l = [(0, v1), (1, I a), (12, B u)]) ?_ ?_))))))
 ·clear H
  refine W.region (va (I a) (va (B (decide (a < 0))) ?_))
  rcases bo (decide (a < 0)) with f | f
  ·obtain rfl := orT f E
   exact vb f (ps (ps (ps (ps (va (B true) (wln ⟨c0, _, _, rfl, pt, us, q, rfl⟩))))))
  have o := orF f E
  refine vb f (wn (va (I a) (wn (va (v1) (wn (bn o fun n R o => cl (c_row_Row_Wide q s p y R) ?_))))))
  rintro v12 t a0 ⟨P, rfl⟩
  refine wn (va (B (decide (a ≥ n))) ?_)
  obtain rfl := si o
  exact va (B (decide (a ≥ n))) (wln ⟨t, _, _, rfl, pt, us, P, rfl⟩)
 rintro e_ w_ ⟨i, X, _, rfl, m, rfl, b, rfl⟩
 refine nrm (cn H (fun x H => ?_) (fun x H => ?_))
 ·refine sr (va (I 0) (wln (W.ret (thr ?_))))
  obtain rfl := si H
  exact r1 ⟨_, i, rfl, rfl, pt, b, rfl⟩
 refine W.skip (nrm (sr (va (v1) (bn H fun S A H => ?_))))
 obtain ⟨h, rfl, z⟩ := ((y.mono m)).get A
 refine va (Q h) (va (Q h) (bn H fun U D H => ?_))
 obtain ⟨v24, b0, k, d⟩ := Rel.open_row_Row (s.mono m) D z
 refine vx (le1 0 underlying69 (b.gon k 0 rfl)) (va (I a) (bn H fun g e H => vx (ixO underlying69 d e) (va (.pointer (some ⟨sb v24, a.toNat * 2, none⟩)) ?_)))
 obtain ⟨T, M, N⟩ := OA.at d e
 obtain ⟨v32, rfl, Z⟩ := M
 refine vr (I g.Kind) (rx (by kernel_rfl) (ldE1 underlying3 rfl (b.gon k 1 rfl) (d.blk e) (at1 (j := 0) N rfl))) (va (I g.Kind) (wln (W.ret ?_)))
 obtain rfl := si H
 exact r1 ⟨_, i, rfl, rfl, pt, b, rfl⟩
def f_row_Row_put (sg : Sto) (p0 : Option Nat) (p1 : Int) (p2 : G_api_Cell) : Option (Sto) :=
 (p0).bind fun d =>
 (sg.row_Row[d]?).bind fun e =>
 (f_row_own p2).bind fun f =>
 (idx e.cells p1).bind fun g =>
 (sets e.cells p1 f).bind fun b =>
 (sg.set_row_Row d (⟨b, e.wrap⟩ : G_row_Row)).bind fun a =>
 if (p1 == (w64 ((b.length : Int) - 1))) = true then
 (a.set_row_Row d (⟨b, false⟩ : G_row_Row)).bind fun c =>
 some c
 else
 some a
theorem c_row_Row_put (O0 : Own c0 G F) (R0 : Rel c0 sg G) (p0 : Option Nat) (o : Int) (p : G_api_Cell) {r : Sto} (h2 : Pt 0 c0 v1 p0) (h4 : Sl (RI .i32) c0 v3 p.Text) (H : f_row_Row_put sg p0 o p = some r) :
    Calls prog 244 #[v1, I o, .agg #[I p.Kind, v3]] c0.w (Post c0 fun c v => ∃ G_ : Gm, Own c G_ (F) ∧ Rel c r G_ ∧ v = .tuple #[]) := by
 unfold f_row_Row_put at H
 refine en func244 rfl rfl (sr ?_)
 obtain ⟨a5, a6, a7, rfl⟩ := (h4).form
 refine me (bx 101 [I p.Kind, .slice a5 a6 a7] O0) ?_
 rintro v12 a2 l ⟨b8, rfl, O9, f1⟩
 refine wln (W.seq (rD [8] (Kp G []) O9 ?_))
 intro k0 n s
 have i1 : Kp G [] k0 := (Kp.nil s)
 refine ta 0 (v1) (bn H fun c2 s0 H => ?_)
 obtain ⟨a, rfl, i⟩ := ((h2.mono (l.trans n))).get s0
 refine ta 1 (Q a) (ta 2 (Q a) (bn H fun g1 t0 H => ?_))
 obtain ⟨v20, d2, A, z⟩ := Rel.open_row_Row (R0.mono (l.trans n)) t0 i
 refine tkx 3 i1 (fun c' E hk => le1 0 underlying69 (hk.gon A 0 rfl)) (ta 4 (I o) (tx 5 (fun c' E => lN 101 (mm f1)) (bn H fun q u0 H => o1 6 (gc 6 (c_row_own s p h4.m u0) ?_))))
 rintro v33 l0 d1 ⟨v25, e2, t, rfl, v0⟩
 have j1 : Kp G [] l0 := (Kp.nil t)
 refine ⟨.inr j1, bn H fun x1 w0 H => tx 7 (fun c' E => ixO underlying69 z.m w0) ?_⟩
 obtain ⟨m0, x0, M, x, j⟩ := t.frz 0 rfl v0
 have k1 : Kp G [] m0 := (Kp.nil x)
 refine AC.gh x0 M (fun _ => k1) ?_
 obtain ⟨f, g, h, rfl⟩ := (j).form
 have Z := x.borrow 1 A rfl
 refine bn H fun b z0 H => o1 8 (gD 8 (Own.stW (R := R_api_Cell) (T := 101) (us := [I q.Kind, .slice f g h]) (x' := q) (u := .agg #[I q.Kind, .slice f g h]) 0 Z (by kernel_rfl) rfl z.m z0 rfl (by kernel_rfl) ⟨rfl, j.one, trivial⟩ rfl ⟨(.slice f g h), rfl, j⟩) ?_)
 rintro o0 e1 ⟨d, a0, k⟩
 have b0 := a0.giveB 1 rfl
 refine bn H fun P a1 H => ?_
 obtain ⟨U, e, y, D, y1⟩ := Rel.put_row_Row b0 (R0.mono (l.trans (n.trans (d1.trans (M.trans e1))))) (E' := [(Eb a 188 [v20, B g1.wrap]), es true R_api_Cell v20 101 d b]) a1 ⟨a, v20, d, (tm i), rfl, k⟩
 refine ⟨.inl rfl, dn (nrm (sr (va (I o) (va (Q a) (va (Q a) (va (Q a) (vx (le1 0 underlying69 (e.gon D 0 rfl)) (vx (lnO 3 underlying69 k) (va (I (w64 ((b.length : Int) - 1))) (va (B (o == (w64 ((b.length : Int) - 1)))) (wln (cn H (fun b1 H => ?_) (fun b1 H => ?_)))))))))))))⟩
 ·refine W.region (va (Q a) (va (Q a) (va (.pointer (some ⟨a, 1, none⟩)) (md (gC 4 1 (B false) [v20, B false] 0 e D ⟨rfl, trivial⟩) ?_))))
  rintro q0 N d0
  refine bn H fun S c1 H => ?_
  obtain ⟨X, e0, i0, b2, z1⟩ := Rel.put_row_Row d0 (y.mono N) (E' := [(Eb a 188 [v20, B false]), es true R_api_Cell v20 101 d b]) c1 ⟨a, v20, d, (tm i), rfl, (k.mono N)⟩
  refine WL.nil ?_
  obtain rfl := si H
  have f0 := e0.sD 1 []
  exact n0 ⟨_, q0, rfl, rfl, pt, X, f0, i0, rfl⟩
 refine W.skip ?_
 obtain rfl := si H
 have g0 := e.sD 1 []
 exact n0 ⟨_, o0, rfl, rfl, pt, U, g0, y, rfl⟩
def f_row_Row_Paint (sg : Sto) (p0 : Option Nat) (p1 : Int) (p2 : List G_api_Cell) : Option (Sto × Er) :=
 (orE p0.isNone (some (decide (p1 < 0)))).bind fun q =>
 (orE q ((p0).bind fun d =>
 (sg.row_Row[d]?).bind fun f =>
 some (decide (p1 > (f.cells.length : Int))))).bind fun r =>
 (orE r ((p0).bind fun e =>
 (sg.row_Row[e]?).bind fun g =>
 some (decide ((p2.length : Int) > (w64 ((g.cells.length : Int) - p1)))))).bind fun c =>
 if c = true then
 some (sg, (Er.sent 0))
 else
 (f_cell_Sound p2).bind fun i =>
 if (!i) = true then
 some (sg, (Er.sent 4))
 else
 if ((p2.length : Int) == 0) = true then
 some (sg, Er.nil)
 else
 ((f_row_Row_kind sg p0 p1).bind fun j =>
 if (j == 3) = true then
 (f_row_Row_put sg p0 (w64 (p1 - 1)) (⟨0, ([] : List Int)⟩ : G_api_Cell)).bind fun k =>
 some (k)
 else
 some (sg)).bind fun b =>
 ((f_row_Row_kind b p0 (w64 (p1 + (p2.length : Int)))).bind fun l =>
 if (l == 3) = true then
 (f_row_Row_put b p0 (w64 (p1 + (p2.length : Int))) (⟨0, ([] : List Int)⟩ : G_api_Cell)).bind fun m =>
 some (m)
 else
 some (b)).bind fun p =>
 (iter (σ := Int × Sto) (τ := Sto) (((p2.length : Int) - 0).toNat + 1) (fun a =>
 if (decide (a.1 < (p2.length : Int))) = true then
 (idx p2 a.1).bind fun n =>
 (f_row_Row_put a.2 p0 (w64 (p1 + a.1)) n).bind fun o =>
 some (.inl ((w64 (a.1 + 1)), o))
 else
 some (.inr (a.2))) (0, p)).bind fun h =>
 some (h, Er.nil)
theorem c_row_Row_Paint (A : Own c0 G F) (o : Rel c0 sg G) (hG : Gl [0, 4] c0) (j : Option Nat) (a : Int) (f : List G_api_Cell) {r : Sto × Er} (s : Pt 0 c0 v1 j) (x : Sl R_api_Cell c0 v3 f) (H : f_row_Row_Paint sg j a f = some r) :
    Calls prog 198 #[v1, I a, v3] c0.w (Post c0 fun c v => ∃ y1, ∃ G_ : Gm, Own c G_ (F) ∧ Rel c r.1 G_ ∧ v = y1 ∧ RE 305 179 c y1 r.2) := by
 unfold f_row_Row_Paint at H
 refine en func198 rfl rfl (sr (va (.nilIface) (wln (W.seq (W.block (W.seq (bn H fun t4 h5 H => bn H fun u4 h6 H => bn H fun j1 h7 H => W.join (Jn c0 fun c l => Own c G (F) ∧ l = [(0, v1), (1, I a), (2, v3), (10, B j1)]) ?_ ?_)))))))
 ·clear H
  refine W.region (va (v1) (vr (B j.isNone) (by rcases (s).cs with ⟨q0, s0⟩ | ⟨b_, q0, s0⟩ <;> (subst q0; rw [s0]; kernel_rfl)) ?_))
  rcases bo (j.isNone) with h8 | h8
  ·obtain rfl := orT h8 h5
   refine vb h8 (ps (ps (va (B true) ?_)))
   have h9 : true = true := rfl
   obtain rfl := orT h9 h6
   refine vb h9 (ps (ps (ps (ps (ps (ps (ps (va (B true) ?_))))))))
   have m0 : true = true := rfl
   obtain rfl := orT m0 h7
   exact vb m0 (ps (ps (ps (ps (ps (ps (ps (ps (ps (ps (va (B true) (va (B true) (wln ⟨c0, _, _, rfl, pt, us, A, rfl⟩)))))))))))))
  have f2 := orF h8 h5
  refine vb h8 (wn (va (I a) (wn (va (B (decide (a < 0))) ?_))))
  obtain rfl := si f2
  refine va (B (decide (a < 0))) ?_
  rcases bo (decide (a < 0)) with q | q
  ·obtain rfl := orT q h6
   refine vb q (ps (ps (ps (ps (ps (ps (ps (va (B true) ?_))))))))
   have o0 : true = true := rfl
   obtain rfl := orT o0 h7
   exact vb o0 (ps (ps (ps (ps (ps (ps (ps (ps (ps (ps (va (B true) (va (B true) (wln ⟨c0, _, _, rfl, pt, us, A, rfl⟩)))))))))))))
  have k := orF q h6
  refine vb q (wn (va (I a) (wn (va (v1) (wn (bn k fun g4 z2 k => ?_))))))
  obtain ⟨p, rfl, y2⟩ := (s).get z2
  refine va (Q p) (wn (va (Q p) (wn (bn k fun y a3 k => ?_))))
  obtain ⟨v19, c5, c3, b3⟩ := Rel.open_row_Row o a3 y2
  refine vx (le1 0 underlying69 (A.gon c3 0 rfl)) (wn (vx (lnO 3 underlying69 b3) (wn (va (B (decide (a > (y.cells.length : Int)))) ?_))))
  obtain rfl := si k
  refine va (B (decide (a > (y.cells.length : Int)))) ?_
  rcases bo (decide (a > (y.cells.length : Int))) with t | t
  ·obtain rfl := orT t h7
   exact vb t (ps (ps (ps (ps (ps (ps (ps (ps (ps (ps (va (B true) (va (B true) (wln ⟨c0, _, _, rfl, pt, us, A, rfl⟩)))))))))))))
  have n := orF t h7
  refine vb t (wn (va (v3) (wn (vx (ln 3 underlying69 x) (wn (va (Q p) (wn (bn n fun i4 e3 n => ?_))))))))
  have d3 := (s).get2 e3
  refine va (Q p) (wn (va (Q p) (wn (bn n fun i f3 n => ?_))))
  obtain ⟨v29, d5, h3, g3⟩ := Rel.open_row_Row o f3 d3
  refine vx (le1 0 underlying69 (A.gon h3 0 rfl)) (wn (vx (lnO 3 underlying69 g3) (wn (va (I a) (wn (va (I (w64 ((i.cells.length : Int) - a))) (wn (va (B (decide ((f.length : Int) > (w64 ((i.cells.length : Int) - a))))) ?_))))))))
  obtain rfl := si n
  exact va (B (decide ((f.length : Int) > (w64 ((i.cells.length : Int) - a))))) (va (B (decide ((f.length : Int) > (w64 ((i.cells.length : Int) - a))))) (wln ⟨c0, _, _, rfl, pt, us, A, rfl⟩))
 rintro e_ w_ ⟨q2, v4, _, rfl, d0, rfl, j0, rfl⟩
 refine nrm (cn H (fun i3 H => ?_) (fun i3 H => ?_))
 ·refine sr ?_
  obtain ⟨v40, t0⟩ := (hG.mono d0).get 0 (by decide)
  refine vx (l1 underlying37 t0.im) (va (v40) (wln (W.ret (bkr (thr ?_)))))
  obtain rfl := si H
  exact r1 ⟨_, q2, rfl, rfl, pt, v40, G, j0, o.m, rfl, t0⟩
 refine sr (va (v3) (bn H fun e0 j3 H => cl (c_cell_Sound j0 f x.m j3) ?_))
 rintro v48 X w0 ⟨N, rfl⟩
 refine va (B (!e0)) (va (B (!e0)) (wln (cn H (fun k3 H => ?_) (fun k3 H => ?_))))
 ·refine sr ?_
  obtain ⟨v50, u0⟩ := (hG.mono (d0.trans w0)).get 4 (by decide)
  refine vx (l1 underlying37 u0.im) (va (v50) (wln (W.ret (bkr (thr ?_)))))
  obtain rfl := si H
  exact r1 ⟨_, X, rfl, rfl, pt, v50, G, N, o.m, rfl, u0⟩
 refine sr (va (v3) (vx (ln 3 underlying69 x.m) (va (B ((f.length : Int) == 0)) (va (B ((f.length : Int) == 0)) (wln (cn H (fun m3 H => ?_) (fun m3 H => ?_)))))))
 ·refine sr (va (.nilIface) (wln (W.ret (bkr (thr ?_)))))
  obtain rfl := si H
  exact r1 ⟨_, X, rfl, rfl, pt, .nilIface, G, N, o.m, rfl, rfl⟩
 refine W.skip (bkn (nrm (bn H fun z1 g g2 => W.seqJ (Jn X fun c l => ∃ G_, Own c G_ (F) ∧ l = [(0, v1), (1, I a), (2, v3)] ∧ Rel c z1 G_) ?_ ?_)))
 ·refine sr (va (v1) (va (I a) (bn g fun w1 n3 g => cl (c_row_Row_kind N o.m j a s.m n3) ?_)))
  rintro e5 s2 y4 ⟨k0, rfl⟩
  refine va (B (w1 == 3)) (wln (cn g (fun o3 g => ?_) (fun o3 g => ?_)))
  ·refine W.region (va (v1) (va (I a) (va (I (w64 (a - 1))) (va (.agg #[I 0, Y]) (bn g fun q4 p3 g => cl (c_row_Row_put k0 o.m j (w64 (a - 1)) (⟨0, ([] : List Int)⟩ : G_api_Cell) s.m (Sl.nl _ _) p3) ?_)))))
   rintro f5 t2 z4 ⟨b2, i2, m2, rfl⟩
   refine wln ?_
   obtain rfl := si g
   exact ⟨t2, _, _, rfl, pt, us, b2, i2, rfl, m2⟩
  refine W.skip (nrm ?_)
  obtain rfl := si g
  exact ⟨s2, _, _, rfl, pt, us, G, k0, rfl, o.m⟩
 rintro e_ w_ ⟨u2, w4, _, rfl, w3, rfl, c2, j2, rfl, R⟩
 refine bn g2 fun a2 h d => W.seqJ (Jn u2 fun c l => ∃ G_, Own c G_ (F) ∧ l = [(0, v1), (1, I a), (2, v3)] ∧ Rel c a2 G_) ?_ ?_
 ·refine sr (va (I a) (va (v3) (vx (ln 3 underlying69 x.m) (va (I (w64 (a + (f.length : Int)))) (va (I (w64 (a + (f.length : Int)))) (wln (sr (va (v1) (va (I (w64 (a + (f.length : Int)))) (bn h fun x1 q3 h => cl (c_row_Row_kind j2 R j (w64 (a + (f.length : Int))) s.m q3) ?_))))))))))
  rintro g5 v2 a5 ⟨l0, rfl⟩
  refine va (B (x1 == 3)) (wln (cn h (fun s3 h => ?_) (fun s3 h => ?_)))
  ·refine W.region (va (v1) (va (I (w64 (a + (f.length : Int)))) (va (.agg #[I 0, Y]) (bn h fun r4 t3 h => cl (c_row_Row_put l0 R.m j (w64 (a + (f.length : Int))) (⟨0, ([] : List Int)⟩ : G_api_Cell) s.m (Sl.nl _ _) t3) ?_))))
   rintro i5 w2 b5 ⟨d2, k2, n2, rfl⟩
   refine wln ?_
   obtain rfl := si h
   exact ⟨w2, _, _, rfl, pt, us, d2, k2, rfl, n2⟩
  refine W.skip (nrm ?_)
  obtain rfl := si h
  exact ⟨v2, _, _, rfl, pt, us, c2, l0, rfl, R.m⟩
 rintro e_ w_ ⟨Z, x4, _, rfl, x3, rfl, e2, l2, rfl, o2⟩
 refine W.seq (sr (va (v3) (vx (ln 3 underlying69 x.m) (va (I 0) (wln (W.block (bn d fun m4 v0 D => lp v0 (fun b => Jn Z fun c l => ∃ G_, Own c G_ (F) ∧ l = [(0, v1), (1, I a), (69, v3), (70, I (f.length : Int)), (71, I b.1)] ∧ Rel c b.2 G_) (fun h0 ex e w => ex = .exit 1 ∧ (Jn Z fun c l => ∃ G_, Own c G_ (F) ∧ l = [] ∧ Rel c h0 G_) e w) ?_ ?_ ?_)))))))
 ·clear D v0
  intro b j5 x2 y3 d
  revert x2 y3
  rintro e_ w_ ⟨g1, e4, _, rfl, s1, rfl, x0, E, rfl, P⟩
  refine sr (va (B (decide (b.1 < (f.length : Int)))) (wln (W.seq (cn d (fun k1 d => ?_) (fun k1 d => ?_)))))
  ·refine W.skip (nrm (W.seq (W.block (sr (va (I b.1) (bn d fun z a0 d => ?_))))))
   obtain ⟨a4, m1, u1⟩ := Sl.at (x.mono (d0.trans (w0.trans (w3.trans (x3.trans s1))))) (idx_get a0)
   obtain ⟨n4, rfl, u⟩ := m1
   refine vx (ix underlying69 x.m a0) (vx (lN 101 u1) (me (al 101 [I 0, Y] E) ?_))
   rintro o4 c4 t1 ⟨b4, rfl, a1⟩
   refine va (I b.1) ?_
   obtain ⟨S, T, U, rfl⟩ := ((u.mono t1)).form
   refine md (sA 101 [I z.Kind, .slice S T U] 0 a1 ⟨rfl, u.m.one, trivial⟩) ?_
   rintro d4 j4 M
   refine wln (W.region (va (v1) (va (I a) (va (I b.1) (va (I (w64 (a + b.1))) (vx (leN 101 0 [I z.Kind, .slice S T U] (M.on 0 rfl)) (bn d fun s4 n1 d => cl (c_row_Row_put M P.m j (w64 (a + b.1)) z s.m u.m n1) ?_)))))))
   rintro p4 h1 k4 ⟨y0, b1, e1, rfl⟩
   refine WL.nil (bkn (nrm (W.region (va (I (w64 (b.1 + 1))) (va (I (w64 (b.1 + 1))) (WL.nil ?_))))))
   obtain rfl := si d
   refine ⟨_, rfl, ?_⟩
   have c1 := b1.sD 1 []
   exact ⟨h1, _, _, rfl, pt, us, y0, c1, rfl, e1⟩
  refine W.exit (thx ?_)
  obtain rfl := si d
  exact ⟨_, rfl, rfl, ⟨g1, _, _, rfl, pt, us, x0, E, rfl, P⟩⟩
 ·exact ⟨Z, _, _, rfl, pt, us, e2, l2, rfl, o2⟩
 rintro _ e_ w_ ⟨rfl, i1, f4, _, rfl, l4, rfl, z0, d1, rfl, f1⟩
 refine bke (nrm (sr (va (.nilIface) (wln (W.ret ?_)))))
 obtain rfl := si D
 exact r1 ⟨_, i1, rfl, rfl, pt, .nilIface, z0, d1, f1, rfl, rfl⟩
def f_row_Row_GoOn (sg : Sto) (p0 : Option Nat) (p1 : Bool) : Option (Sto) :=
 if (!p0.isNone) = true then
 (p0).bind fun b =>
 (sg.row_Row[b]?).bind fun c =>
 (sg.set_row_Row b (⟨c.cells, p1⟩ : G_row_Row)).bind fun a =>
 some a
 else
 some sg
theorem c_row_Row_GoOn (j : Own c0 G F) (g : Rel c0 sg G) (h : Option Nat) (a : Bool) {r : Sto} (s : Pt 0 c0 v1 h) (H : f_row_Row_GoOn sg h a = some r) :
    Calls prog 81 #[v1, B a] c0.w (Post c0 fun c v => ∃ G_ : Gm, Own c G_ (F) ∧ Rel c r G_ ∧ v = .tuple #[]) := by
 unfold f_row_Row_GoOn at H
 refine en func81 rfl rfl (sr (va (v1) (vr (B (!h.isNone)) (by rcases (s).cs with ⟨d, e⟩ | ⟨P, d, e⟩ <;> (subst d; rw [e]; kernel_rfl)) (wln (cn H (fun z H => ?_) (fun z H => ?_))))))
 ·refine W.region (va (v1) (va (B a) (bn H fun N A H => ?_)))
  obtain ⟨b, rfl, t⟩ := (s).get A
  refine va (Q b) (va (.pointer (some ⟨b, 1, none⟩)) (bn H fun u D H => ?_))
  obtain ⟨v8, y, p, o⟩ := Rel.open_row_Row g D t
  refine md (gC 4 1 (B a) [v8, B a] 0 j p ⟨rfl, trivial⟩) ?_
  rintro n f k
  refine bn H fun x q H => ?_
  obtain ⟨i, l, m, M, E⟩ := Rel.put_row_Row k (g.mono f) (E' := [(Eb b 188 [v8, B a]), es true R_api_Cell v8 101 y u.cells]) q ⟨b, v8, y, (tm t), rfl, (o.mono f)⟩
  refine WL.nil ?_
  obtain rfl := si H
  exact n0 ⟨_, n, rfl, rfl, pt, i, l, m, rfl⟩
 refine W.skip ?_
 obtain rfl := si H
 exact n0 ⟨_, c0, rfl, rfl, pt, G, j, g, rfl⟩
def f_row_Row_Wrap (sg : Sto) (p0 : Option Nat) : Option (Bool) :=
 (andE (!p0.isNone) ((p0).bind fun c =>
 (sg.row_Row[c]?).bind fun a =>
 some a.wrap)).bind fun b =>
 some b
theorem c_row_Row_Wrap (h : Own c0 G F) (q : Rel c0 sg G) (e : Option Nat) {r : Bool} (o : Pt 0 c0 v1 e) (H : f_row_Row_Wrap sg e = some r) :
    Calls prog 73 #[v1] c0.w (Post c0 fun c v => Own c G (F) ∧ v = B r) := by
 unfold f_row_Row_Wrap at H
 refine en func73 rfl rfl (sr (va (B false) (wln (W.seq (bn H fun m p H => W.join (Jn c0 fun c l => Own c G (F) ∧ l = [(2, B m)]) ?_ ?_)))))
 ·clear H
  refine W.region (va (v1) (vr (B (!e.isNone)) (by rcases (o).cs with ⟨f, g⟩ | ⟨E, f, g⟩ <;> (subst f; rw [g]; kernel_rfl)) ?_))
  rcases bo (!e.isNone) with b | b
  ·have a := anT b p
   refine vb b (wn (va (v1) (wn (bn a fun z t a => ?_))))
   obtain ⟨j, rfl, s⟩ := (o).get t
   refine va (Q j) (wn (va (.pointer (some ⟨j, 1, none⟩)) (wn (bn a fun d u a => ?_))))
   obtain ⟨v10, D, n, y⟩ := Rel.open_row_Row q u s
   refine vx (le1 1 underlying4 (h.gon n 0 rfl)) ?_
   obtain rfl := si a
   exact va (B d.wrap) (va (B d.wrap) (wln ⟨c0, _, _, rfl, pt, us, h, rfl⟩))
  obtain rfl := anF b p
  exact vb b (ps (ps (ps (ps (va (B false) (va (B false) (wln ⟨c0, _, _, rfl, pt, us, h, rfl⟩)))))))
 rintro M N ⟨k, x, _, rfl, A, rfl, i, rfl⟩
 refine nrm (W.ret ?_)
 obtain rfl := si H
 exact r1 ⟨_, k, rfl, rfl, pt, i, rfl⟩
def f_linotyperef24_Paint (p0 : List G_api_Cell) (p1 : Bool) (p2 : Int) (p3 : List G_api_Cell) : Option ((List G_api_Cell) × Bool) :=
 (iter (σ := Bool × (List G_api_Cell) × Int) (τ := (Bool × (List G_api_Cell))) (((p0.length : Int) - 0).toNat + 1) (fun a =>
 if (decide (a.2.2 < (p0.length : Int))) = true then
 (andE (decide (a.2.2 ≥ p2)) (some (decide (a.2.2 < (w64 (p2 + (p3.length : Int))))))).bind fun c =>
 (idx p0 a.2.2).bind fun e =>
 (if c = true then
 (idx p3 (w64 (a.2.2 - p2))).bind fun f =>
 some (f.Kind, f.Text)
 else
 some (e.Kind, e.Text)).bind fun b =>
 (andE (!c) ((andE (b.1 == 2) (some (decide ((w64 (a.2.2 + 1)) ≥ p2)))).bind fun l =>
 (andE l (some (decide ((w64 (a.2.2 + 1)) < (w64 (p2 + (p3.length : Int))))))).bind fun m =>
 (orE m ((andE (b.1 == 3) (some (decide ((w64 (a.2.2 - 1)) ≥ p2)))).bind fun o =>
 (andE o (some (decide ((w64 (a.2.2 - 1)) < (w64 (p2 + (p3.length : Int))))))).bind fun p =>
 some p)).bind fun n =>
 some n)).bind fun d =>
 (if d = true then
 some (0, ([] : List Int))
 else
 some (b.1, b.2)).bind fun g =>
 ((andE ((w64 (a.2.2 + 1)) == (p0.length : Int)) ((orE c (some d)).bind fun i =>
 some i)).bind fun h =>
 if h = true then
 some (false)
 else
 some (a.1)).bind fun q =>
 (app a.2.1 ([(⟨g.1, g.2⟩ : G_api_Cell)] : List G_api_Cell)).bind fun j =>
 some (.inl (q, j, (w64 (a.2.2 + 1))))
 else
 some (.inr (a.1, a.2.1))) (p1, ([] : List G_api_Cell), 0)).bind fun k =>
 some (k.2, k.1)
set_option maxHeartbeats 4000000 in
theorem c_linotyperef24_Paint (O0 : Own c0 G F) (p0 : List G_api_Cell) (p1 : Bool) (b : Int) (f : List G_api_Cell) {r : (List G_api_Cell) × Bool} (h2 : Sl R_api_Cell c0 v1 p0) (h4 : Sl R_api_Cell c0 v3 f) (H : f_linotyperef24_Paint p0 p1 b f = some r) :
    Calls prog 205 #[v1, B p1, I b, v3] c0.w (Post c0 fun c v => ∃ y1 y2, Own c G (es true R_api_Cell y1 101 y2 r.1 :: F) ∧ v = .tuple #[y1, B r.2] ∧ OA R_api_Cell c y1 y2 r.1) := by
 unfold f_linotyperef24_Paint at H
 refine en func205 rfl rfl (sr (va (Y) (va (B false) (wln (sr (va (Y) (wln (W.seq (sr (va (I 0) (wln (W.block (bn H fun a3 h5 H6 => lp h5 (fun a => Jn c0 fun c l => ∃ v7 P, Own c G (es true R_api_Cell v7 101 P a.2.1 :: F) ∧ l = [(0, v1), (1, B a.1), (2, I b), (3, v3), (10, v7), (11, I a.2.2)] ∧ OA R_api_Cell c v7 P a.2.1) (fun j0 ex e w => ex = .exit 0 ∧ (Jn c0 fun c l => ∃ v9 o0, Own c G (es true R_api_Cell v9 101 o0 j0.2 :: F) ∧ l = [(1, B j0.1), (10, v9)] ∧ OA R_api_Cell c v9 o0 j0.2) e w) ?_ ?_ ?_)))))))))))))
 ·clear H6 h5
  intro a u6 w4 n5 H
  revert w4 n5
  rintro e_ w_ ⟨m0, p6, _, rfl, w2, rfl, v7, P, s0, rfl, c2⟩
  refine W.seq (sr (va (I a.2.2) (va (v1) (vx (ln 3 underlying69 h2.m) (va (B (decide (a.2.2 < (p0.length : Int)))) (wln (cn H (fun x4 H => ?_) (fun x4 H => ?_))))))))
  ·refine W.skip (nrm (W.seq (W.block (W.seq (bn H fun j d2 H => W.join (Jn m0 fun c l => Own c G (es true R_api_Cell v7 101 P a.2.1 :: F) ∧ l = [(0, v1), (1, B a.1), (2, I b), (3, v3), (10, v7), (11, I a.2.2), (12, B j)]) ?_ ?_)))))
   ·clear H
    refine W.region (va (I a.2.2) (va (I b) (va (B (decide (a.2.2 ≥ b))) ?_)))
    rcases bo (decide (a.2.2 ≥ b)) with S | S
    ·have k4 := anT S d2
     refine vb S (wn (va (I a.2.2) (wn (va (I b) (wn (va (v3) (wn (vx (ln 3 underlying69 h4.m) (wn (va (I (w64 (b + (f.length : Int)))) (wn (va (B (decide (a.2.2 < (w64 (b + (f.length : Int)))))) ?_))))))))))))
     obtain rfl := si k4
     exact va (B (decide (a.2.2 < (w64 (b + (f.length : Int)))))) (va (B (decide (a.2.2 < (w64 (b + (f.length : Int)))))) (wln ⟨m0, _, _, rfl, pt, us, s0, rfl⟩))
    obtain rfl := anF S d2
    exact vb S (ps (ps (ps (ps (ps (ps (va (B false) (va (B false) (wln ⟨m0, _, _, rfl, pt, us, s0, rfl⟩)))))))))
   rintro e_ w_ ⟨n6, q6, _, rfl, x2, rfl, s4, rfl⟩
   refine nrm (sr (va (v1) (va (I a.2.2) (bn H fun f4 e2 H => ?_))))
   obtain ⟨j6, y4, k5⟩ := Sl.at (h2.mono (w2.trans x2)) (idx_get e2)
   obtain ⟨v32, rfl, i1⟩ := y4
   refine vx (ix underlying69 h2.m e2) (vx (lN 101 k5) (me (al 101 [I 0, Y] s4) ?_))
   rintro v37 o6 z2 ⟨i, rfl, t4⟩
   obtain ⟨t1, u1, w1, rfl⟩ := ((i1.mono z2)).form
   refine md (sA 101 [I f4.Kind, .slice t1 u1 w1] 0 t4 ⟨rfl, i1.m.one, trivial⟩) ?_
   rintro b2 j5 s1
   refine wln (bn H fun h y l0 => W.seqJ (Jn b2 fun c l => ∃ v45, Own c G ((Eb i 101 [I h.1, v45]) :: es true R_api_Cell v7 101 P a.2.1 :: F) ∧ l = [(0, v1), (1, B a.1), (2, I b), (3, v3), (10, v7), (11, I a.2.2), (12, B j), (13, Q i)] ∧ Sl (RI .i32) c v45 h.2) ?_ ?_)
   ·refine sr (va (B j) (wln (cn y (fun z4 y => ?_) (fun z4 y => ?_))))
    ·refine W.region (va (v3) (va (I a.2.2) (va (I b) (va (I (w64 (a.2.2 - b))) (bn y fun g4 f2 y => ?_)))))
     obtain ⟨k6, a5, l5⟩ := Sl.at (h4.mono (w2.trans (x2.trans (z2.trans j5)))) (idx_get f2)
     obtain ⟨v51, rfl, j1⟩ := a5
     refine vx (ix underlying69 h4.m f2) (vx (lN 101 l5) ?_)
     obtain ⟨x1, z1, a2, rfl⟩ := (j1).form
     refine md (sA 101 [I g4.Kind, .slice x1 z1 a2] 0 s1 ⟨rfl, j1.one, trivial⟩) ?_
     rintro v4 s6 u4
     refine wln ?_
     obtain rfl := si y
     exact ⟨v4, _, _, rfl, pt, us, (.slice x1 z1 a2), u4, rfl, j1.m⟩
    refine W.skip (nrm ?_)
    obtain rfl := si y
    exact ⟨b2, _, _, rfl, pt, us, (.slice t1 u1 w1), s1, rfl, i1.m⟩
   rintro e_ w_ ⟨n, r6, _, rfl, t6, rfl, v45, g, rfl, c5⟩
   refine W.seq (bn l0 fun t g2 l0 => W.join (Jn n fun c l => Own c G ((Eb i 101 [I h.1, v45]) :: es true R_api_Cell v7 101 P a.2.1 :: F) ∧ l = [(0, v1), (1, B a.1), (2, I b), (3, v3), (10, v7), (11, I a.2.2), (12, B j), (13, Q i), (14, B t)]) ?_ ?_)
   ·clear l0
    refine W.region (va (B j) (va (B (!j)) ?_))
    rcases bo (!j) with T | T
    ·have d := anT T g2
     refine vb T (wn (va (Q i) (wn (vx (le1 0 underlying3 (g.on 0 rfl)) (wn (va (B (h.1 == 2)) (wn (bn d fun v5 i2 d => ?_))))))))
     rcases bo (h.1 == 2) with U | U
     ·have m4 := anT U i2
      refine vb U (wn (va (I a.2.2) (wn (va (I (w64 (a.2.2 + 1))) (wn (va (I b) (wn (va (B (decide ((w64 (a.2.2 + 1)) ≥ b))) (wn ?_)))))))))
      obtain rfl := si m4
      refine va (B (decide ((w64 (a.2.2 + 1)) ≥ b))) (wn (bn d fun q3 j2 d => ?_))
      rcases bo (decide ((w64 (a.2.2 + 1)) ≥ b)) with X | X
      ·have n4 := anT X j2
       refine vb X (wn (va (I a.2.2) (wn (va (I (w64 (a.2.2 + 1))) (wn (va (I b) (wn (va (v3) (wn (vx (ln 3 underlying69 h4.m) (wn (va (I (w64 (b + (f.length : Int)))) (wn (va (B (decide ((w64 (a.2.2 + 1)) < (w64 (b + (f.length : Int)))))) (wn ?_)))))))))))))))
       obtain rfl := si n4
       refine va (B (decide ((w64 (a.2.2 + 1)) < (w64 (b + (f.length : Int)))))) (wn (bn d fun a1 k2 d => ?_))
       rcases bo (decide ((w64 (a.2.2 + 1)) < (w64 (b + (f.length : Int))))) with Z | Z
       ·obtain rfl := orT Z k2
        refine vb Z (ps (ps (ps (ps (ps (ps (ps (ps (ps (ps (ps (ps (ps (ps (ps (ps (ps (ps (wn (va (B true) ?_))))))))))))))))))))
        obtain rfl := si d
        exact va (B true) (va (B true) (wln ⟨n, _, _, rfl, pt, us, g, rfl⟩))
       have q := orF Z k2
       refine vb Z (wn (va (Q i) (wn (vx (le1 0 underlying3 (g.on 0 rfl)) (wn (va (B (h.1 == 3)) (wn (bn q fun b1 l2 q => ?_))))))))
       rcases bo (h.1 == 3) with a0 | a0
       ·have o4 := anT a0 l2
        refine vb a0 (wn (va (I a.2.2) (wn (va (I (w64 (a.2.2 - 1))) (wn (va (I b) (wn (va (B (decide ((w64 (a.2.2 - 1)) ≥ b))) (wn ?_)))))))))
        obtain rfl := si o4
        refine va (B (decide ((w64 (a.2.2 - 1)) ≥ b))) (wn (bn q fun A m2 q => ?_))
        rcases bo (decide ((w64 (a.2.2 - 1)) ≥ b)) with b0 | b0
        ·have p4 := anT b0 m2
         refine vb b0 (wn (va (I a.2.2) (wn (va (I (w64 (a.2.2 - 1))) (wn (va (I b) (wn (va (v3) (wn (vx (ln 3 underlying69 h4.m) (wn (va (I (w64 (b + (f.length : Int)))) (wn (va (B (decide ((w64 (a.2.2 - 1)) < (w64 (b + (f.length : Int)))))) (wn ?_)))))))))))))))
         obtain rfl := si p4
         refine va (B (decide ((w64 (a.2.2 - 1)) < (w64 (b + (f.length : Int)))))) (wn ?_)
         obtain rfl := si q
         refine va (B (decide ((w64 (a.2.2 - 1)) < (w64 (b + (f.length : Int)))))) ?_
         obtain rfl := si d
         exact va (B (decide ((w64 (a.2.2 - 1)) < (w64 (b + (f.length : Int)))))) (va (B (decide ((w64 (a.2.2 - 1)) < (w64 (b + (f.length : Int)))))) (wln ⟨n, _, _, rfl, pt, us, g, rfl⟩))
        obtain rfl := anF b0 m2
        refine vb b0 (ps (ps (ps (ps (ps (ps (ps (wn (va (B false) (wn ?_))))))))))
        obtain rfl := si q
        refine va (B false) ?_
        obtain rfl := si d
        exact va (B false) (va (B false) (wln ⟨n, _, _, rfl, pt, us, g, rfl⟩))
       obtain rfl := anF a0 l2
       refine vb a0 (ps (ps (ps (ps (wn (va (B false) (wn (bn q fun A d5 q => ?_))))))))
       have n2 : false = false := rfl
       obtain rfl := anF n2 d5
       refine vb n2 (ps (ps (ps (ps (ps (ps (ps (wn (va (B false) (wn ?_))))))))))
       obtain rfl := si q
       refine va (B false) ?_
       obtain rfl := si d
       exact va (B false) (va (B false) (wln ⟨n, _, _, rfl, pt, us, g, rfl⟩))
      obtain rfl := anF X j2
      refine vb X (ps (ps (ps (ps (ps (ps (ps (wn (va (B false) (wn (bn d fun a1 e5 d => ?_)))))))))))
      have o2 : false = false := rfl
      have s := orF o2 e5
      refine vb o2 (wn (va (Q i) (wn (vx (le1 0 underlying3 (g.on 0 rfl)) (wn (va (B (h.1 == 3)) (wn (bn s fun b1 q2 s => ?_))))))))
      rcases bo (h.1 == 3) with d0 | d0
      ·have q4 := anT d0 q2
       refine vb d0 (wn (va (I a.2.2) (wn (va (I (w64 (a.2.2 - 1))) (wn (va (I b) (wn (va (B (decide ((w64 (a.2.2 - 1)) ≥ b))) (wn ?_)))))))))
       obtain rfl := si q4
       refine va (B (decide ((w64 (a.2.2 - 1)) ≥ b))) (wn (bn s fun A s2 s => ?_))
       rcases bo (decide ((w64 (a.2.2 - 1)) ≥ b)) with e0 | e0
       ·have r4 := anT e0 s2
        refine vb e0 (wn (va (I a.2.2) (wn (va (I (w64 (a.2.2 - 1))) (wn (va (I b) (wn (va (v3) (wn (vx (ln 3 underlying69 h4.m) (wn (va (I (w64 (b + (f.length : Int)))) (wn (va (B (decide ((w64 (a.2.2 - 1)) < (w64 (b + (f.length : Int)))))) (wn ?_)))))))))))))))
        obtain rfl := si r4
        refine va (B (decide ((w64 (a.2.2 - 1)) < (w64 (b + (f.length : Int)))))) (wn ?_)
        obtain rfl := si s
        refine va (B (decide ((w64 (a.2.2 - 1)) < (w64 (b + (f.length : Int)))))) ?_
        obtain rfl := si d
        exact va (B (decide ((w64 (a.2.2 - 1)) < (w64 (b + (f.length : Int)))))) (va (B (decide ((w64 (a.2.2 - 1)) < (w64 (b + (f.length : Int)))))) (wln ⟨n, _, _, rfl, pt, us, g, rfl⟩))
       obtain rfl := anF e0 s2
       refine vb e0 (ps (ps (ps (ps (ps (ps (ps (wn (va (B false) (wn ?_))))))))))
       obtain rfl := si s
       refine va (B false) ?_
       obtain rfl := si d
       exact va (B false) (va (B false) (wln ⟨n, _, _, rfl, pt, us, g, rfl⟩))
      obtain rfl := anF d0 q2
      refine vb d0 (ps (ps (ps (ps (wn (va (B false) (wn (bn s fun A f5 s => ?_))))))))
      have t2 : false = false := rfl
      obtain rfl := anF t2 f5
      refine vb t2 (ps (ps (ps (ps (ps (ps (ps (wn (va (B false) (wn ?_))))))))))
      obtain rfl := si s
      refine va (B false) ?_
      obtain rfl := si d
      exact va (B false) (va (B false) (wln ⟨n, _, _, rfl, pt, us, g, rfl⟩))
     obtain rfl := anF U i2
     refine vb U (ps (ps (ps (ps (wn (va (B false) (wn (bn d fun q3 g5 d => ?_))))))))
     have u2 : false = false := rfl
     obtain rfl := anF u2 g5
     refine vb u2 (ps (ps (ps (ps (ps (ps (ps (wn (va (B false) (wn (bn d fun a1 i5 d => ?_)))))))))))
     have v2 : false = false := rfl
     have k := orF v2 i5
     refine vb v2 (wn (va (Q i) (wn (vx (le1 0 underlying3 (g.on 0 rfl)) (wn (va (B (h.1 == 3)) (wn (bn k fun b1 c1 k => ?_))))))))
     rcases bo (h.1 == 3) with D | D
     ·have b3 := anT D c1
      refine vb D (wn (va (I a.2.2) (wn (va (I (w64 (a.2.2 - 1))) (wn (va (I b) (wn (va (B (decide ((w64 (a.2.2 - 1)) ≥ b))) (wn ?_)))))))))
      obtain rfl := si b3
      refine va (B (decide ((w64 (a.2.2 - 1)) ≥ b))) (wn (bn k fun A d1 k => ?_))
      rcases bo (decide ((w64 (a.2.2 - 1)) ≥ b)) with E | E
      ·have c3 := anT E d1
       refine vb E (wn (va (I a.2.2) (wn (va (I (w64 (a.2.2 - 1))) (wn (va (I b) (wn (va (v3) (wn (vx (ln 3 underlying69 h4.m) (wn (va (I (w64 (b + (f.length : Int)))) (wn (va (B (decide ((w64 (a.2.2 - 1)) < (w64 (b + (f.length : Int)))))) (wn ?_)))))))))))))))
       obtain rfl := si c3
       refine va (B (decide ((w64 (a.2.2 - 1)) < (w64 (b + (f.length : Int)))))) (wn ?_)
       obtain rfl := si k
       refine va (B (decide ((w64 (a.2.2 - 1)) < (w64 (b + (f.length : Int)))))) ?_
       obtain rfl := si d
       exact va (B (decide ((w64 (a.2.2 - 1)) < (w64 (b + (f.length : Int)))))) (va (B (decide ((w64 (a.2.2 - 1)) < (w64 (b + (f.length : Int)))))) (wln ⟨n, _, _, rfl, pt, us, g, rfl⟩))
      obtain rfl := anF E d1
      refine vb E (ps (ps (ps (ps (ps (ps (ps (wn (va (B false) (wn ?_))))))))))
      obtain rfl := si k
      refine va (B false) ?_
      obtain rfl := si d
      exact va (B false) (va (B false) (wln ⟨n, _, _, rfl, pt, us, g, rfl⟩))
     obtain rfl := anF D c1
     refine vb D (ps (ps (ps (ps (wn (va (B false) (wn (bn k fun A s3 k => ?_))))))))
     have e1 : false = false := rfl
     obtain rfl := anF e1 s3
     refine vb e1 (ps (ps (ps (ps (ps (ps (ps (wn (va (B false) (wn ?_))))))))))
     obtain rfl := si k
     refine va (B false) ?_
     obtain rfl := si d
     exact va (B false) (va (B false) (wln ⟨n, _, _, rfl, pt, us, g, rfl⟩))
    obtain rfl := anF T g2
    exact vb T (ps (ps (ps (ps (ps (ps (ps (ps (ps (ps (ps (ps (ps (ps (ps (ps (ps (ps (ps (ps (ps (ps (ps (ps (ps (ps (ps (ps (ps (ps (ps (ps (ps (ps (ps (ps (ps (ps (va (B false) (va (B false) (wln ⟨n, _, _, rfl, pt, us, g, rfl⟩)))))))))))))))))))))))))))))))))))))))))
   rintro e_ w_ ⟨y0, w5, _, rfl, b6, rfl, q0, rfl⟩
   refine nrm (bn l0 fun p x d3 => W.seqJ (Jn y0 fun c l => ∃ u, Own c G ((Eb i 101 [I p.1, u]) :: es true R_api_Cell v7 101 P a.2.1 :: F) ∧ l = [(0, v1), (1, B a.1), (2, I b), (3, v3), (10, v7), (11, I a.2.2), (12, B j), (13, Q i), (14, B t)] ∧ Sl (RI .i32) c u p.2) ?_ ?_)
   ·refine sr (va (B t) (wln (cn x (fun t3 x => ?_) (fun t3 x => ?_))))
    ·refine W.region (va (.agg #[I 0, Y]) (md (sA 101 [I 0, Y] 0 q0 ⟨rfl, rfl, trivial⟩) ?_))
     rintro m3 c6 f3
     refine wln ?_
     obtain rfl := si x
     exact ⟨m3, _, _, rfl, pt, us, (Y), f3, rfl, (Sl.nl _ _)⟩
    refine W.skip (nrm ?_)
    obtain rfl := si x
    exact ⟨y0, _, _, rfl, pt, us, v45, q0, rfl, c5.m⟩
   rintro e_ w_ ⟨z, x5, _, rfl, d6, rfl, u, g0, rfl, f1⟩
   refine bn d3 fun j4 o f0 => W.seqJ (Jn z fun c l => Own c G ((Eb i 101 [I p.1, u]) :: es true R_api_Cell v7 101 P a.2.1 :: F) ∧ l = [(0, v1), (1, B j4), (2, I b), (3, v3), (10, v7), (11, I a.2.2), (13, Q i)]) ?_ ?_
   ·refine W.seq (bn o fun n1 g1 o => W.join (Jn z fun c l => Own c G ((Eb i 101 [I p.1, u]) :: es true R_api_Cell v7 101 P a.2.1 :: F) ∧ l = [(0, v1), (1, B a.1), (2, I b), (3, v3), (10, v7), (11, I a.2.2), (13, Q i), (97, B n1)]) ?_ ?_)
    ·clear o
     refine W.region (va (I a.2.2) (va (I (w64 (a.2.2 + 1))) (va (v1) (vx (ln 3 underlying69 h2.m) (va (B ((w64 (a.2.2 + 1)) == (p0.length : Int))) ?_)))))
     rcases bo ((w64 (a.2.2 + 1)) == (p0.length : Int)) with M | M
     ·have R := anT M g1
      refine vb M (wn (va (B j) (wn (bn R fun p5 h1 R => ?_))))
      rcases bo (j) with N | N
      ·obtain rfl := orT N h1
       refine vb N (ps (wn (va (B true) ?_)))
       obtain rfl := si R
       exact va (B true) (wln ⟨z, _, _, rfl, pt, us, g0, rfl⟩)
      have e3 := orF N h1
      refine vb N (wn (va (B t) (wn ?_)))
      obtain rfl := si e3
      refine va (B t) ?_
      obtain rfl := si R
      exact va (B t) (wln ⟨z, _, _, rfl, pt, us, g0, rfl⟩)
     obtain rfl := anF M g1
     exact vb M (ps (ps (ps (ps (va (B false) (wln ⟨z, _, _, rfl, pt, us, g0, rfl⟩))))))
    rintro e_ w_ ⟨z0, y5, _, rfl, e6, rfl, t0, rfl⟩
    refine nrm (cn o (fun u3 o => ?_) (fun u3 o => ?_))
    ·refine W.region (va (B false) (wln ?_))
     obtain rfl := si o
     exact ⟨z0, _, _, rfl, pt, us, t0, rfl⟩
    refine W.skip (nrm ?_)
    obtain rfl := si o
    exact ⟨z0, _, _, rfl, pt, us, t0, rfl⟩
   rintro e_ w_ ⟨s5, z5, _, rfl, d4, rfl, u0, rfl⟩
   refine W.region (va (v7) (vx (leN 101 0 [I p.1, u] (u0.on 0 rfl)) ?_))
   obtain ⟨v0, w0, x0, rfl⟩ := ((f1.mono d4)).form
   refine me (sl R_api_Cell 101 [[I p.1, .slice v0 w0 x0]] ([(⟨p.1, p.2⟩ : G_api_Cell)] : List G_api_Cell) u0 ⟨⟨(.slice v0 w0 x0), rfl, f1.m⟩, trivial⟩) ?_
   rintro m6 t5 f6 ⟨l6, g3, w3⟩
   obtain ⟨u5, y3, g6, h3, x3⟩ := g3.frz 0 rfl w3
   refine WL.gh y3 (bn f0 fun q5 z3 f0 => me (ap R_api_Cell (.agg #[I 0, Y]) 32 69 2 h3 c2.m x3 z3 underlying69) ?_)
   rintro m1 n3 h6 ⟨e4, i3, a4⟩
   refine va (m1) (WL.nil (bkn (nrm (W.region (va (I a.2.2) (va (I (w64 (a.2.2 + 1))) (va (I (w64 (a.2.2 + 1))) (WL.nil ?_))))))))
   obtain rfl := si f0
   refine ⟨_, rfl, ?_⟩
   have j3 := i3.sD 3 [2]
   exact ⟨n3, _, _, rfl, pt, us, m1, e4, j3, rfl, a4⟩
  refine W.exit (thx ?_)
  obtain rfl := si H
  exact ⟨_, rfl, rfl, ⟨m0, _, _, rfl, pt, us, v7, P, s0, rfl, c2⟩⟩
 ·have b4 : OA R_api_Cell c0 (Y) [] [] := OA.nil (Nat.succ_pos _)
  have k3 := O0.addHole (e := es true R_api_Cell (Y) 101 [] ([] : List G_api_Cell)) rfl
  exact ⟨c0, _, _, rfl, pt, us, (Y), [], k3, rfl, b4⟩
 rintro _ e_ w_ ⟨rfl, o3, a6, _, rfl, i6, rfl, v9, o0, l3, rfl, c4⟩
 refine bke (nrm (sr (va (v9) (va (B a3.1) (va (v9) (va (B a3.1) (wln (W.ret ?_))))))))
 obtain rfl := si H6
 exact r2 ⟨_, o3, rfl, rfl, pt, v9, o0, l3, rfl, c4⟩
end Go.Proofs.YthokmpbbkpjhbaaGreatDoor
namespace Go.Proofs.YthokmpbbkpjhbaaGreatDoor
open Go Go.Lt
set_option maxRecDepth 10000
set_option linter.unusedVariables false
attribute [local irreducible] W WL AC
open Tryz
variable {c0 : Cx} {G : Gm} {F : List En} {sg : Sto} {v1 v2 v3 v4 v5 v6 v7 v8 v9 v10 v11 v12 v13 v14 v15 v16 v17 v18 v19 v20 v21 v22 v23 v24 v25 v26 v27 v28 v29 v30 v31 v32 v33 v34 v35 v36 v37 v38 v39 v40 v41 v42 v43 v44 v45 v46 v47 v48 v49 v50 v51 v52 v53 v54 v55 v56 v57 v58 v59 v60 : Value}
def f_grid_Grid_High (sg : Sto) (p0 : Option Nat) : Option (Int) :=
 if p0.isNone = true then
 some 0
 else
 (p0).bind fun b =>
 (sg.grid_Grid[b]?).bind fun a =>
 some (a.rows.length : Int)
theorem c_grid_Grid_High (d : Own c0 G F) (k : Rel c0 sg G) (f : Option Nat) {r : Int} (j : Pt 1 c0 v1 f) (H : f_grid_Grid_High sg f = some r) :
    Calls prog 34 #[v1] c0.w (Post c0 fun c v => Own c G (F) ∧ v = I r) := by
 unfold f_grid_Grid_High at H
 refine en func34 rfl rfl (sr (va (I 0) (wln (W.seq (sr (va (v1) (vr (B f.isNone) (by rcases (j).cs with ⟨a, b⟩ | ⟨q, a, b⟩ <;> (subst a; rw [b]; kernel_rfl)) (wln (cn H (fun l H => ?_) (fun l H => ?_))))))))))
 ·refine sr (va (I 0) (wln (W.ret (thr ?_))))
  obtain rfl := si H
  exact r1 ⟨_, c0, rfl, rfl, pt, d, rfl⟩
 refine W.skip (nrm (sr (va (v1) (bn H fun p n H => ?_))))
 obtain ⟨g, rfl, m⟩ := (j).get n
 refine va (Q g) (va (Q g) (bn H fun e o H => ?_))
 obtain ⟨v8, s, i, h⟩ := Rel.open_grid_Grid k o m
 refine vx (le1 0 underlying120 (d.gon i 0 rfl)) (vx (lnO 3 underlying120 h) (va (I (e.rows.length : Int)) (wln (W.ret ?_))))
 obtain rfl := si H
 exact r1 ⟨_, c0, rfl, rfl, pt, d, rfl⟩
def f_scroll_of (sg : Sto) (p0 : Option Nat) (p1 : Int) (p2 : Int) (p3 : Int) : Option (G_scroll_stretch × Bool) :=
 (f_grid_Grid_High sg p0).bind fun b =>
 (f_grid_Grid_High sg p0).bind fun a =>
 (andE (decide ((imax 0 (imin p1 b)) < (imax 0 (imin p2 a)))) (some (decide (p3 > 0)))).bind fun c =>
 some ((⟨(imax 0 (imin p1 b)), (imax 0 (imin p2 a)), (imin p3 (w64 ((imax 0 (imin p2 a)) - (imax 0 (imin p1 b)))))⟩ : G_scroll_stretch), c)
theorem c_scroll_of (S : Own c0 G F) (z : Rel c0 sg G) (j : Option Nat) (d : Int) (e : Int) (f : Int) {r : G_scroll_stretch × Bool} (R : Pt 1 c0 v1 j) (H : f_scroll_of sg j d e f = some r) :
    Calls prog 207 #[v1, I d, I e, I f] c0.w (Post c0 fun c v => Own c G (F) ∧ v = .tuple #[.agg #[I r.1.from_, I r.1.to_, I r.1.n], B r.2]) := by
 unfold f_scroll_of at H
 refine en func207 rfl rfl (sr (me (al 261 [I 0, I 0, I 0] S) ?_))
 rintro v6 c5 l5 ⟨D, rfl, T⟩
 refine va (B false) (wln (sr (va (I d) (va (v1) (bn H fun b X H => cl (c_grid_Grid_High T z.m j R.m X) ?_)))))
 rintro v13 Z e0 ⟨U, rfl⟩
 refine va (I (imin d b)) (va (I (imax 0 (imin d b))) (va (I e) (va (v1) (bn H fun a P H => cl (c_grid_Grid_High U z.m j R.m P) ?_))))
 rintro v20 a0 f0 ⟨s, rfl⟩
 refine va (I (imin e a)) (va (I (imax 0 (imin e a))) (va (I (imax 0 (imin d b))) (va (I (imax 0 (imin e a))) (wln (sr (va (I (imax 0 (imin d b))) (va (I (imax 0 (imin e a))) (va (I f) (va (I (imax 0 (imin e a))) (va (I (imax 0 (imin d b))) (va (I (w64 ((imax 0 (imin e a)) - (imax 0 (imin d b))))) (va (I (imin f (w64 ((imax 0 (imin e a)) - (imax 0 (imin d b)))))) (va (.agg #[I (imax 0 (imin d b)), I (imax 0 (imin e a)), I (imin f (w64 ((imax 0 (imin e a)) - (imax 0 (imin d b)))))]) (me (al 261 [I 0, I 0, I 0] s) ?_))))))))))))))
 rintro v24 b0 g0 ⟨A, rfl, t⟩
 refine md (sA 261 [I (imax 0 (imin d b)), I (imax 0 (imin e a)), I (imin f (w64 ((imax 0 (imin e a)) - (imax 0 (imin d b)))))] 0 t ⟨rfl, rfl, rfl, trivial⟩) ?_
 rintro E h0 h
 refine wln (W.seq (bn H fun i p H => W.join (Jn E fun c l => Own c G ((Eb A 261 [I (imax 0 (imin d b)), I (imax 0 (imin e a)), I (imin f (w64 ((imax 0 (imin e a)) - (imax 0 (imin d b)))))]) :: (Eb D 261 [I (imax 0 (imin d b)), I (imax 0 (imin e a)), I (imin f (w64 ((imax 0 (imin e a)) - (imax 0 (imin d b)))))]) :: F) ∧ l = [(8, Q D), (9, B i)]) ?_ ?_))
 ·clear H
  refine W.region (vx (leN 261 0 [I (imax 0 (imin d b)), I (imax 0 (imin e a)), I (imin f (w64 ((imax 0 (imin e a)) - (imax 0 (imin d b)))))] (h.on 0 rfl)) (va (I (imax 0 (imin d b))) (va (I (imax 0 (imin e a))) (va (B (decide ((imax 0 (imin d b)) < (imax 0 (imin e a))))) ?_))))
  rcases bo (decide ((imax 0 (imin d b)) < (imax 0 (imin e a)))) with g | g
  ·have q := anT g p
   refine vb g (wn (va (I f) (wn (va (B (decide (f > 0))) ?_))))
   obtain rfl := si q
   refine va (B (decide (f > 0))) (md (sA 261 [I (imax 0 (imin d b)), I (imax 0 (imin e a)), I (imin f (w64 ((imax 0 (imin e a)) - (imax 0 (imin d b)))))] 1 h ⟨rfl, rfl, rfl, trivial⟩) ?_)
   rintro M i0 u
   exact va (B (decide (f > 0))) (wln ⟨M, _, _, rfl, pt, us, u, rfl⟩)
  obtain rfl := anF g p
  refine vb g (ps (ps (va (B false) (md (sA 261 [I (imax 0 (imin d b)), I (imax 0 (imin e a)), I (imin f (w64 ((imax 0 (imin e a)) - (imax 0 (imin d b)))))] 1 h ⟨rfl, rfl, rfl, trivial⟩) ?_))))
  rintro N j0 x
  exact va (B false) (wln ⟨N, _, _, rfl, pt, us, x, rfl⟩)
 rintro e_ w_ ⟨o, d0, _, rfl, k0, rfl, k, rfl⟩
 refine nrm (W.ret ?_)
 obtain rfl := si H
 have y := k.sD 2 []
 exact retCT (c := o) (vs := [I (imax 0 (imin d b)), I (imax 0 (imin e a)), I (imin f (w64 ((imax 0 (imin e a)) - (imax 0 (imin d b)))))]) (v := B i) rfl (by kernel_rfl) (by kernel_rfl) (by kernel_rfl) (by kernel_rfl) (k.on 1 rfl _ rfl).1 ⟨_, o, rfl, rfl, pt, y, rfl⟩
def f_grid_Grid_Row (sg : Sto) (p0 : Option Nat) (p1 : Int) : Option (Option Nat) :=
 (orE (decide (p1 < 0)) ((f_grid_Grid_High sg p0).bind fun e =>
 some (decide (p1 ≥ e)))).bind fun d =>
 if d = true then
 some (none : Option Nat)
 else
 (p0).bind fun a =>
 (sg.grid_Grid[a]?).bind fun b =>
 (idx b.rows p1).bind fun c =>
 some c
theorem c_grid_Grid_Row (p : Own c0 G F) (q : Rel c0 sg G) (o : Option Nat) (a : Int) {r : Option Nat} (x : Pt 1 c0 v1 o) (H : f_grid_Grid_Row sg o a = some r) :
    Calls prog 72 #[v1, I a] c0.w (Post c0 fun c v => ∃ P, Own c G (F) ∧ v = P ∧ Pt 0 c P r) := by
 unfold f_grid_Grid_Row at H
 refine en func72 rfl rfl (sr (va (.pointer none) (wln (W.seq (W.seq (bn H fun t D H => W.join (Jn c0 fun c l => Own c G (F) ∧ l = [(0, v1), (1, I a), (12, B t)]) ?_ ?_))))))
 ·clear H
  refine W.region (va (I a) (va (B (decide (a < 0))) ?_))
  rcases bo (decide (a < 0)) with f | f
  ·obtain rfl := orT f D
   exact vb f (ps (ps (ps (ps (va (B true) (wln ⟨c0, _, _, rfl, pt, us, p, rfl⟩))))))
  have n := orF f D
  refine vb f (wn (va (I a) (wn (va (v1) (wn (bn n fun m S n => cl (c_grid_Grid_High p q o x S) ?_))))))
  rintro v12 s b0 ⟨R, rfl⟩
  refine wn (va (B (decide (a ≥ m))) ?_)
  obtain rfl := si n
  exact va (B (decide (a ≥ m))) (wln ⟨s, _, _, rfl, pt, us, R, rfl⟩)
 rintro e_ w_ ⟨h, a0, _, rfl, k, rfl, b, rfl⟩
 refine nrm (cn H (fun u H => ?_) (fun u H => ?_))
 ·refine sr (va (.pointer none) (wln (W.ret (thr ?_))))
  obtain rfl := si H
  exact r1 ⟨_, h, rfl, rfl, pt, (.pointer none), b, rfl, rfl⟩
 refine W.skip (nrm (sr (va (v1) (bn H fun T z H => ?_))))
 obtain ⟨g, rfl, y⟩ := ((x.mono k)).get z
 refine va (Q g) (va (Q g) (bn H fun X A H => ?_))
 obtain ⟨v24, d0, i, d⟩ := Rel.open_grid_Grid (q.mono k) A y
 refine vx (le1 0 underlying120 (b.gon i 0 rfl)) (va (I a) (bn H fun Z e H => vx (ixO underlying120 d e) ?_))
 obtain ⟨U, E, N⟩ := OA.at d e
 obtain ⟨v32, rfl, M⟩ := E
 refine vr v32 (rx (by kernel_rfl) (ldE1 underlying116 rfl (b.gon i 1 rfl) (d.blk e) (at1 (j := 0) N rfl))) (va (v32) (wln (W.ret ?_)))
 obtain rfl := si H
 exact r1 ⟨_, h, rfl, rfl, pt, v32, b, rfl, M⟩
def f_grid_Grid_Set (sg : Sto) (p0 : Option Nat) (p1 : Int) (p2 : Option Nat) : Option (Sto × Bool) :=
 (orE p2.isNone ((f_grid_Grid_Row sg p0 p1).bind fun h =>
 (f_row_Row_Wide sg h).bind fun e =>
 (f_row_Row_Wide sg p2).bind fun f =>
 some (e != f))).bind fun g =>
 if g = true then
 some (sg, false)
 else
 (p0).bind fun b =>
 (sg.grid_Grid[b]?).bind fun c =>
 (idx c.rows p1).bind fun i =>
 (sets c.rows p1 p2).bind fun d =>
 (sg.set_grid_Grid b (⟨d⟩ : G_grid_Grid)).bind fun a =>
 some (a, true)
theorem c_grid_Grid_Set (M : Own c0 G F) (e : Rel c0 sg G) (z : Option Nat) (f : Int) (g : Option Nat) {r : Sto × Bool} (h2 : Pt 1 c0 v1 z) (j : Pt 0 c0 v3 g) (H : f_grid_Grid_Set sg z f g = some r) :
    Calls prog 189 #[v1, I f, v3] c0.w (Post c0 fun c v => ∃ G_ : Gm, Own c G_ (F) ∧ Rel c r.1 G_ ∧ v = B r.2) := by
 unfold f_grid_Grid_Set at H
 refine en func189 rfl rfl (sr (va (B false) (wln (W.seq (W.seq (bn H fun g0 h5 H => W.join (Jn c0 fun c l => Own c G (F) ∧ l = [(0, v1), (1, I f), (2, v3), (17, B g0)]) ?_ ?_))))))
 ·clear H
  refine W.region (va (v3) (vr (B g.isNone) (by rcases (j).cs with ⟨p, q⟩ | ⟨b_, p, q⟩ <;> (subst p; rw [q]; kernel_rfl)) ?_))
  rcases bo (g.isNone) with k | k
  ·obtain rfl := orT k h5
   exact vb k (ps (ps (ps (ps (ps (ps (ps (va (B true) (wln ⟨c0, _, _, rfl, pt, us, M, rfl⟩)))))))))
  have a := orF k h5
  refine vb k (wn (va (v1) (wn (va (I f) (wn (bn a fun x0 h8 a => cl (c_grid_Grid_Row M e z f h2 h8) ?_))))))
  rintro v9 d1 h1 ⟨_, N, rfl, h0⟩
  refine wn (bn a fun n i0 a => cl (c_row_Row_Wide N e.m x0 h0 i0) ?_)
  rintro v23 e1 i1 ⟨P, rfl⟩
  refine wn (va (v3) (wn (bn a fun o k0 a => cl (c_row_Row_Wide P e.m g j.m k0) ?_)))
  rintro v30 d0 j1 ⟨S, rfl⟩
  refine wn (va (B (n != o)) ?_)
  obtain rfl := si a
  exact va (B (n != o)) (wln ⟨d0, _, _, rfl, pt, us, S, rfl⟩)
 rintro e_ w_ ⟨e0, f1, _, rfl, d, rfl, h, rfl⟩
 refine nrm (cn H (fun l0 H => ?_) (fun l0 H => ?_))
 ·refine sr (va (B false) (wln (W.ret (thr ?_))))
  obtain rfl := si H
  exact r1 ⟨_, e0, rfl, rfl, pt, G, h, e.m, rfl⟩
 refine W.skip (nrm (sr (va (v1) (bn H fun z0 m0 H => ?_))))
 obtain ⟨b, rfl, s⟩ := ((h2.mono d)).get m0
 refine va (Q b) (va (Q b) (bn H fun a1 o0 H => ?_))
 obtain ⟨v42, k1, x, t⟩ := Rel.open_grid_Grid (e.mono d) o0 s
 refine vx (le1 0 underlying120 (h.gon x 0 rfl)) (va (I f) (va (v3) (bn H fun b1 q0 H => vx (ixO underlying120 t q0) ?_)))
 obtain ⟨i, rfl⟩ := ((j.mono d)).form
 have U := h.borrow 1 x rfl
 refine bn H fun A s0 H => md (Own.stW (R := (RP 0)) (T := 116) (us := [.pointer i]) (x' := g) (u := .pointer i) 0 U (by kernel_rfl) rfl t s0 rfl (by kernel_rfl) ⟨j.m.one, trivial⟩ rfl ⟨(.pointer i), rfl, j.m⟩) ?_
 rintro f0 w0 ⟨y, X, u0⟩
 have Z := X.giveB 1 rfl
 refine bn H fun D v0 H => ?_
 obtain ⟨E, a0, b0, g1, c1⟩ := Rel.put_grid_Grid Z (e.mono (d.trans w0)) (E' := [(Eb b 122 [v42]), es true (RP 0) v42 116 y A]) v0 ⟨b, v42, y, (tm s), rfl, u0⟩
 refine wln (sr (va (B true) (wln (W.ret ?_))))
 obtain rfl := si H
 exact r1 ⟨_, f0, rfl, rfl, pt, E, a0, b0, rfl⟩
def f_scroll_stretch_lay (sg : Sto) (p0 : G_scroll_stretch) (p1 : Option Nat) (p2 : List (Option Nat)) : Option (Sto) :=
 (iter (σ := Int × Sto) (τ := Sto) (((p2.length : Int) - 0).toNat + 1) (fun a =>
 if (decide (a.1 < (p2.length : Int))) = true then
 (idx p2 a.1).bind fun c =>
 (f_grid_Grid_Set a.2 p1 (w64 (p0.from_ + a.1)) c).bind fun d =>
 some (.inl ((w64 (a.1 + 1)), d.1))
 else
 some (.inr (a.2))) (0, sg)).bind fun b =>
 (f_grid_Grid_Row b p1 (w64 (p0.from_ - 1))).bind fun e =>
 (f_row_Row_GoOn b e false).bind fun f =>
 some f
theorem c_scroll_stretch_lay (O0 : Own c0 G F) (R0 : Rel c0 sg G) (b : G_scroll_stretch) (g : Option Nat) (h : List (Option Nat)) {r : Sto} (h2 : Pt 1 c0 v1 g) (s : Sl (RP 0) c0 v3 h) (H : f_scroll_stretch_lay sg b g h = some r) :
    Calls prog 208 #[.agg #[I b.from_, I b.to_, I b.n], v1, v3] c0.w (Post c0 fun c v => ∃ G_ : Gm, Own c G_ (F) ∧ Rel c r G_ ∧ v = .tuple #[]) := by
 unfold f_scroll_stretch_lay at H
 refine en func208 rfl rfl (sr (me (bx 261 [I b.from_, I b.to_, I b.n] O0) ?_))
 rintro v9 q l8 ⟨f, rfl, O6, m7⟩
 refine wln (W.seq (sr (va (v3) (vx (ln 3 underlying120 s.m) (va (I 0) (wln (W.block (bn H fun h1 o d => lp o (fun a => Jn q fun c l => ∃ G_, Own c G_ (F) ∧ l = [(1, v1), (3, Q f), (8, v3), (9, I (h.length : Int)), (10, I a.1)] ∧ Rel c a.2 G_) (fun t ex e w => ex = .exit 0 ∧ (Jn q fun c l => ∃ G_, Own c G_ (F) ∧ l = [(1, v1), (3, Q f)] ∧ Rel c t G_) e w) ?_ ?_ ?_))))))))
 ·clear d o
  intro a i1 X l0 H
  revert X l0
  rintro e_ w_ ⟨S, b1, _, rfl, i0, rfl, y, i, rfl, j⟩
  refine sr (va (B (decide (a.1 < (h.length : Int)))) (wln (W.seq (cn H (fun Z H => ?_) (fun Z H => ?_)))))
  ·refine W.skip (nrm (W.seq (W.block (sr (va (I a.1) (bn H fun u p H => ?_))))))
   obtain ⟨u0, b0, j0⟩ := Sl.at (s.mono (l8.trans i0)) (idx_get p)
   obtain ⟨v23, rfl, d0⟩ := b0
   refine vx (ix underlying120 s.m p) (vx (l1 underlying116 (j0 0 _ rfl)) (va (I a.1) (va (v23) (wln (W.region (va (v1) (va (Q f) (vx (l1 underlying3 ((mm m7) 0 _ rfl)) (va (I a.1) (va (I (w64 (b.from_ + a.1))) (va (v23) (bn H fun w0 e0 H => cl (c_grid_Grid_Set i j g (w64 (b.from_ + a.1)) u h2.m d0 e0) ?_))))))))))))
   rintro v31 T d1 ⟨z, D, P, rfl⟩
   refine WL.nil (bkn (nrm (W.region (va (I (w64 (a.1 + 1))) (va (I (w64 (a.1 + 1))) (WL.nil ?_))))))
   obtain rfl := si H
   exact ⟨_, rfl, ⟨T, _, _, rfl, pt, us, z, D, rfl, P⟩⟩
  refine W.exit (thx ?_)
  obtain rfl := si H
  exact ⟨_, rfl, rfl, ⟨S, _, _, rfl, pt, us, y, i, rfl, j⟩⟩
 ·exact ⟨q, _, _, rfl, pt, us, G, O6, rfl, R0.m⟩
 rintro _ e_ w_ ⟨rfl, z0, c1, _, rfl, e1, rfl, y0, E, rfl, k⟩
 refine bke (nrm (W.region (va (v1) (va (Q f) (vx (l1 underlying3 ((mm m7) 0 _ rfl)) (va (I (w64 (b.from_ - 1))) (bn d fun x f0 d => cl (c_grid_Grid_Row E k g (w64 (b.from_ - 1)) h2.m f0) ?_)))))))
 rintro v39 a1 f1 ⟨_, M, rfl, g0⟩
 refine bn d fun x0 h0 d => cl (c_row_Row_GoOn M k.m x false g0 h0) ?_
 rintro v53 U g1 ⟨A, N, R, rfl⟩
 refine WL.nil ?_
 obtain rfl := si d
 exact n0 ⟨_, U, rfl, rfl, pt, A, N, R, rfl⟩
def f_scroll_rows (sg : Sto) (p0 : Option Nat) (p1 : Int) (p2 : Int) : Option (List (Option Nat)) :=
 (iter (σ := (List (Option Nat)) × Int) (τ := (List (Option Nat))) ((p2 - p1).toNat + 1) (fun a =>
 if (decide (a.2 < p2)) = true then
 (f_grid_Grid_Row sg p0 a.2).bind fun b =>
 (app a.1 ([b] : List (Option Nat))).bind fun c =>
 some (.inl (c, (w64 (a.2 + 1))))
 else
 some (.inr (a.1))) (([] : List (Option Nat)), p1)).bind fun d =>
 some d
theorem c_scroll_rows (O0 : Own c0 G F) (R0 : Rel c0 sg G) (o : Option Nat) (f : Int) (d : Int) {r : List (Option Nat)} (h2 : Pt 1 c0 v1 o) (H : f_scroll_rows sg o f d = some r) :
    Calls prog 209 #[v1, I f, I d] c0.w (Post c0 fun c v => ∃ q y2, Own c G (es true (RP 0) q 116 y2 r :: F) ∧ v = q ∧ OA (RP 0) c q y2 r) := by
 unfold f_scroll_rows at H
 refine en func209 rfl rfl (sr (va (Y) (wln (sr (va (Y) (wln (W.seq (sr (va (I f) (va (I f) (wln (W.block (bn H fun b1 T s => lp T (fun a => Jn c0 fun c l => ∃ v5 g, Own c G (es true (RP 0) v5 116 g a.1 :: F) ∧ l = [(0, v1), (2, I d), (7, v5), (8, I a.2)] ∧ OA (RP 0) c v5 g a.1) (fun b ex e w => ex = .exit 0 ∧ (Jn c0 fun c l => ∃ v7 h, Own c G (es true (RP 0) v7 116 h b :: F) ∧ l = [(7, v7)] ∧ OA (RP 0) c v7 h b) e w) ?_ ?_ ?_)))))))))))))
 ·clear s T
  intro a d1 N f0 H
  revert N f0
  rintro e_ w_ ⟨c9, u0, _, rfl, l9, rfl, v5, g, i, rfl, k⟩
  refine W.seq (sr (va (I a.2) (va (I d) (va (B (decide (a.2 < d))) (wln (cn H (fun P H => ?_) (fun P H => ?_)))))))
  ·refine W.skip (nrm (W.seq (W.block (W.region (va (v5) (va (v1) (va (I a.2) (bn H fun p R H => cl (c_grid_Grid_Row i R0.m o a.2 h2.m R) ?_))))))))
   rintro v18 q0 w0 ⟨_, t, rfl, n⟩
   obtain ⟨j, rfl⟩ := (n).form
   refine me (sl (RP 0) 116 [[.pointer j]] ([p] : List (Option Nat)) t ⟨⟨(.pointer j), rfl, n⟩, trivial⟩) ?_
   rintro v31 s0 x0 ⟨c1, u, S⟩
   obtain ⟨t0, X, y0, x, U⟩ := u.frz 0 rfl S
   refine WL.gh X (bn H fun o0 Z H => me (ap (RP 0) (.pointer none) 8 120 1 x k.m U Z underlying120) ?_)
   rintro v41 E z0 ⟨e0, y, a0⟩
   refine va (v41) (WL.nil (bkn (nrm (W.region (va (I a.2) (va (I (w64 (a.2 + 1))) (va (I (w64 (a.2 + 1))) (WL.nil ?_))))))))
   obtain rfl := si H
   refine ⟨_, rfl, ?_⟩
   have z := y.sD 2 [1]
   exact ⟨E, _, _, rfl, pt, us, v41, e0, z, rfl, a0⟩
  refine W.exit (thx ?_)
  obtain rfl := si H
  exact ⟨_, rfl, rfl, ⟨c9, _, _, rfl, pt, us, v5, g, i, rfl, k⟩⟩
 ·have b0 : OA (RP 0) c0 (Y) [] [] := OA.nil (Nat.succ_pos _)
  have A := O0.addHole (e := es true (RP 0) (Y) 116 [] ([] : List (Option Nat))) rfl
  exact ⟨c0, _, _, rfl, pt, us, (Y), [], A, rfl, b0⟩
 rintro _ e_ w_ ⟨rfl, M, v0, _, rfl, a1, rfl, v7, h, D, rfl, d0⟩
 refine bke (nrm (sr (va (v7) (va (v7) (wln (W.ret ?_))))))
 obtain rfl := si s
 exact r1 ⟨_, M, rfl, rfl, pt, v7, h, D, rfl, d0⟩
def f_grid_Grid_Wide (sg : Sto) (p0 : Option Nat) : Option (Int) :=
 (f_grid_Grid_Row sg p0 0).bind fun a =>
 (f_row_Row_Wide sg a).bind fun b =>
 some b
theorem c_grid_Grid_Wide (i : Own c0 G F) (d : Rel c0 sg G) (a : Option Nat) {r : Int} (k : Pt 1 c0 v1 a) (H : f_grid_Grid_Wide sg a = some r) :
    Calls prog 33 #[v1] c0.w (Post c0 fun c v => Own c G (F) ∧ v = I r) := by
 unfold f_grid_Grid_Wide at H
 refine en func33 rfl rfl (sr (va (I 0) (wln (sr (va (v1) (bn H fun g l H => cl (c_grid_Grid_Row i d a 0 k l) ?_))))))
 rintro v4 o p ⟨_, j, rfl, n⟩
 refine bn H fun h f H => cl (c_row_Row_Wide j d.m g n f) ?_
 rintro v18 e q ⟨b, rfl⟩
 refine va (I h) (wln (W.ret ?_))
 obtain rfl := si H
 exact r1 ⟨_, e, rfl, rfl, pt, b, rfl⟩
def f_scroll_blanks (sg : Sto) (p0 : Option Nat) (p1 : Int) : Option (Sto × (List (Option Nat))) :=
 (iter (σ := (List (Option Nat)) × Int × Sto) (τ := ((List (Option Nat)) × Sto)) ((p1 - 0).toNat + 1) (fun a =>
 if (decide (a.2.1 < p1)) = true then
 (f_grid_Grid_Wide a.2.2 p0).bind fun d =>
 (f_row_New a.2.2 d).bind fun b =>
 (app a.1 ([b.2] : List (Option Nat))).bind fun e =>
 some (.inl (e, (w64 (a.2.1 + 1)), b.1))
 else
 some (.inr (a.1, a.2.2))) (([] : List (Option Nat)), 0, sg)).bind fun c =>
 some (c.2, c.1)
theorem c_scroll_blanks (O0 : Own c0 G F) (R0 : Rel c0 sg G) (p : Option Nat) (f : Int) {r : Sto × (List (Option Nat))} (h2 : Pt 1 c0 v1 p) (H : f_scroll_blanks sg p f = some r) :
    Calls prog 210 #[v1, I f] c0.w (Post c0 fun c v => ∃ t y2, ∃ G_ : Gm, Own c G_ (es true (RP 0) t 116 y2 r.2 :: F) ∧ Rel c r.1 G_ ∧ Adds G G_ ∧ v = t ∧ OA (RP 0) c t y2 r.2) := by
 unfold f_scroll_blanks at H
 refine en func210 rfl rfl (sr (va (Y) (wln (sr (va (Y) (wln (W.seq (sr (va (I f) (va (I 0) (wln (W.block (bn H fun t1 h3 z => lp h3 (fun a => Jn c0 fun c l => ∃ v5 g G_, Own c G_ (es true (RP 0) v5 116 g a.1 :: F) ∧ l = [(0, v1), (5, v5), (6, I f), (7, I a.2.1)] ∧ Rel c a.2.2 G_ ∧ Adds G G_ ∧ OA (RP 0) c v5 g a.1) (fun b ex e w => ex = .exit 0 ∧ (Jn c0 fun c l => ∃ v7 h G_, Own c G_ (es true (RP 0) v7 116 h b.1 :: F) ∧ l = [(5, v7)] ∧ Rel c b.2 G_ ∧ Adds G G_ ∧ OA (RP 0) c v7 h b.1) e w) ?_ ?_ ?_)))))))))))))
 ·clear z h3
  intro a w1 e0 u0 H
  revert e0 u0
  rintro e_ w_ ⟨c9, h1, _, rfl, l9, rfl, v5, g, u, i, rfl, d, j, n⟩
  refine sr (va (B (decide (a.2.1 < f))) (wln (W.seq (cn H (fun f0 H => ?_) (fun f0 H => ?_)))))
  ·refine W.skip (nrm (W.seq (W.block (W.region (va (v5) (va (v1) (bn H fun q g0 H => cl (c_grid_Grid_Wide i d p h2.m g0) ?_)))))))
   rintro v23 d1 j1 ⟨A, rfl⟩
   refine bn H fun s h0 H => cl (c_row_New A d.m q h0) ?_
   rintro v25 e1 k1 ⟨_, x, D, T, X, rfl, o⟩
   have Z := j.trans X
   obtain ⟨k, rfl⟩ := (o).form
   refine me (sl (RP 0) 116 [[.pointer k]] ([s.2] : List (Option Nat)) D ⟨⟨(.pointer k), rfl, o⟩, trivial⟩) ?_
   rintro v39 f1 m1 ⟨u1, E, j0⟩
   obtain ⟨g1, l0, n1, M, k0⟩ := E.frz 0 rfl j0
   refine WL.gh l0 (bn H fun c1 m0 H => me (ap (RP 0) (.pointer none) 8 120 1 M n.m k0 m0 underlying120) ?_)
   rintro v49 b0 q1 ⟨t0, N, o0⟩
   refine va (v49) (WL.nil (bkn (nrm (W.region (va (I (w64 (a.2.1 + 1))) (va (I (w64 (a.2.1 + 1))) (WL.nil ?_)))))))
   obtain rfl := si H
   refine ⟨_, rfl, ?_⟩
   have P := N.sD 2 [1]
   exact ⟨b0, _, _, rfl, pt, us, v49, t0, x, P, rfl, T.m, Z, o0⟩
  refine W.exit (thx ?_)
  obtain rfl := si H
  exact ⟨_, rfl, rfl, ⟨c9, _, _, rfl, pt, us, v5, g, u, i, rfl, d, j, n⟩⟩
 ·have q0 : OA (RP 0) c0 (Y) [] [] := OA.nil (Nat.succ_pos _)
  have R := O0.addHole (e := es true (RP 0) (Y) 116 [] ([] : List (Option Nat))) rfl
  exact ⟨c0, _, _, rfl, pt, us, (Y), [], G, R, rfl, R0, (Adds.refl _), q0⟩
 rintro _ e_ w_ ⟨rfl, d0, i1, _, rfl, s1, rfl, v7, h, y, S, rfl, U, a0, s0⟩
 refine bke (nrm (sr (va (v7) (va (v7) (wln (W.ret ?_))))))
 obtain rfl := si z
 exact r1 ⟨_, d0, rfl, rfl, pt, v7, h, y, S, U, a0, rfl, s0⟩
def f_scroll_Up (sg : Sto) (p0 : Option Nat) (p1 : Int) (p2 : Int) (p3 : Int) : Option (Sto) :=
 (f_scroll_of sg p0 p1 p2 p3).bind fun a =>
 if a.2 = true then
 (f_scroll_rows sg p0 (w64 (a.1.from_ + a.1.n)) a.1.to_).bind fun c =>
 (f_scroll_blanks sg p0 a.1.n).bind fun b =>
 (app c b.2).bind fun d =>
 (f_scroll_stretch_lay b.1 a.1 p0 d).bind fun e =>
 some e
 else
 some sg
theorem c_scroll_Up (O0 : Own c0 G F) (h : Rel c0 sg G) (g : Option Nat) (k : Int) (l : Int) (o : Int) {r : Sto} (j : Pt 1 c0 v1 g) (H : f_scroll_Up sg g k l o = some r) :
    Calls prog 170 #[v1, I k, I l, I o] c0.w (Post c0 fun c v => ∃ G_ : Gm, Own c G_ (F) ∧ Rel c r G_ ∧ v = .tuple #[]) := by
 unfold f_scroll_Up at H
 refine en func170 rfl rfl (sr (va (v1) (va (I k) (va (I l) (va (I o) (bn H fun a h3 H => cl (c_scroll_of O0 h g k l o j h3) ?_))))))
 rintro v9 c8 l8 ⟨O5, rfl⟩
 refine va (.tuple #[.agg #[I a.1.from_, I a.1.to_, I a.1.n], B a.2]) (va (.agg #[I a.1.from_, I a.1.to_, I a.1.n]) (va (B a.2) (me (al 261 [I 0, I 0, I 0] O5) ?_)))
 rintro v13 j1 k1 ⟨b, rfl, M⟩
 refine md (sA 261 [I a.1.from_, I a.1.to_, I a.1.n] 0 M ⟨rfl, rfl, rfl, trivial⟩) ?_
 rintro T m1 p
 refine va (B a.2) (wln (sr (va (B a.2) (wln (cn H (fun e0 H => ?_) (fun e0 H => ?_))))))
 ·refine rD [] (Kp G0 [(Eb b 261 [I a.1.from_, I a.1.to_, I a.1.n])]) p ?_
  intro U n1 q
  have e : Kp G0 [(Eb b 261 [I a.1.from_, I a.1.to_, I a.1.n])] U := (Kp.cons (q.on 0 rfl) Kp.nil0)
  refine tkx 0 e (fun i f d => leN 261 0 [I a.1.from_, I a.1.to_, I a.1.n] (d.on 0 rfl)) (ta 1 (v1) (ta 2 (v1) (ta 3 (Q b) (tkx 4 e (fun i f d => le1 0 underlying3 (d.on 0 rfl)) (ta 5 (.pointer (some ⟨b, 2, none⟩)) (tkx 6 e (fun i f d => le1 2 underlying3 (d.on 0 rfl)) (ta 7 (I (w64 (a.1.from_ + a.1.n))) (ta 8 (.pointer (some ⟨b, 1, none⟩)) (tkx 9 e (fun i f d => le1 1 underlying3 (d.on 0 rfl)) (ta 11 (v1) (ta 12 (.pointer (some ⟨b, 2, none⟩)) (tkx 13 e (fun i f d => le1 2 underlying3 (d.on 0 rfl)) (bn H fun e1 f0 H => o1 10 (gc 10 (c_scroll_rows q h.m g (w64 (a.1.from_ + a.1.n)) a.1.to_ j.m f0) ?_))))))))))))))
  rintro v21 X q1 ⟨_, w1, s, rfl, g0⟩
  have v0 : Kp G0 [(Eb b 261 [I a.1.from_, I a.1.to_, I a.1.n])] X := (Kp.cons (s.on 1 rfl) Kp.nil0)
  refine ⟨.inr v0, bn H fun f1 h0 H => o1 14 (gc 14 (c_scroll_blanks s h.m g a.1.n j.m h0) ?_)⟩
  rintro v32 Z s1 ⟨_, x1, h1, t, R, i1, rfl, i0⟩
  have w0 : Kp G0 [(Eb b 261 [I a.1.from_, I a.1.to_, I a.1.n])] Z := (Kp.cons (t.on 2 rfl) Kp.nil0)
  refine ⟨.inr w0, ?_⟩
  obtain ⟨a0, k0, t0, u, j0⟩ := t.frz 0 rfl i0
  have x0 : Kp G0 [(Eb b 261 [I a.1.from_, I a.1.to_, I a.1.n])] a0 := (Kp.cons (u.on 2 rfl) Kp.nil0)
  refine AC.gh k0 t0 (fun _ => x0) (bn H fun D l0 H => o1 15 (gm 15 (ap (RP 0) (.pointer none) 8 120 1 u g0.m j0 l0 underlying120) ?_))
  rintro v52 b0 t1 ⟨y1, x, m0⟩
  have y0 : Kp G0 [(Eb b 261 [I a.1.from_, I a.1.to_, I a.1.n])] b0 := (Kp.cons (x.on 2 rfl) Kp.nil0)
  refine ⟨.inr y0, ?_⟩
  obtain ⟨d0, q0, u0, y, o0⟩ := x.frz 1 rfl m0
  have z0 : Kp G0 [(Eb b 261 [I a.1.from_, I a.1.to_, I a.1.n])] d0 := (Kp.cons (y.on 2 rfl) Kp.nil0)
  refine AC.gh q0 u0 (fun _ => z0) (bn H fun g1 s0 H => o1 16 (gc 16 (c_scroll_stretch_lay y R.m a.1 g D j.m o0 s0) ?_))
  rintro z1 A u1 ⟨E, z, S, rfl⟩
  have a1 : Kp G0 [(Eb b 261 [I a.1.from_, I a.1.to_, I a.1.n])] A := (Kp.cons (z.on 2 rfl) Kp.nil0)
  refine ⟨.inr a1, dn ?_⟩
  obtain rfl := si H
  have N := z.sD 3 []
  exact n0 ⟨_, A, rfl, rfl, pt, E, N, S, rfl⟩
 refine W.skip ?_
 obtain rfl := si H
 have P := p.sD 1 []
 exact n0 ⟨_, T, rfl, rfl, pt, G, P, h.m, rfl⟩
def f_grid_Of (sg : Sto) (p0 : List G_api_Line) : Option (Sto × (Option Nat) × Er) :=
 (orE ((p0.length : Int) == 0) (some (decide ((p0.length : Int) > 1024)))).bind fun o =>
 if o = true then
 some (sg, (none : Option Nat), (Er.sent 0))
 else
 (some (sg.add_grid_Grid (⟨([] : List (Option Nat))⟩ : G_grid_Grid))).bind fun d =>
 (iter (σ := Int × Sto) (τ := (Sto × (Option Nat) × Er) ⊕ Sto) (((p0.length : Int) - 0).toNat + 1) (fun b =>
 if (decide (b.1 < (p0.length : Int))) = true then
 (idx p0 b.1).bind fun f =>
 (f_row_Of b.2 f.Cells).bind fun a =>
 ((andE a.2.2.isNil ((idx p0 0).bind fun k =>
 (f_row_Row_Wide a.1 a.2.1).bind fun l =>
 some (l != (k.Cells.length : Int)))).bind fun i =>
 if i = true then
 some ((Er.sent 0))
 else
 some (a.2.2)).bind fun h =>
 if (!h.isNil) = true then
 (f_api_Wrong b.1 h).bind fun m =>
 some (.inr (.inl (a.1, (none : Option Nat), m)))
 else
 (f_row_Row_GoOn a.1 a.2.1 f.Wrap).bind fun g =>
 (g.grid_Grid[sg.grid_Grid.length]?).bind fun j =>
 (app j.rows ([a.2.1] : List (Option Nat))).bind fun n =>
 (g.set_grid_Grid sg.grid_Grid.length (⟨n⟩ : G_grid_Grid)).bind fun e =>
 some (.inl ((w64 (b.1 + 1)), e))
 else
 some (.inr (.inr (b.2)))) (0, d)).bind fun c =>
 match c with
 | .inl c =>
 some c
 | .inr c =>
 some (c, (some sg.grid_Grid.length), Er.nil)
def f_grid_Grid_Lines (sg : Sto) (p0 : Option Nat) : Option (List G_api_Line) :=
 (f_grid_Grid_High sg p0).bind fun c =>
 (iter (σ := (List G_api_Line) × Int) (τ := (List G_api_Line)) ((c - 0).toNat + 1) (fun a =>
 if (decide (a.2 < c)) = true then
 (p0).bind fun d =>
 (sg.grid_Grid[d]?).bind fun b =>
 (idx b.rows a.2).bind fun e =>
 (idx b.rows a.2).bind fun f =>
 (f_row_Row_Cells sg e).bind fun g =>
 (f_row_Row_Wrap sg f).bind fun h =>
 (app a.1 ([(⟨g, h⟩ : G_api_Line)] : List G_api_Line)).bind fun i =>
 some (.inl (i, (w64 (a.2 + 1))))
 else
 some (.inr (a.1))) (([] : List G_api_Line), 0)).bind fun j =>
 some j
theorem c_grid_Grid_Lines (O0 : Own c0 G F) (z : Rel c0 sg G) (p0 : Option Nat) {r : List G_api_Line} (h2 : Pt 1 c0 v1 p0) (H : f_grid_Grid_Lines sg p0 = some r) :
    Calls prog 35 #[v1] c0.w (Post c0 fun c v => ∃ y1 y2, Own c G (es true R_api_Line y1 71 y2 r :: F) ∧ v = y1 ∧ OA R_api_Line c y1 y2 r) := by
 unfold f_grid_Grid_Lines at H
 refine en func35 rfl rfl (sr (va (Y) (wln (sr (va (Y) (wln (W.seq (sr (va (v1) (bn H fun g0 h3 H => cl (c_grid_Grid_High O0 z p0 h2 h3) ?_))))))))))
 rintro v9 A l8 ⟨O5, rfl⟩
 refine va (I 0) (wln (W.block (bn H fun i3 Z D => lp Z (fun a => Jn A fun c l => ∃ v12 n, Own c G (es true R_api_Line v12 71 n a.1 :: F) ∧ l = [(0, v1), (3, v12), (6, I g0), (7, I a.2)] ∧ OA R_api_Line c v12 n a.1) (fun y ex e w => ex = .exit 0 ∧ (Jn A fun c l => ∃ v14 o, Own c G (es true R_api_Line v14 71 o y :: F) ∧ l = [(3, v14)] ∧ OA R_api_Line c v14 o y) e w) ?_ ?_ ?_)))
 ·clear D Z
  intro a o3 a1 n2 H
  revert a1 n2
  rintro e_ w_ ⟨s0, b3, _, rfl, l16, rfl, v12, n, E, rfl, a0⟩
  refine sr (va (B (decide (a.2 < g0))) (wln (W.seq (cn H (fun c1 H => ?_) (fun c1 H => ?_)))))
  ·refine W.skip (nrm (W.seq (W.block (sr (va (I a.2) (va (I a.2) (wln (rD [] (Kp G []) E ?_))))))))
   intro t0 d0 M
   have k : Kp G [] t0 := (Kp.nil M)
   refine ta 0 (v12) (ta 1 (v1) (bn H fun u2 e1 H => ?_))
   obtain ⟨d, rfl, d1⟩ := ((h2.mono (l8.trans (l16.trans d0)))).get e1
   refine ta 2 (Q d) (ta 3 (Q d) (bn H fun x2 f1 H => ?_))
   obtain ⟨v31, j3, i, b⟩ := Rel.open_grid_Grid (z.mono (l8.trans (l16.trans d0))) f1 d1
   refine tkx 4 k (fun t f g => le1 0 underlying120 (g.gon i 0 rfl)) (ta 5 (I a.2) (bn H fun i0 u H => tx 6 (fun t f => ixO underlying120 b u) ?_))
   obtain ⟨v2, g1, d2⟩ := OA.at b u
   obtain ⟨v39, rfl, h1⟩ := g1
   refine AC.takeK 7 (v39) k rfl (by kernel_rfl) (by kernel_rfl) (by kernel_rfl) (fun t f g => (rx (by kernel_rfl) (ldE1 underlying116 rfl (g.gon i 1 rfl) (b.blk u) (at1 (j := 0) d2 rfl)))) (ta 9 (Q d) (ta 10 (Q d) (ta 11 (Q d) (tkx 12 k (fun t f g => le1 0 underlying120 (g.gon i 0 rfl)) (ta 13 (I a.2) (bn H fun j0 x H => tx 14 (fun t f => ixO underlying120 b x) ?_))))))
   obtain ⟨w2, i1, e2⟩ := OA.at b x
   obtain ⟨v45, rfl, j1⟩ := i1
   refine AC.takeK 15 (v45) k rfl (by kernel_rfl) (by kernel_rfl) (by kernel_rfl) (fun t f g => (rx (by kernel_rfl) (ldE1 underlying116 rfl (g.gon i 1 rfl) (b.blk x) (at1 (j := 0) e2 rfl)))) (bn H fun k0 k1 H => o1 8 (gc 8 (c_row_Row_Cells M z.m i0 h1 k1) ?_))
   rintro v48 u0 d3 ⟨_, k3, N, rfl, b0⟩
   have f2 : Kp G [] u0 := (Kp.nil N)
   refine ⟨.inr f2, bn H fun h m1 H => o1 16 (gc 16 (c_row_Row_Wrap N z.m j0 j1.m m1) ?_)⟩
   rintro m3 v0 e0 ⟨P, rfl⟩
   have g2 : Kp G [] v0 := (Kp.nil P)
   refine ⟨.inr g2, ?_⟩
   obtain ⟨p, q, s, rfl⟩ := ((b0.mono e0)).form
   refine ta 17 (.agg #[.slice p q s, B h]) ?_
   obtain ⟨w0, p1, a2, R, n1⟩ := P.frz 0 rfl (b0.mono e0)
   have i2 : Kp G [] w0 := (Kp.nil R)
   refine AC.gh p1 a2 (fun _ => i2) (o1 18 (gm 18 (sl R_api_Line 71 [[.slice p q s, B h]] ([(⟨k0, h⟩ : G_api_Line)] : List G_api_Line) R ⟨⟨(.slice p q s), rfl, n1⟩, trivial⟩) ?_))
   rintro n3 x0 e3 ⟨l3, S, q1⟩
   have j2 : Kp G [] x0 := (Kp.nil S)
   refine ⟨.inr j2, ?_⟩
   obtain ⟨y0, t1, c2, T, s1⟩ := S.frz 0 rfl q1
   have k2 : Kp G [] y0 := (Kp.nil T)
   refine AC.gh t1 c2 (fun _ => k2) (bn H fun a3 u1 H => o1 19 (gm 19 (ap R_api_Line (.agg #[Y, B false]) 32 22 2 T a0.m s1 u1 underlying22) ?_))
   rintro f0 X f3 ⟨m2, U, w1⟩
   have l2 : Kp G [] X := (Kp.nil U)
   refine ⟨.inr l2, ta 20 (f0) (dn (bkn (nrm (W.region (va (I (w64 (a.2 + 1))) (va (I (w64 (a.2 + 1))) (WL.nil ?_)))))))⟩
   obtain rfl := si H
   refine ⟨_, rfl, ?_⟩
   have m0 := U.sD 3 [2]
   exact ⟨X, _, _, rfl, pt, us, f0, m2, m0, rfl, w1⟩
  refine W.exit (thx ?_)
  obtain rfl := si H
  exact ⟨_, rfl, rfl, ⟨s0, _, _, rfl, pt, us, v12, n, E, rfl, a0⟩⟩
 ·have x1 : OA R_api_Line A (Y) [] [] := OA.nil (Nat.succ_pos _)
  have o0 := O5.addHole (e := es true R_api_Line (Y) 71 [] ([] : List G_api_Line)) rfl
  exact ⟨A, _, _, rfl, pt, us, (Y), [], o0, rfl, x1⟩
 rintro _ e_ w_ ⟨rfl, z0, c3, _, rfl, g3, rfl, v14, o, q0, rfl, z1⟩
 refine bke (nrm (sr (va (v14) (va (v14) (wln (W.ret ?_))))))
 obtain rfl := si D
 exact r1 ⟨_, z0, rfl, rfl, pt, v14, o, q0, rfl, z1⟩
def f_linotyperef32_Same (p0 : List G_api_Line) (p1 : List G_api_Line) : Option (Bool) :=
 if ((p0.length : Int) != (p1.length : Int)) = true then
 some false
 else
 (iter (σ := Int) (τ := Bool ⊕ Unit) (((p0.length : Int) - 0).toNat + 1) (fun a =>
 if (decide (a < (p0.length : Int))) = true then
 (idx p0 a).bind fun d =>
 (idx p1 a).bind fun e =>
 (orE (!(d.Wrap == e.Wrap)) ((idx p0 a).bind fun f =>
 (idx p1 a).bind fun g =>
 (f_linotyperef23_Same f.Cells g.Cells).bind fun h =>
 some (!h))).bind fun c =>
 if c = true then
 some (.inr (.inl false))
 else
 some (.inl ((w64 (a + 1))))
 else
 some (.inr (.inr ()))) (0)).bind fun b =>
 match b with
 | .inl b =>
 some b
 | .inr b =>
 some true
theorem c_linotyperef32_Same (O0 : Own c0 G F) (s : List G_api_Line) (X : List G_api_Line) {r : Bool} (j : Sl R_api_Line c0 v1 s) (k : Sl R_api_Line c0 v3 X) (H : f_linotyperef32_Same s X = some r) :
    Calls prog 89 #[v1, v3] c0.w (Post c0 fun c v => Own c G (F) ∧ v = B r) := by
 unfold f_linotyperef32_Same at H
 refine en func89 rfl rfl (sr (va (B false) (wln (W.seq (sr (va (v1) (vx (ln 3 underlying22 j) (va (v3) (vx (ln 3 underlying22 k) (va (B ((s.length : Int) != (X.length : Int))) (wln (cn H (fun h5 H => ?_) (fun h5 H => ?_)))))))))))))
 ·refine sr (va (B false) (wln (W.ret (thr ?_))))
  obtain rfl := si H
  exact r1 ⟨_, c0, rfl, rfl, pt, O0, rfl⟩
 refine W.skip (nrm (W.seq (sr (va (I 0) (wln (W.block (bn H fun h h6 S => lp h6 (fun a => Jn c0 fun c l => Own c G (F) ∧ l = [(0, v1), (1, v3), (5, I a)]) (fun t => match t with | .inl x_ => (fun f1 ex e w => ex = .ret ∧ (Jn c0 fun c l => Own c G (F) ∧ l = [(4, B f1)]) e w) x_ | .inr x_ => (fun h1 ex e w => ex = .exit 0 ∧ (Jn c0 fun c l => Own c G (F) ∧ l = []) e w) x_) ?_ ?_ ?_)))))))
 ·clear S h6
  intro a c2 l0 g1 H
  revert l0 g1
  rintro U Z ⟨c8, g9, _, rfl, q, rfl, u, rfl⟩
  refine W.seq (sr (va (I a) (va (v1) (vx (ln 3 underlying22 j.m) (va (B (decide (a < (s.length : Int)))) (wln (cn H (fun o0 H => ?_) (fun o0 H => ?_))))))))
  ·refine W.skip (nrm (W.seq (W.block (W.seq (bn H fun n E H => bn H fun o M H => bn H fun T N H => W.join (Jn c8 fun c l => Own c G (F) ∧ l = [(0, v1), (1, v3), (5, I a), (41, B T)]) ?_ ?_)))))
   ·clear H
    refine rD [] (Kp G0 []) u ?_
    intro z i x
    have b2 : Kp G0 [] z := Kp.nil0
    refine ta 0 (v1) (ta 1 (I a) ?_)
    obtain ⟨j1, q0, a1⟩ := Sl.at (j.mono (q.trans i)) (idx_get E)
    obtain ⟨v24, rfl, u1⟩ := q0
    refine tx 2 (fun f b => ix underlying22 j.m E) (ta 3 (.pointer (some ⟨sb v1, so v1 + a.toNat * 2 + 1, none⟩)) (tx 4 (fun f b => l1 underlying4 ((mm a1) 1 _ rfl)) (ta 5 (v3) (ta 6 (I a) ?_))))
    obtain ⟨k1, s0, b1⟩ := Sl.at (k.mono (q.trans i)) (idx_get M)
    obtain ⟨v29, rfl, w1⟩ := s0
    refine tx 7 (fun f b => ix underlying22 k.m M) (ta 8 (.pointer (some ⟨sb v3, so v3 + a.toNat * 2 + 1, none⟩)) (tx 9 (fun f b => l1 underlying4 ((mm b1) 1 _ rfl)) (ta 10 (B (!(n.Wrap == o.Wrap))) ?_)))
    rcases bo (!(n.Wrap == o.Wrap)) with g | g
    ·obtain rfl := orT g N
     exact AC.takeb 11 g rfl (by kernel_rfl) (by kernel_rfl) (fun f b => (by kernel_rfl)) (tp 12 (tp 13 (tp 14 (tp 15 (tp 16 (tp 17 (tp 18 (tp 19 (tp 20 (tp 21 (tp 22 (tp 23 (ta 24 (B true) (dn (nrm ⟨z, _, _, rfl, pt, us, x, rfl⟩)))))))))))))))
    have d := orF g N
    refine bn d fun b0 P d => bn d fun d0 R d => bn d fun p t0 d => AC.takeb 11 g rfl (by kernel_rfl) (by kernel_rfl) (fun f b => (by kernel_rfl)) (ta 12 (v1) (ta 13 (I a) ?_))
    obtain ⟨m1, u0, c1⟩ := Sl.at (j.mono (q.trans i)) (idx_get P)
    obtain ⟨v39, rfl, v0⟩ := u0
    refine tx 14 (fun f b => ix underlying22 j.m P) (ta 15 (.pointer (some ⟨sb v1, so v1 + a.toNat * 2, none⟩)) (tx 16 (fun f b => l1 underlying69 ((mm c1) 0 _ rfl)) (ta 17 (v3) (ta 18 (I a) ?_))))
    obtain ⟨n1, w0, d1⟩ := Sl.at (k.mono (q.trans i)) (idx_get R)
    obtain ⟨v44, rfl, x0⟩ := w0
    refine tx 19 (fun f b => ix underlying22 k.m R) (ta 20 (.pointer (some ⟨sb v3, so v3 + a.toNat * 2, none⟩)) (tx 21 (fun f b => l1 underlying69 ((mm d1) 0 _ rfl)) (o1 22 (gc 22 (c_linotyperef23_Same x b0.Cells d0.Cells v0 x0 t0) ?_))))
    rintro v51 A x1 ⟨f0, rfl⟩
    have e1 : Kp G0 [] A := Kp.nil0
    refine ⟨.inr e1, ta 23 (B (!p)) ?_⟩
    obtain rfl := si d
    exact ta 24 (B (!p)) (dn (nrm ⟨A, _, _, rfl, pt, us, f0, rfl⟩))
   rintro U Z ⟨D, q1, _, rfl, y1, rfl, y, rfl⟩
   refine nrm (cn H (fun y0 H => ?_) (fun y0 H => ?_))
   ·refine sr (va (B false) (wln (W.ret (bkr (thr ?_)))))
    obtain rfl := si H
    exact ⟨_, rfl, ⟨rfl, ⟨D, _, _, rfl, pt, us, y, rfl⟩⟩⟩
   refine W.skip (bkn (nrm (W.region (va (I a) (va (I (w64 (a + 1))) (va (I (w64 (a + 1))) (WL.nil ?_)))))))
   obtain rfl := si H
   exact ⟨_, rfl, ⟨D, _, _, rfl, pt, us, y, rfl⟩⟩
  refine W.exit (thx ?_)
  obtain rfl := si H
  exact ⟨_, rfl, rfl, ⟨c8, _, _, rfl, pt, us, u, rfl⟩⟩
 ·exact ⟨c0, _, _, rfl, pt, us, O0, rfl⟩
 rcases h with h | h
 ·intro m0; revert m0
  rintro _ U Z ⟨rfl, i0, s1, _, rfl, z1, rfl, g0, rfl⟩
  refine bkr (thr ?_)
  obtain rfl := si S
  exact r1 ⟨_, i0, rfl, rfl, pt, g0, rfl⟩
 rintro _ U Z ⟨rfl, j0, t1, _, rfl, a2, rfl, h0, rfl⟩
 refine bke (nrm (sr (va (B true) (wln (W.ret ?_)))))
 obtain rfl := si S
 exact r1 ⟨_, j0, rfl, rfl, pt, h0, rfl⟩
def f_linotyperef33_Move (p0 : List G_api_Line) (p1 : Int) (p2 : Int) (p3 : Int) (p4 : Bool) : Option (List G_api_Line) :=
 (orE (decide ((imax 0 (imin p1 (p0.length : Int))) ≥ (imax 0 (imin p2 (p0.length : Int))))) (some (decide (p3 < 1)))).bind fun j =>
 if j = true then
 some p0
 else
 (iter (σ := (List G_api_Line) × Int) (τ := (List G_api_Line)) (((p0.length : Int) - 0).toNat + 1) (fun a =>
 if (decide (a.2 < (p0.length : Int))) = true then
 (idx p0 a.2).bind fun c =>
 ((andE (decide (a.2 ≥ (imax 0 (imin p1 (p0.length : Int))))) (some (decide (a.2 < (imax 0 (imin p2 (p0.length : Int))))))).bind fun k =>
 if k = true then
 (if (!p4) = true then
 some ((w64 (a.2 - (imin p3 (w64 ((imax 0 (imin p2 (p0.length : Int))) - (imax 0 (imin p1 (p0.length : Int)))))))))
 else
 some ((w64 (a.2 + (imin p3 (w64 ((imax 0 (imin p2 (p0.length : Int))) - (imax 0 (imin p1 (p0.length : Int)))))))))).bind fun b =>
 (idx p0 a.2).bind fun n =>
 (rep (n.Cells.length : Int) (⟨0, ([] : List Int)⟩ : G_api_Cell)).bind fun o =>
 (andE (decide (b ≥ (imax 0 (imin p1 (p0.length : Int))))) (some (decide (b < (imax 0 (imin p2 (p0.length : Int))))))).bind fun l =>
 if l = true then
 (idx p0 b).bind fun d =>
 some (d.Cells, d.Wrap)
 else
 some (o, false)
 else
 some (c.Cells, c.Wrap)).bind fun e =>
 ((orE ((w64 (a.2 + 1)) == (imax 0 (imin p1 (p0.length : Int)))) ((andE (!p4) (some ((w64 (a.2 + 1)) == (imax 0 (imin p2 (p0.length : Int)))))).bind fun g =>
 some g)).bind fun f =>
 if f = true then
 some (false)
 else
 some (e.2)).bind fun i =>
 (app a.1 ([(⟨e.1, i⟩ : G_api_Line)] : List G_api_Line)).bind fun h =>
 some (.inl (h, (w64 (a.2 + 1))))
 else
 some (.inr (a.1))) (([] : List G_api_Line), 0)).bind fun m =>
 some m
theorem c_linotyperef33_Move (O0 : Own c0 G F) (a : List G_api_Line) (f : Int) (d : Int) (g : Int) (q : Bool) {r : List G_api_Line} (U : Sl R_api_Line c0 v1 a) (H : f_linotyperef33_Move a f d g q = some r) :
    Calls prog 97 #[v1, I f, I d, I g, B q] c0.w (Post c0 fun c v => ∃ y1, Own c G (F) ∧ v = y1 ∧ Sl R_api_Line c y1 r) := by
 unfold f_linotyperef33_Move at H
 refine en func97 rfl rfl (sr (va (Y) (wln (sr (va (v1) (vx (ln 3 underlying22 U) (va (I (a.length : Int)) (wln (sr (va (I f) (va (I (a.length : Int)) (va (I (imin f (a.length : Int))) (va (I (imax 0 (imin f (a.length : Int)))) (va (I (imax 0 (imin f (a.length : Int)))) (wln (sr (va (I d) (va (I (a.length : Int)) (va (I (imin d (a.length : Int))) (va (I (imax 0 (imin d (a.length : Int)))) (va (I (imax 0 (imin d (a.length : Int)))) (wln (W.seq (W.seq (bn H fun i3 h3 H => W.join (Jn c0 fun c l => Own c G (F) ∧ l = [(0, v1), (1, I (imax 0 (imin f (a.length : Int)))), (2, I (imax 0 (imin d (a.length : Int)))), (3, I g), (4, B q), (11, I (a.length : Int)), (32, B i3)]) ?_ ?_)))))))))))))))))))))))))
 ·clear H
  refine W.region (va (I (imax 0 (imin f (a.length : Int)))) (va (I (imax 0 (imin d (a.length : Int)))) (va (B (decide ((imax 0 (imin f (a.length : Int))) ≥ (imax 0 (imin d (a.length : Int)))))) ?_)))
  rcases bo (decide ((imax 0 (imin f (a.length : Int))) ≥ (imax 0 (imin d (a.length : Int))))) with h4 | h4
  ·obtain rfl := orT h4 h3
   exact vb h4 (ps (ps (va (B true) (wln ⟨c0, _, _, rfl, pt, us, O0, rfl⟩))))
  have H5 := orF h4 h3
  refine vb h4 (wn (va (I g) (wn (va (B (decide (g < 1))) ?_))))
  obtain rfl := si H5
  exact va (B (decide (g < 1))) (wln ⟨c0, _, _, rfl, pt, us, O0, rfl⟩)
 rintro T w_ ⟨c6, g7, _, rfl, l6, rfl, O8, rfl⟩
 refine nrm (cn H (fun q4 H => ?_) (fun q4 H => ?_))
 ·refine sr (va (v1) (va (v1) (wln (W.ret (thr ?_)))))
  obtain rfl := si H
  exact r1 ⟨_, c6, rfl, rfl, pt, v1, O8, rfl, U.m⟩
 refine W.skip (nrm (sr (va (I g) (va (I (imax 0 (imin d (a.length : Int)))) (va (I (imax 0 (imin f (a.length : Int)))) (va (I (w64 ((imax 0 (imin d (a.length : Int))) - (imax 0 (imin f (a.length : Int)))))) (va (I (imin g (w64 ((imax 0 (imin d (a.length : Int))) - (imax 0 (imin f (a.length : Int))))))) (va (I (imin g (w64 ((imax 0 (imin d (a.length : Int))) - (imax 0 (imin f (a.length : Int))))))) (wln (sr (va (Y) (wln (W.seq (sr (va (I 0) (wln (W.block (bn H fun g6 w1 j1 => lp w1 (fun b => Jn c6 fun c l => ∃ v15 p, Own c G (es true R_api_Line v15 71 p b.1 :: F) ∧ l = [(0, v1), (1, I (imax 0 (imin f (a.length : Int)))), (2, I (imax 0 (imin d (a.length : Int)))), (3, I (imin g (w64 ((imax 0 (imin d (a.length : Int))) - (imax 0 (imin f (a.length : Int))))))), (4, B q), (11, I (a.length : Int)), (12, v15), (13, I b.2)] ∧ OA R_api_Line c v15 p b.1) (fun k0 ex e w => ex = .exit 0 ∧ (Jn c6 fun c l => ∃ v17 f1, Own c G (es true R_api_Line v17 71 f1 k0 :: F) ∧ l = [(12, v17)] ∧ OA R_api_Line c v17 f1 k0) e w) ?_ ?_ ?_))))))))))))))))))
 ·clear j1 w1
  intro b v6 o4 f5 H
  revert o4 f5
  rintro T w_ ⟨n4, o6, _, rfl, d1, rfl, v15, p, k1, rfl, x1⟩
  refine W.seq (sr (va (I b.2) (va (I (a.length : Int)) (va (B (decide (b.2 < (a.length : Int)))) (wln (cn H (fun r4 H => ?_) (fun r4 H => ?_)))))))
  ·refine W.skip (nrm (W.seq (W.block (sr (va (v1) (va (I b.2) (bn H fun e0 z1 H => ?_)))))))
   obtain ⟨d6, s4, b5⟩ := Sl.at (U.mono (l6.trans d1)) (idx_get z1)
   obtain ⟨v31, rfl, z0⟩ := s4
   refine vx (ix underlying22 U.m z1) (vx (lN 71 b5) (me (al 71 [Y, B false] k1) ?_))
   rintro v36 j6 e1 ⟨k, rfl, j4⟩
   obtain ⟨f0, g0, h0, rfl⟩ := ((z0.mono e1)).form
   refine md (sA 71 [.slice f0 g0 h0, B e0.Wrap] 0 j4 ⟨z0.m.one, rfl, trivial⟩) ?_
   rintro i0 f2 m1
   refine wln (bn H fun E s e4 => W.seqJ (Jn i0 fun c l => ∃ v44, Own c G ((Eb k 71 [v44, B E.2]) :: es true R_api_Line v15 71 p b.1 :: F) ∧ l = [(0, v1), (1, I (imax 0 (imin f (a.length : Int)))), (2, I (imax 0 (imin d (a.length : Int)))), (3, I (imin g (w64 ((imax 0 (imin d (a.length : Int))) - (imax 0 (imin f (a.length : Int))))))), (4, B q), (11, I (a.length : Int)), (12, v15), (13, I b.2), (14, Q k)] ∧ Sl R_api_Cell c v44 E.1) ?_ ?_)
   ·refine W.seq (bn s fun j3 a2 s => W.join (Jn i0 fun c l => Own c G ((Eb k 71 [.slice f0 g0 h0, B e0.Wrap]) :: es true R_api_Line v15 71 p b.1 :: F) ∧ l = [(0, v1), (1, I (imax 0 (imin f (a.length : Int)))), (2, I (imax 0 (imin d (a.length : Int)))), (3, I (imin g (w64 ((imax 0 (imin d (a.length : Int))) - (imax 0 (imin f (a.length : Int))))))), (4, B q), (11, I (a.length : Int)), (12, v15), (13, I b.2), (14, Q k), (55, B j3)]) ?_ ?_)
    ·clear s
     refine W.region (va (I b.2) (va (I (imax 0 (imin f (a.length : Int)))) (va (B (decide (b.2 ≥ (imax 0 (imin f (a.length : Int)))))) ?_)))
     rcases bo (decide (b.2 ≥ (imax 0 (imin f (a.length : Int))))) with X | X
     ·have f4 := anT X a2
      refine vb X (wn (va (I b.2) (wn (va (I (imax 0 (imin d (a.length : Int)))) (wn (va (B (decide (b.2 < (imax 0 (imin d (a.length : Int)))))) ?_))))))
      obtain rfl := si f4
      exact va (B (decide (b.2 < (imax 0 (imin d (a.length : Int)))))) (wln ⟨i0, _, _, rfl, pt, us, m1, rfl⟩)
     obtain rfl := anF X a2
     exact vb X (ps (ps (ps (va (B false) (wln ⟨i0, _, _, rfl, pt, us, m1, rfl⟩)))))
    rintro T w_ ⟨j0, p6, _, rfl, g2, rfl, o0, rfl⟩
    refine nrm (cn s (fun u4 s => ?_) (fun u4 s => ?_))
    ·refine sr (va (I b.2) (va (I (imin g (w64 ((imax 0 (imin d (a.length : Int))) - (imax 0 (imin f (a.length : Int))))))) (va (I (w64 (b.2 + (imin g (w64 ((imax 0 (imin d (a.length : Int))) - (imax 0 (imin f (a.length : Int))))))))) (va (I (w64 (b.2 + (imin g (w64 ((imax 0 (imin d (a.length : Int))) - (imax 0 (imin f (a.length : Int))))))))) (wln (bn s fun n M h => W.seqJ (Jn j0 fun c l => Own c G ((Eb k 71 [.slice f0 g0 h0, B e0.Wrap]) :: es true R_api_Line v15 71 p b.1 :: F) ∧ l = [(0, v1), (1, I (imax 0 (imin f (a.length : Int)))), (2, I (imax 0 (imin d (a.length : Int)))), (3, I (imin g (w64 ((imax 0 (imin d (a.length : Int))) - (imax 0 (imin f (a.length : Int))))))), (4, B q), (11, I (a.length : Int)), (12, v15), (13, I b.2), (14, Q k), (15, I n)]) ?_ ?_))))))
     ·refine sr (va (B q) (va (B (!q)) (wln (cn M (fun v4 M => ?_) (fun v4 M => ?_)))))
      ·refine W.region (va (I b.2) (va (I (imin g (w64 ((imax 0 (imin d (a.length : Int))) - (imax 0 (imin f (a.length : Int))))))) (va (I (w64 (b.2 - (imin g (w64 ((imax 0 (imin d (a.length : Int))) - (imax 0 (imin f (a.length : Int))))))))) (va (I (w64 (b.2 - (imin g (w64 ((imax 0 (imin d (a.length : Int))) - (imax 0 (imin f (a.length : Int))))))))) (wln ?_)))))
       obtain rfl := si M
       exact ⟨j0, _, _, rfl, pt, us, o0, rfl⟩
      refine W.skip (nrm ?_)
      obtain rfl := si M
      exact ⟨j0, _, _, rfl, pt, us, o0, rfl⟩
     rintro T w_ ⟨k6, q6, _, rfl, i2, rfl, k4, rfl⟩
     refine sr (va (v1) (va (I b.2) (bn h fun h1 b2 h => ?_)))
     obtain ⟨e6, w4, c5⟩ := Sl.at (U.mono (l6.trans (d1.trans (e1.trans (f2.trans (g2.trans i2)))))) (idx_get b2)
     obtain ⟨s6, rfl, x4⟩ := w4
     refine vx (ix underlying22 U.m b2) (va (.pointer (some ⟨sb v1, so v1 + b.2.toNat * 2, none⟩)) (vx (l1 underlying69 (c5 0 _ rfl)) (vx (ln 3 underlying69 x4) (bn h fun c4 c2 h => me (Own.mkS (kl := .i64) (kc := .i64) (R := R_api_Cell) (z := .agg #[I 0, Y]) (lz := [I 0, Y]) (x := (⟨0, ([] : List Int)⟩ : G_api_Cell)) (by_ := 32) (i := (h1.Cells.length : Int)) (j := (h1.Cells.length : Int)) true k4 (Nat.succ_pos _) c2 (Int.le_refl _) (rep_le c2) underlying69 (by kernel_rfl) rfl rfl (fun _ => ⟨(Y), rfl, (Sl.nl _ _)⟩) (by kernel_rfl) (by kernel_rfl)) ?_))))
     rintro t6 m6 a5 ⟨e5, l4, b1⟩
     obtain ⟨N, P, S, rfl⟩ := (b1).form
     refine va (.agg #[.slice N P S, B false]) (md (sA 71 [.slice N P S, B false] 1 l4 ⟨(b1).one, rfl, trivial⟩) ?_)
     rintro v0 j2 n1
     refine wln (W.seq (bn h fun k3 d2 h => W.join (Jn v0 fun c l => Own c G (es true R_api_Cell (.slice N P S) 101 e5 c4 :: (Eb k 71 [.slice N P S, B false]) :: es true R_api_Line v15 71 p b.1 :: F) ∧ l = [(0, v1), (1, I (imax 0 (imin f (a.length : Int)))), (2, I (imax 0 (imin d (a.length : Int)))), (3, I (imin g (w64 ((imax 0 (imin d (a.length : Int))) - (imax 0 (imin f (a.length : Int))))))), (4, B q), (11, I (a.length : Int)), (12, v15), (13, I b.2), (14, Q k), (15, I n), (79, B k3)]) ?_ ?_))
     ·clear h
      refine W.region (va (I n) (va (I (imax 0 (imin f (a.length : Int)))) (va (B (decide (n ≥ (imax 0 (imin f (a.length : Int)))))) ?_)))
      rcases bo (decide (n ≥ (imax 0 (imin f (a.length : Int))))) with Z | Z
      ·have g4 := anT Z d2
       refine vb Z (wn (va (I n) (wn (va (I (imax 0 (imin d (a.length : Int)))) (wn (va (B (decide (n < (imax 0 (imin d (a.length : Int)))))) ?_))))))
       obtain rfl := si g4
       exact va (B (decide (n < (imax 0 (imin d (a.length : Int)))))) (wln ⟨v0, _, _, rfl, pt, us, n1, rfl⟩)
      obtain rfl := anF Z d2
      exact vb Z (ps (ps (ps (va (B false) (wln ⟨v0, _, _, rfl, pt, us, n1, rfl⟩)))))
     rintro T w_ ⟨n6, r6, _, rfl, k2, rfl, q1, rfl⟩
     refine nrm (cn h (fun y4 h => ?_) (fun y4 h => ?_))
     ·refine W.region (va (v1) (va (I n) (bn h fun d4 e2 h => ?_)))
      obtain ⟨f6, z4, d5⟩ := Sl.at (U.mono (l6.trans (d1.trans (e1.trans (f2.trans (g2.trans (i2.trans (a5.trans (j2.trans k2))))))))) (idx_get e2)
      obtain ⟨u6, rfl, c1⟩ := z4
      refine vx (ix underlying22 U.m e2) (vx (lN 71 d5) ?_)
      obtain ⟨s1, t1, u1, rfl⟩ := (c1).form
      refine md (sA 71 [.slice s1 t1 u1, B d4.Wrap] 1 q1 ⟨c1.one, rfl, trivial⟩) ?_
      rintro b3 s5 m2
      refine wln ?_
      obtain rfl := si h
      have n2 := m2.sD 3 [1, 2]
      exact ⟨b3, _, _, rfl, pt, us, (.slice s1 t1 u1), n2, rfl, c1.m⟩
     refine W.skip (nrm ?_)
     obtain rfl := si h
     obtain ⟨c3, m3, t5, o2, l3⟩ := q1.frz 0 rfl (b1.mono (j2.trans k2))
     have q2 := o2.sD 3 [1, 2]
     exact ⟨c3, _, _, m3.symm, pt, us, (.slice N P S), q2, rfl, l3⟩
    refine W.skip (nrm ?_)
    obtain rfl := si s
    exact ⟨j0, _, _, rfl, pt, us, (.slice f0 g0 h0), o0, rfl, z0.m⟩
   rintro T w_ ⟨u, o5, _, rfl, u5, rfl, v44, d0, rfl, w0⟩
   refine bn e4 fun t o b0 => W.seqJ (Jn u fun c l => Own c G ((Eb k 71 [v44, B t]) :: es true R_api_Line v15 71 p b.1 :: F) ∧ l = [(0, v1), (1, I (imax 0 (imin f (a.length : Int)))), (2, I (imax 0 (imin d (a.length : Int)))), (3, I (imin g (w64 ((imax 0 (imin d (a.length : Int))) - (imax 0 (imin f (a.length : Int))))))), (4, B q), (11, I (a.length : Int)), (12, v15), (13, I b.2), (14, Q k)]) ?_ ?_
   ·refine W.seq (bn o fun i1 x0 o => W.join (Jn u fun c l => Own c G ((Eb k 71 [v44, B E.2]) :: es true R_api_Line v15 71 p b.1 :: F) ∧ l = [(0, v1), (1, I (imax 0 (imin f (a.length : Int)))), (2, I (imax 0 (imin d (a.length : Int)))), (3, I (imin g (w64 ((imax 0 (imin d (a.length : Int))) - (imax 0 (imin f (a.length : Int))))))), (4, B q), (11, I (a.length : Int)), (12, v15), (13, I b.2), (14, Q k), (97, B i1)]) ?_ ?_)
    ·clear o
     refine W.region (va (I b.2) (va (I (w64 (b.2 + 1))) (va (I (imax 0 (imin f (a.length : Int)))) (va (B ((w64 (b.2 + 1)) == (imax 0 (imin f (a.length : Int))))) ?_))))
     rcases bo ((w64 (b.2 + 1)) == (imax 0 (imin f (a.length : Int)))) with y | y
     ·obtain rfl := orT y x0
      exact vb y (ps (ps (ps (ps (ps (ps (ps (ps (va (B true) (wln ⟨u, _, _, rfl, pt, us, d0, rfl⟩))))))))))
     have D := orF y x0
     refine vb y (wn (va (B q) (wn (va (B (!q)) (wn (bn D fun h5 y0 D => ?_))))))
     rcases bo (!q) with A | A
     ·have l2 := anT A y0
      refine vb A (wn (va (I b.2) (wn (va (I (w64 (b.2 + 1))) (wn (va (I (imax 0 (imin d (a.length : Int)))) (wn (va (B ((w64 (b.2 + 1)) == (imax 0 (imin d (a.length : Int))))) (wn ?_)))))))))
      obtain rfl := si l2
      refine va (B ((w64 (b.2 + 1)) == (imax 0 (imin d (a.length : Int))))) ?_
      obtain rfl := si D
      exact va (B ((w64 (b.2 + 1)) == (imax 0 (imin d (a.length : Int))))) (wln ⟨u, _, _, rfl, pt, us, d0, rfl⟩)
     obtain rfl := anF A y0
     refine vb A (ps (ps (ps (ps (wn (va (B false) ?_))))))
     obtain rfl := si D
     exact va (B false) (wln ⟨u, _, _, rfl, pt, us, d0, rfl⟩)
    rintro T w_ ⟨d3, p5, _, rfl, v5, rfl, l0, rfl⟩
    refine nrm (cn o (fun n3 o => ?_) (fun n3 o => ?_))
    ·refine W.region (va (.pointer (some ⟨k, 1, none⟩)) (md (sC 4 1 (B false) [v44, B false] 0 l0 ⟨rfl, trivial⟩) ?_))
     rintro e3 w5 s2
     refine wln ?_
     obtain rfl := si o
     exact ⟨e3, _, _, rfl, pt, us, s2, rfl⟩
    refine W.skip (nrm ?_)
    obtain rfl := si o
    exact ⟨d3, _, _, rfl, pt, us, l0, rfl⟩
   rintro T w_ ⟨k5, q5, _, rfl, z3, rfl, m0, rfl⟩
   refine W.region (va (v15) (vx (leN 71 0 [v44, B t] (m0.on 0 rfl)) ?_))
   obtain ⟨q0, s0, t0, rfl⟩ := ((w0.mono z3)).form
   refine me (sl R_api_Line 71 [[.slice q0 s0 t0, B t]] ([(⟨E.1, t⟩ : G_api_Line)] : List G_api_Line) m0 ⟨⟨(.slice q0 s0 t0), rfl, w0.m⟩, trivial⟩) ?_
   rintro i6 l5 x5 ⟨h6, t2, o3⟩
   obtain ⟨m5, s3, y5, u2, q3⟩ := t2.frz 0 rfl o3
   refine WL.gh s3 (bn b0 fun i5 t3 b0 => me (ap R_api_Line (.agg #[Y, B false]) 32 22 2 u2 x1.m q3 t3 underlying22) ?_)
   rintro g1 f3 z5 ⟨b4, v2, u3⟩
   refine va (g1) (WL.nil (bkn (nrm (W.region (va (I b.2) (va (I (w64 (b.2 + 1))) (va (I (w64 (b.2 + 1))) (WL.nil ?_))))))))
   obtain rfl := si b0
   refine ⟨_, rfl, ?_⟩
   have w2 := v2.sD 3 [2]
   exact ⟨f3, _, _, rfl, pt, us, g1, b4, w2, rfl, u3⟩
  refine W.exit (thx ?_)
  obtain rfl := si H
  exact ⟨_, rfl, rfl, ⟨n4, _, _, rfl, pt, us, v15, p, k1, rfl, x1⟩⟩
 ·have v3 : OA R_api_Line c6 (Y) [] [] := OA.nil (Nat.succ_pos _)
  have x2 := O8.addHole (e := es true R_api_Line (Y) 71 [] ([] : List G_api_Line)) rfl
  exact ⟨c6, _, _, rfl, pt, us, (Y), [], x2, rfl, v3⟩
 rintro _ T w_ ⟨rfl, n5, r5, _, rfl, a6, rfl, v17, f1, y2, rfl, w3⟩
 refine bke (nrm (sr (va (v17) (va (v17) (wln (W.ret ?_))))))
 obtain rfl := si j1
 obtain ⟨g3, y3, b6, z2, x3⟩ := y2.frz 0 rfl w3
 have a3 := z2.sD 1 []
 exact bqgh y3 (r1 ⟨_, g3, rfl, rfl, pt, v17, a3, rfl, x3⟩)
end Go.Proofs.YthokmpbbkpjhbaaGreatDoor
namespace Go.Proofs.YthokmpbbkpjhbaaGreatDoor
open Go Go.Lt
set_option maxRecDepth 10000
set_option linter.unusedVariables false
attribute [local irreducible] W WL AC
open Tryz
variable {c0 : Cx} {G : Gm} {F : List En} {sg : Sto} {v1 v2 v3 v4 v5 v6 v7 v8 v9 v10 v11 v12 v13 v14 v15 v16 v17 v18 v19 v20 v21 v22 v23 v24 v25 v26 v27 v28 v29 v30 v31 v32 v33 v34 v35 v36 v37 v38 v39 v40 v41 v42 v43 v44 v45 v46 v47 v48 v49 v50 v51 v52 v53 v54 v55 v56 v57 v58 v59 v60 : Value}
def f_scalar_Replace (p0 : List Int) : Option (List Int) :=
 (rep 0 0).bind fun g =>
 (rep (p0.length : Int) 0).bind fun h =>
 (iter (σ := (List Int) × Int) (τ := (List Int)) (((p0.length : Int) - 0).toNat + 1) (fun a =>
 if (decide (a.2 < (p0.length : Int))) = true then
 (idx p0 a.2).bind fun b =>
 ((f_scalar_Valid b).bind fun d =>
 if (!d) = true then
 some (65533)
 else
 some (b)).bind fun f =>
 (app a.1 ([f] : List Int)).bind fun e =>
 some (.inl (e, (w64 (a.2 + 1))))
 else
 some (.inr (a.1))) (g, 0)).bind fun c =>
 some c
theorem c_scalar_Replace (O0 : Own c0 G F) (n : List Int) {r : List Int} (p : Sl (RI .i32) c0 v1 n) (H : f_scalar_Replace n = some r) :
    Calls prog 245 #[v1] c0.w (Post c0 fun c v => ∃ P y2, Own c G (es true (RI .i32) P 21 y2 r :: F) ∧ v = P ∧ OA (RI .i32) c P y2 r) := by
 unfold f_scalar_Replace at H
 refine en func245 rfl rfl (sr (va (Y) (wln (sr (va (v1) (vx (ln 3 underlying27 p) (bn H fun a2 h3 H => bn H fun c2 h4 H => me (Own.mkS (kl := .i64) (kc := .i64) (R := (RI .i32)) (z := J 0) (lz := [J 0]) (x := 0) (by_ := 4) (i := 0) (j := (n.length : Int)) true O0 (Nat.succ_pos _) h3 (rep_nn h4) (rep_le h4) underlying27 (by kernel_rfl) rfl rfl (fun _ => rfl) (by kernel_rfl) (by kernel_rfl)) ?_)))))))
 rintro v9 M l8 ⟨u6, O5, h7⟩
 refine va (v9) (wln (W.seq (sr (va (v1) (vx (ln 3 underlying27 p.m) (va (I 0) (wln (W.block (bn H fun f1 A q => lp A (fun a => Jn M fun c l => ∃ v12 f, Own c G (es true (RI .i32) v12 21 f a.1 :: F) ∧ l = [(3, v12), (9, v1), (10, I (n.length : Int)), (11, I a.2)] ∧ OA (RI .i32) c v12 f a.1) (fun h ex e w => ex = .exit 0 ∧ (Jn M fun c l => ∃ v14 k, Own c G (es true (RI .i32) v14 21 k h :: F) ∧ l = [(3, v14)] ∧ OA (RI .i32) c v14 k h) e w) ?_ ?_ ?_)))))))))
 ·clear q A
  intro a b2 f0 x0 H
  revert f0 x0
  rintro e_ w_ ⟨u, m1, _, rfl, l16, rfl, v12, f, s, rfl, D⟩
  refine sr (va (B (decide (a.2 < (n.length : Int)))) (wln (W.seq (cn H (fun g0 H => ?_) (fun g0 H => ?_)))))
  ·refine W.skip (nrm (W.seq (W.block (sr (bn H fun g E H => ?_)))))
   obtain ⟨e1, h0, u0⟩ := Sl.at (p.mono (l8.trans l16)) (idx_get E)
   obtain rfl := h0
   refine vx (ix underlying27 p.m E) (vx (l1 underlying21 (u0 0 _ rfl)) (va (J g) (wln (bn H fun d b o => W.seqJ (Jn u fun c l => Own c G (es true (RI .i32) v12 21 f a.1 :: F) ∧ l = [(3, v12), (5, J d), (9, v1), (10, I (n.length : Int)), (11, I a.2)]) ?_ ?_))))
   ·refine sr (va (J g) (bn b fun N i0 b => cl (c_scalar_Valid s g i0) ?_))
    rintro v36 y q1 ⟨t, rfl⟩
    refine va (B (!N)) (wln (cn b (fun j0 b => ?_) (fun j0 b => ?_)))
    ·refine W.region (va (J 65533) (wln ?_))
     obtain rfl := si b
     exact ⟨y, _, _, rfl, pt, us, t, rfl⟩
    refine W.skip (nrm ?_)
    obtain rfl := si b
    exact ⟨y, _, _, rfl, pt, us, t, rfl⟩
   rintro e_ w_ ⟨i1, n1, _, rfl, s1, rfl, S, rfl⟩
   refine W.region (va (v12) (va (J d) (me (sl (RI .i32) 21 [[J d]] ([d] : List Int) S ⟨rfl, trivial⟩) ?_)))
   rintro v48 j1 t1 ⟨z1, T, l0⟩
   obtain ⟨k1, o0, u1, U, m0⟩ := T.frz 0 rfl l0
   refine WL.gh o0 (bn o fun h1 q0 o => me (ap (RI .i32) (J 0) 4 27 1 U D.m m0 q0 underlying27) ?_)
   rintro v58 b0 w1 ⟨v0, X, s0⟩
   refine va (v58) (WL.nil (bkn (nrm (W.region (va (I (w64 (a.2 + 1))) (va (I (w64 (a.2 + 1))) (WL.nil ?_)))))))
   obtain rfl := si o
   refine ⟨_, rfl, ?_⟩
   have Z := X.sD 2 [1]
   exact ⟨b0, _, _, rfl, pt, us, v58, v0, Z, rfl, s0⟩
  refine W.exit (thx ?_)
  obtain rfl := si H
  exact ⟨_, rfl, rfl, ⟨u, _, _, rfl, pt, us, v12, f, s, rfl, D⟩⟩
 ·exact ⟨M, _, _, rfl, pt, us, v9, u6, O5, rfl, h7⟩
 rintro _ e_ w_ ⟨rfl, d0, p1, _, rfl, x1, rfl, v14, k, a0, rfl, t0⟩
 refine bke (nrm (sr (va (v14) (va (v14) (wln (W.ret ?_))))))
 obtain rfl := si q
 exact r1 ⟨_, d0, rfl, rfl, pt, v14, k, a0, rfl, t0⟩
def f_cell_Of (p0 : Int) (p1 : List Int) : Option (List G_api_Cell) :=
 (if (decide (p0 ≥ 2)) = true then
 (app ([(⟨0, ([] : List Int)⟩ : G_api_Cell)] : List G_api_Cell) ([(⟨0, ([] : List Int)⟩ : G_api_Cell)] : List G_api_Cell)).bind fun e =>
 some (e)
 else
 some (([(⟨0, ([] : List Int)⟩ : G_api_Cell)] : List G_api_Cell))).bind fun c =>
 if ((p1.length : Int) == 0) = true then
 some c
 else
 (slc p1 0 (imin (p1.length : Int) 16)).bind fun f =>
 (f_scalar_Replace f).bind fun g =>
 (idx c 0).bind fun k =>
 (sets c 0 (⟨1, g⟩ : G_api_Cell)).bind fun a =>
 (if (decide (p0 ≥ 2)) = true then
 (idx a 0).bind fun h =>
 (sets a 0 (⟨2, h.Text⟩ : G_api_Cell)).bind fun b =>
 (idx b 1).bind fun i =>
 (sets b 1 (⟨3, i.Text⟩ : G_api_Cell)).bind fun d =>
 some (d)
 else
 some (a)).bind fun j =>
 some j
theorem c_cell_Of (O0 : Own c0 G F) (i : Int) (A : List Int) {r : List G_api_Cell} (h2 : Sl (RI .i32) c0 v1 A) (H : f_cell_Of i A = some r) :
    Calls prog 200 #[I i, v1] c0.w (Post c0 fun c v => ∃ y1 y2, Own c G (es true R_api_Cell y1 101 y2 r :: F) ∧ v = y1 ∧ OA R_api_Cell c y1 y2 r) := by
 unfold f_cell_Of at H
 refine en func200 rfl rfl (sr (va (Y) (wln (sr (va (.agg #[I 0, Y]) (me (sl R_api_Cell 101 [[I 0, Y]] ([(⟨0, ([] : List Int)⟩ : G_api_Cell)] : List G_api_Cell) O0 ⟨⟨(Y), rfl, (Sl.nl _ _)⟩, trivial⟩) ?_))))))
 rintro v7 c6 l6 ⟨u4, O3, h5⟩
 refine va (v7) (wln (bn H fun a0 h b => W.seqJ (Jn c6 fun c l => ∃ v10 n, Own c G (es true R_api_Cell v10 101 n a0 :: F) ∧ l = [(0, I i), (1, v1), (5, v10)] ∧ OA R_api_Cell c v10 n a0) ?_ ?_))
 ·refine sr (va (I i) (va (B (decide (i ≥ 2))) (wln (cn h (fun b1 h => ?_) (fun b1 h => ?_)))))
  ·refine W.region (va (v7) (va (.agg #[I 0, Y]) (me (sl R_api_Cell 101 [[I 0, Y]] ([(⟨0, ([] : List Int)⟩ : G_api_Cell)] : List G_api_Cell) O3 ⟨⟨(Y), rfl, (Sl.nl _ _)⟩, trivial⟩) ?_)))
   rintro v17 c3 l16 ⟨s3, h0, c1⟩
   obtain ⟨d3, e1, j3, i0, d1⟩ := h0.frz 0 rfl c1
   refine WL.gh e1 (bn h fun a3 f1 h => me (ap R_api_Cell (.agg #[I 0, Y]) 32 69 1 i0 h5.m d1 f1 underlying69) ?_)
   rintro v27 w0 k3 ⟨j2, j0, g1⟩
   refine va (v27) (wln ?_)
   obtain rfl := si h
   have k0 := j0.sD 2 [1]
   exact ⟨w0, _, _, rfl, pt, us, v27, j2, k0, rfl, g1⟩
  refine W.skip (nrm ?_)
  obtain rfl := si h
  exact ⟨c6, _, _, rfl, pt, us, v7, u4, O3, rfl, h5⟩
 rintro e_ w_ ⟨x0, h3, _, rfl, f2, rfl, v10, n, D, rfl, p⟩
 refine W.seq (sr (va (v1) (vx (ln 3 underlying27 h2.m) (va (B ((A.length : Int) == 0)) (wln (cn b (fun h1 b => ?_) (fun h1 b => ?_)))))))
 ·refine sr (va (v10) (va (v10) (wln (W.ret (thr ?_)))))
  obtain rfl := si b
  exact r1 ⟨_, x0, rfl, rfl, pt, v10, n, D, rfl, p⟩
 refine W.skip (nrm (sr (va (v10) (va (v1) (va (v1) (vx (ln 3 underlying27 h2.m) (va (I (imin (A.length : Int) 16)) (bn b fun e0 i1 b => ?_))))))))
 obtain ⟨v38, j1, k1⟩ := run_cutH (k' := .i64) underlying27 (by kernel_rfl) (h2.mono (l6.trans f2)) i1
 refine vr v38 (rx (by kernel_rfl) (j1 _)) (bn b fun s m1 b => cl (c_scalar_Replace D e0 k1 m1) ?_)
 rintro v42 e3 l3 ⟨_, k2, m0, rfl, N⟩
 obtain ⟨e, f, g, rfl⟩ := (N).form
 refine va (.agg #[I 1, .slice e f g]) (bn b fun b3 q1 b => vx (ixO underlying69 p.m q1) ?_)
 obtain ⟨f3, s1, m3, o0, P⟩ := m0.frz 0 rfl N
 refine WL.gh s1 (bn b fun w2 t1 b => md (Own.stW (R := R_api_Cell) (T := 101) (us := [I 1, .slice e f g]) (x' := (⟨1, s⟩ : G_api_Cell)) (u := .agg #[I 1, .slice e f g]) 1 o0 (by kernel_rfl) rfl p.m t1 rfl (by kernel_rfl) ⟨rfl, P.one, trivial⟩ rfl ⟨(.slice e f g), rfl, P⟩) ?_)
 rintro M n3 ⟨l2, E, k⟩
 refine wln (bn b fun z a g0 => W.seqJ (Jn M fun c l => ∃ d o, Own c G (es true R_api_Cell d 101 o z :: es false (RI .i32) (.slice e f g) 21 k2 s :: F) ∧ l = [(5, d)] ∧ OA R_api_Cell c d o z) ?_ ?_)
 ·refine sr (va (I i) (va (B (decide (i ≥ 2))) (wln (cn a (fun u1 a => ?_) (fun u1 a => ?_)))))
  ·refine W.region (va (v10) (va (v10) (bn a fun t S a => vx (ixO underlying69 k S) (va (.pointer (some ⟨sb v10, (0 : Int).toNat * 2, none⟩)) ?_))))
   obtain ⟨s2, w1, g2⟩ := OA.at k S
   obtain ⟨X, rfl, x1⟩ := w1
   refine bn a fun x2 z1 a => md (Own.stO (R := R_api_Cell) (T := 3) (us := [I 2]) (x' := (⟨2, t.Text⟩ : G_api_Cell)) (u := I 2) (x := (⟨2, t.Text⟩ : G_api_Cell)) (j := 0) (l' := [I 2, X]) 1 E (by kernel_rfl) rfl k z1 g2 rfl (by kernel_rfl) ⟨rfl, trivial⟩ (by kernel_rfl) rfl ⟨X, rfl, x1⟩) ?_
   rintro g3 o3 ⟨t3, q0, q⟩
   refine bn a fun y U a => vx (ixO underlying69 q U) (va (.pointer (some ⟨sb v10, (1 : Int).toNat * 2, none⟩)) ?_)
   obtain ⟨t2, a2, i2⟩ := OA.at q U
   obtain ⟨Z, rfl, b2⟩ := a2
   refine bn a fun z2 c2 a => md (Own.stO (R := R_api_Cell) (T := 3) (us := [I 3]) (x' := (⟨3, y.Text⟩ : G_api_Cell)) (u := I 3) (x := (⟨3, y.Text⟩ : G_api_Cell)) (j := 0) (l' := [I 3, Z]) 1 q0 (by kernel_rfl) rfl q c2 i2 rfl (by kernel_rfl) ⟨rfl, trivial⟩ (by kernel_rfl) rfl ⟨Z, rfl, b2⟩) ?_
   rintro z0 p3 ⟨m2, s0, d2⟩
   refine wln ?_
   obtain rfl := si a
   have t0 := s0.sD 2 [1, 0]
   exact ⟨z0, _, _, rfl, pt, us, v10, m2, t0, rfl, d2⟩
  refine W.skip (nrm ?_)
  obtain rfl := si a
  have u0 := E.sD 2 [1, 0]
  exact ⟨M, _, _, rfl, pt, us, v10, l2, u0, rfl, k⟩
 rintro e_ w_ ⟨a1, i3, _, rfl, q3, rfl, d, o, v0, rfl, e2⟩
 refine sr (va (d) (va (d) (wln (W.ret ?_))))
 obtain rfl := si g0
 have b0 := v0.sD 2 [0]
 exact r1 ⟨_, a1, rfl, rfl, pt, d, o, b0, rfl, e2⟩
def f_mark_Put (sg : Sto) (p0 : Option Nat) (p1 : Int) (p2 : Int) (p3 : List Int) : Option (Sto × Er) :=
 (f_cell_Of p2 p3).bind fun b =>
 (f_row_Row_Paint sg p0 p1 b).bind fun a =>
 some (a.1, a.2)
theorem c_mark_Put (u : Own c0 G F) (x : Rel c0 sg G) (hG : Gl [0, 4] c0) (d : Option Nat) (a : Int) (b : Int) (e : List Int) {r : Sto × Er} (y : Pt 0 c0 v1 d) (z : Sl (RI .i32) c0 v3 e) (H : f_mark_Put sg d a b e = some r) :
    Calls prog 129 #[v1, I a, I b, v3] c0.w (Post c0 fun c v => ∃ t, ∃ G_ : Gm, Own c G_ (F) ∧ Rel c r.1 G_ ∧ v = t ∧ RE 305 179 c t r.2) := by
 unfold f_mark_Put at H
 refine en func129 rfl rfl (sr (va (.nilIface) (wln (sr (va (v1) (va (I a) (va (I b) (va (v3) (bn H fun s A H => cl (c_cell_Of u b e z A) ?_)))))))))
 rintro v6 E N ⟨_, T, g, rfl, D⟩
 obtain ⟨M, o, P, h, n⟩ := g.frz 0 rfl D
 refine WL.gh o (bn H fun S p H => cl (c_row_Row_Paint h x.m (hG.m.le (by decide)) d a s y.m n p) ?_)
 rintro v20 l R ⟨_, f, i, k, rfl, q⟩
 refine va (v20) (wln (W.ret ?_))
 obtain rfl := si H
 have j := i.sD 1 []
 exact r1 ⟨_, l, rfl, rfl, pt, v20, f, j, k, rfl, q⟩
def f_mark_At (sg : Sto) (p0 : Option Nat) (p1 : Int) : Option (Int × G_api_Item × Bool) :=
 (f_row_Row_Cell sg p0 p1).bind fun b =>
 ((andE b.2 (some (b.1.Kind == 3))).bind fun d =>
 if d = true then
 (f_row_Row_Cell sg p0 (w64 (p1 - 1))).bind fun c =>
 some ((w64 (p1 - 1)), c.2, c.1.Kind, c.1.Text)
 else
 some (p1, b.2, b.1.Kind, b.1.Text)).bind fun a =>
 (andE a.2.1 (some (a.2.2.1 == 1))).bind fun e =>
 if e = true then
 some (a.1, (⟨1, a.2.2.2⟩ : G_api_Item), true)
 else
 (andE a.2.1 (some (a.2.2.1 == 2))).bind fun f =>
 if f = true then
 some (a.1, (⟨2, a.2.2.2⟩ : G_api_Item), true)
 else
 some (0, (⟨0, ([] : List Int)⟩ : G_api_Item), false)
theorem c_mark_At (O0 : Own c0 G F) (R0 : Rel c0 sg G) (p0 : Option Nat) (j : Int) {r : Int × G_api_Item × Bool} (h2 : Pt 0 c0 v1 p0) (H : f_mark_At sg p0 j = some r) :
    Calls prog 155 #[v1, I j] c0.w (Post c0 fun c v => ∃ y1 y2, Own c G (es true (RI .i32) y1 21 y2 r.2.1.Text :: F) ∧ v = .tuple #[I r.1, .agg #[I r.2.1.Wide, y1], B r.2.2] ∧ OA (RI .i32) c y1 y2 r.2.1.Text) := by
 unfold f_mark_At at H
 refine en func155 rfl rfl (sr (va (I 0) (me (al 197 [I 0, Y] O0) ?_)))
 rintro v6 c5 l5 ⟨u, rfl, O4⟩
 refine va (B false) (wln (sr (va (v1) (va (I j) (bn H fun f h7 H => cl (c_row_Row_Cell O4 R0.m p0 j h2.m h7) ?_)))))
 rintro v16 c3 k3 ⟨v8, u9, k1, rfl, e0⟩
 refine va (.tuple #[.agg #[I f.1.Kind, v8], B f.2]) (va (.agg #[I f.1.Kind, v8]) (va (B f.2) (me (al 101 [I 0, Y] k1) ?_)))
 rintro v20 d3 j2 ⟨b, rfl, m1⟩
 obtain ⟨N, P, R, rfl⟩ := ((e0.mono j2)).form
 refine md (sA 101 [I f.1.Kind, .slice N P R] 0 m1 ⟨rfl, e0.m.one, trivial⟩) ?_
 rintro S l3 U
 refine va (B f.2) (wln (bn H fun a g d => W.seqJ (Jn S fun c l => ∃ v28 i, Own c G (es true (RI .i32) v28 21 i a.2.2.2 :: (Eb b 101 [I a.2.2.1, v28]) :: (Eb u 197 [I 0, Y]) :: F) ∧ l = [(1, I a.1), (5, Q u), (6, B a.2.1), (7, Q b)] ∧ OA (RI .i32) c v28 i a.2.2.2) ?_ ?_))
 ·refine W.seq (bn g fun y0 q0 g => W.join (Jn S fun c l => Own c G ((Eb b 101 [I f.1.Kind, .slice N P R]) :: es true (RI .i32) (.slice N P R) 21 u9 f.1.Text :: (Eb u 197 [I 0, Y]) :: F) ∧ l = [(0, v1), (1, I j), (5, Q u), (6, B f.2), (7, Q b), (19, B y0)]) ?_ ?_)
  ·clear g
   refine W.region (va (B f.2) ?_)
   rcases bo (f.2) with x | x
   ·have h1 := anT x q0
    refine vb x (wn (va (Q b) (wn (vx (le1 0 underlying3 (U.on 0 rfl)) (wn (va (B (f.1.Kind == 3)) ?_))))))
    obtain rfl := si h1
    exact va (B (f.1.Kind == 3)) (wln ⟨S, _, _, rfl, pt, us, U, rfl⟩)
   obtain rfl := anF x q0
   exact vb x (ps (ps (ps (va (B false) (wln ⟨S, _, _, rfl, pt, us, U, rfl⟩)))))
  rintro e_ w_ ⟨x1, g3, _, rfl, m3, rfl, h0, rfl⟩
  refine nrm (cn g (fun d2 g => ?_) (fun d2 g => ?_))
  ·refine sr (va (I j) (va (I (w64 (j - 1))) (va (I (w64 (j - 1))) (wln (W.region (va (v1) (va (I (w64 (j - 1))) (bn g fun h e2 g => cl (c_row_Row_Cell h0 R0.m p0 (w64 (j - 1)) h2.m e2) ?_))))))))
   rintro v49 e3 n3 ⟨v41, q2, n1, rfl, f0⟩
   refine va (.tuple #[.agg #[I h.1.Kind, v41], B h.2]) (va (.agg #[I h.1.Kind, v41]) (va (B h.2) ?_))
   obtain ⟨l0, m0, o0, rfl⟩ := (f0).form
   refine md (sA 101 [I h.1.Kind, .slice l0 m0 o0] 1 n1 ⟨rfl, (f0).one, trivial⟩) ?_
   rintro z1 o3 q1
   refine va (B h.2) (wln ?_)
   obtain rfl := si g
   have s1 := q1.sD 4 [0, 1, 3]
   exact ⟨z1, _, _, rfl, pt, us, (.slice l0 m0 o0), q2, s1, rfl, f0.m⟩
  refine W.skip (nrm ?_)
  obtain rfl := si g
  have t1 := h0.sD 3 [1, 0, 2]
  exact ⟨x1, _, _, rfl, pt, us, (.slice N P R), u9, t1, rfl, e0.m⟩
 rintro e_ w_ ⟨a0, h3, _, rfl, p3, rfl, v28, i, X, rfl, k⟩
 refine W.seq (W.block (W.seq (bn d fun z0 s0 d => W.join (Jn a0 fun c l => Own c G (es true (RI .i32) v28 21 i a.2.2.2 :: (Eb b 101 [I a.2.2.1, v28]) :: (Eb u 197 [I 0, Y]) :: F) ∧ l = [(1, I a.1), (5, Q u), (6, B a.2.1), (7, Q b), (28, B z0)]) ?_ ?_)))
 ·clear d
  refine W.region (va (B a.2.1) ?_)
  rcases bo (a.2.1) with y | y
  ·have i1 := anT y s0
   refine vb y (wn (va (Q b) (wn (vx (le1 0 underlying3 (X.on 1 rfl)) (wn (va (B (a.2.2.1 == 1)) ?_))))))
   obtain rfl := si i1
   exact va (B (a.2.2.1 == 1)) (va (B (a.2.2.1 == 1)) (wln ⟨a0, _, _, rfl, pt, us, X, rfl⟩))
  obtain rfl := anF y s0
  exact vb y (ps (ps (ps (va (B false) (va (B false) (wln ⟨a0, _, _, rfl, pt, us, X, rfl⟩))))))
 rintro e_ w_ ⟨b0, i3, _, rfl, u0, rfl, M, rfl⟩
 refine nrm (cn d (fun f2 d => ?_) (fun f2 d => ?_))
 ·refine W.seq (rD [] (Kp G0 [(Eb b 101 [I a.2.2.1, v28])]) M ?_)
  intro a2 k2 i0
  have n2 : Kp G0 [(Eb b 101 [I a.2.2.1, v28])] a2 := (Kp.cons (i0.on 1 rfl) Kp.nil0)
  refine ta 0 (I a.1) (ta 1 (.pointer (some ⟨b, 1, none⟩)) (tkx 2 n2 (fun c' i2 hk => le1 1 underlying27 (hk.on 0 rfl)) ?_))
  obtain ⟨n, o, p, rfl⟩ := ((k.mono (u0.trans k2))).form
  refine ta 3 (.agg #[I 1, .slice n o p]) (ta 4 (I a.1) (o1 5 (gD 5 (sA 197 [I 1, .slice n o p] 2 i0 ⟨rfl, k.m.one, trivial⟩) ?_)))
  rintro d0 q3 Z
  have o2 : Kp G0 [(Eb b 101 [I a.2.2.1, (.slice n o p)])] d0 := (Kp.cons (Z.on 1 rfl) Kp.nil0)
  refine ⟨.inr o2, ta 6 (B true) (dn (nrm (W.ret (bkr (thr ?_)))))⟩
  obtain rfl := si d
  have u1 := Z.sD 3 [0]
  exact retTCT (c := d0) (vs := [I 1, .slice n o p]) (v := B true) (v' := I a.1) rfl (by kernel_rfl) (by kernel_rfl) (by kernel_rfl) (by kernel_rfl) (by kernel_rfl) (Z.on 2 rfl _ rfl).1 ⟨_, d0, rfl, rfl, pt, (.slice n o p), i, u1, rfl, k.m⟩
 refine W.seq (bn d fun a1 t0 d => W.join (Jn b0 fun c l => Own c G (es true (RI .i32) v28 21 i a.2.2.2 :: (Eb b 101 [I a.2.2.1, v28]) :: (Eb u 197 [I 0, Y]) :: F) ∧ l = [(1, I a.1), (5, Q u), (7, Q b), (39, B a1)]) ?_ ?_)
 ·clear d
  refine W.region (va (B a.2.1) ?_)
  rcases bo (a.2.1) with z | z
  ·have j1 := anT z t0
   refine vb z (wn (va (Q b) (wn (vx (le1 0 underlying3 (M.on 1 rfl)) (wn (va (B (a.2.2.1 == 2)) ?_))))))
   obtain rfl := si j1
   exact va (B (a.2.2.1 == 2)) (va (B (a.2.2.1 == 2)) (wln ⟨b0, _, _, rfl, pt, us, M, rfl⟩))
  obtain rfl := anF z t0
  exact vb z (ps (ps (ps (va (B false) (va (B false) (wln ⟨b0, _, _, rfl, pt, us, M, rfl⟩))))))
 rintro e_ w_ ⟨f3, j3, _, rfl, l2, rfl, j0, rfl⟩
 refine nrm (cn d (fun g2 d => ?_) (fun g2 d => ?_))
 ·refine W.seq (rD [] (Kp G0 [(Eb b 101 [I a.2.2.1, v28])]) j0 ?_)
  intro b2 m2 k0
  have p2 : Kp G0 [(Eb b 101 [I a.2.2.1, v28])] b2 := (Kp.cons (k0.on 1 rfl) Kp.nil0)
  refine ta 0 (I a.1) (ta 1 (.pointer (some ⟨b, 1, none⟩)) (tkx 2 p2 (fun c' i2 hk => le1 1 underlying27 (hk.on 0 rfl)) ?_))
  obtain ⟨q, s, t, rfl⟩ := ((k.mono (u0.trans (l2.trans m2)))).form
  refine ta 3 (.agg #[I 2, .slice q s t]) (ta 4 (I a.1) (o1 5 (gD 5 (sA 197 [I 2, .slice q s t] 2 k0 ⟨rfl, k.m.one, trivial⟩) ?_)))
  rintro D z2 A
  have e1 : Kp G0 [(Eb b 101 [I a.2.2.1, (.slice q s t)])] D := (Kp.cons (A.on 1 rfl) Kp.nil0)
  refine ⟨.inr e1, ta 6 (B true) (dn (nrm (W.ret (bkr (thr ?_)))))⟩
  obtain rfl := si d
  have v0 := A.sD 3 [0]
  exact retTCT (c := D) (vs := [I 2, .slice q s t]) (v := B true) (v' := I a.1) rfl (by kernel_rfl) (by kernel_rfl) (by kernel_rfl) (by kernel_rfl) (by kernel_rfl) (A.on 2 rfl _ rfl).1 ⟨_, D, rfl, rfl, pt, (.slice q s t), i, v0, rfl, k.m⟩
 refine W.skip (bkn (nrm (sr (va (.agg #[I 0, Y]) (va (I 0) (md (sA 197 [I 0, Y] 2 j0 ⟨rfl, rfl, trivial⟩) ?_))))))
 rintro E a3 w0
 refine va (B false) (wln (W.ret ?_))
 obtain rfl := si d
 have c1 : OA (RI .i32) E (Y) [] [] := OA.nil (Nat.succ_pos _)
 have T := w0.addHole (e := es true (RI .i32) (Y) 21 [] ([] : List Int)) rfl
 have x0 := T.sD 4 [0]
 exact retTCT (c := E) (vs := [I 0, Y]) (v := B false) (v' := I 0) rfl (by kernel_rfl) (by kernel_rfl) (by kernel_rfl) (by kernel_rfl) (by kernel_rfl) (T.on 3 rfl _ rfl).1 ⟨_, E, rfl, rfl, pt, (Y), [], x0, rfl, c1⟩
def f_mark_Add (sg : Sto) (p0 : Option Nat) (p1 : Int) (p2 : Int) : Option (Sto × Bool) :=
 (f_mark_At sg p0 p1).bind fun a =>
 (orE (!a.2.2) (some (decide ((a.2.1.Text.length : Int) ≥ 16)))).bind fun c =>
 if c = true then
 some (sg, false)
 else
 (app a.2.1.Text ([p2] : List Int)).bind fun d =>
 (f_mark_Put sg p0 a.1 a.2.1.Wide d).bind fun b =>
 some (b.1, b.2.isNil)
theorem c_mark_Add (O0 : Own c0 G F) (R : Rel c0 sg G) (hG : Gl [0, 4] c0) (q : Option Nat) (s : Int) (h : Int) {r : Sto × Bool} (h2 : Pt 0 c0 v1 q) (H : f_mark_Add sg q s h = some r) :
    Calls prog 85 #[v1, I s, J h] c0.w (Post c0 fun c v => ∃ G_ : Gm, Own c G_ (F) ∧ Rel c r.1 G_ ∧ v = B r.2) := by
 unfold f_mark_Add at H
 refine en func85 rfl rfl (sr (va (B false) (wln (sr (va (v1) (va (I s) (bn H fun a h3 H => cl (c_mark_At O0 R q s h2 h3) ?_)))))))
 rintro v12 q1 u1 ⟨v4, u5, O8, rfl, p⟩
 refine va (.tuple #[I a.1, .agg #[I a.2.1.Wide, v4], B a.2.2]) (va (I a.1) (va (.agg #[I a.2.1.Wide, v4]) (va (B a.2.2) (me (al 197 [I 0, Y] O8) ?_))))
 rintro v16 s1 a1 ⟨b, rfl, a0⟩
 refine va (I a.1) ?_
 obtain ⟨d, e, f, rfl⟩ := ((p.mono a1)).form
 refine md (sA 197 [I a.2.1.Wide, .slice d e f] 0 a0 ⟨rfl, p.m.one, trivial⟩) ?_
 rintro j w1 i
 refine va (B a.2.2) (wln (W.seq (W.seq (bn H fun S M H => W.join (Jn j fun c l => Own c G ((Eb b 197 [I a.2.1.Wide, .slice d e f]) :: es true (RI .i32) (.slice d e f) 21 u5 a.2.1.Text :: F) ∧ l = [(0, v1), (2, J h), (7, I a.1), (8, Q b), (24, B S)]) ?_ ?_))))
 ·clear H
  refine W.region (va (B a.2.2) (va (B (!a.2.2)) ?_))
  rcases bo (!a.2.2) with g | g
  ·obtain rfl := orT g M
   exact vb g (ps (ps (ps (ps (va (B true) (wln ⟨j, _, _, rfl, pt, us, i, rfl⟩))))))
  have Z := orF g M
  refine vb g (wn (va (.pointer (some ⟨b, 1, none⟩)) (wn (vx (le1 1 underlying27 (i.on 0 rfl)) (wn (vx (lnO 3 underlying27 p.m) (wn (va (B (decide ((a.2.1.Text.length : Int) ≥ 16))) ?_))))))))
  obtain rfl := si Z
  exact va (B (decide ((a.2.1.Text.length : Int) ≥ 16))) (wln ⟨j, _, _, rfl, pt, us, i, rfl⟩)
 rintro e_ w_ ⟨g0, t1, _, rfl, x1, rfl, t, rfl⟩
 refine nrm (cn H (fun o0 H => ?_) (fun o0 H => ?_))
 ·refine sr (va (B false) (wln (W.ret (thr ?_))))
  obtain rfl := si H
  have b0 := t.sD 2 []
  exact r1 ⟨_, g0, rfl, rfl, pt, G, b0, R.m, rfl⟩
 refine W.skip (nrm (W.seq (rD [] (Kp G0 [(Eb b 197 [I a.2.1.Wide, .slice d e f])]) t ?_)))
 intro h0 y1 u
 have P : Kp G0 [(Eb b 197 [I a.2.1.Wide, .slice d e f])] h0 := (Kp.cons (u.on 0 rfl) Kp.nil0)
 refine ta 0 (v1) (ta 1 (I a.1) (ta 2 (Q b) (tkx 3 P (fun c' N T => le1 0 underlying3 (T.on 0 rfl)) (ta 4 (.pointer (some ⟨b, 1, none⟩)) (tkx 5 P (fun c' N T => le1 1 underlying27 (T.on 0 rfl)) (ta 6 (J h) (o1 7 (gm 7 (sl (RI .i32) 21 [[J h]] ([h] : List Int) u ⟨rfl, trivial⟩) ?_))))))))
 rintro v40 i0 z1 ⟨c2, x, q0⟩
 have d1 : Kp G0 [(Eb b 197 [I a.2.1.Wide, .slice d e f])] i0 := (Kp.cons (x.on 1 rfl) Kp.nil0)
 refine ⟨.inr d1, ?_⟩
 obtain ⟨j0, t0, b1, y, s0⟩ := x.frz 0 rfl q0
 have e1 : Kp G0 [(Eb b 197 [I a.2.1.Wide, .slice d e f])] j0 := (Kp.cons (y.on 1 rfl) Kp.nil0)
 refine AC.gh t0 b1 (fun _ => e1) (bn H fun U u0 H => o1 8 (gm 8 (ap (RI .i32) (J 0) 4 27 2 y p.m s0 u0 underlying27) ?_))
 rintro v52 k0 a2 ⟨d2, z, v0⟩
 have f1 : Kp G0 [(Eb b 197 [I a.2.1.Wide, .slice d e f])] k0 := (Kp.cons (z.on 1 rfl) Kp.nil0)
 refine ⟨.inr f1, ?_⟩
 obtain ⟨l0, x0, c1, A, w0⟩ := z.frz 2 rfl v0
 have g1 : Kp G0 [(Eb b 197 [I a.2.1.Wide, .slice d e f])] l0 := (Kp.cons (A.on 1 rfl) Kp.nil0)
 refine AC.gh x0 c1 (fun _ => g1) (bn H fun o y0 H => o1 9 (gc 9 (c_mark_Put A R.m (hG.m.le (by decide)) q a.1 a.2.1.Wide U h2.m w0 y0) ?_))
 rintro v60 E b2 ⟨_, X, D, e0, rfl, z0⟩
 have h1 : Kp G0 [(Eb b 197 [I a.2.1.Wide, .slice d e f])] E := (Kp.cons (D.on 1 rfl) Kp.nil0)
 refine ⟨.inr h1, AC.take 10 (B o.2.isNil) rfl (by kernel_rfl) (by kernel_rfl) (fun c' N => (by rcases (z0).cs with ⟨k, n⟩ | ⟨b_, k, n⟩ | ⟨b_, k, n⟩ <;> (subst k; rw [n]; kernel_rfl))) (ta 11 (B o.2.isNil) (dn (nrm (W.ret ?_))))⟩
 obtain rfl := si H
 have d0 := D.sD 3 []
 exact r1 ⟨_, E, rfl, rfl, pt, X, d0, e0, rfl⟩
end Go.Proofs.YthokmpbbkpjhbaaGreatDoor
namespace Go.Proofs.YthokmpbbkpjhbaaGreatDoor
open Go Go.Lt
set_option maxRecDepth 10000
set_option linter.unusedVariables false
attribute [local irreducible] W WL AC
open Tryz
variable {c0 : Cx} {G : Gm} {F : List En} {sg : Sto} {v1 v2 v3 v4 v5 v6 v7 v8 v9 v10 v11 v12 v13 v14 v15 v16 v17 v18 v19 v20 v21 v22 v23 v24 v25 v26 v27 v28 v29 v30 v31 v32 v33 v34 v35 v36 v37 v38 v39 v40 v41 v42 v43 v44 v45 v46 v47 v48 v49 v50 v51 v52 v53 v54 v55 v56 v57 v58 v59 v60 : Value}
def f_grid_New (sg : Sto) (p0 : Int) (p1 : Int) : Option (Sto × (Option Nat)) :=
 (some (sg.add_grid_Grid (⟨([] : List (Option Nat))⟩ : G_grid_Grid))).bind fun c =>
 (iter (σ := Int × Sto) (τ := Sto) (((imax 1 (imin p1 1024)) - 0).toNat + 1) (fun a =>
 if (decide (a.1 < (imax 1 (imin p1 1024)))) = true then
 (a.2.grid_Grid[sg.grid_Grid.length]?).bind fun f =>
 (f_row_New a.2 p0).bind fun d =>
 (app f.rows ([d.2] : List (Option Nat))).bind fun g =>
 (d.1.set_grid_Grid sg.grid_Grid.length (⟨g⟩ : G_grid_Grid)).bind fun b =>
 some (.inl ((w64 (a.1 + 1)), b))
 else
 some (.inr (a.2))) (0, c)).bind fun e =>
 some (e, (some sg.grid_Grid.length))
theorem c_grid_New (O0 : Own c0 G F) (R0 : Rel c0 sg G) (y : Int) (n : Int) {r : Sto × (Option Nat)} (H : f_grid_New sg y n = some r) :
    Calls prog 114 #[I y, I n] c0.w (Post c0 fun c v => ∃ y1, ∃ G_ : Gm, Own c G_ (F) ∧ Rel c r.1 G_ ∧ Adds G G_ ∧ v = y1 ∧ Pt 1 c y1 r.2) := by
 unfold f_grid_New at H
 refine en func114 rfl rfl (sr (va (.pointer none) (wln (sr (va (.agg #[Y]) ?_)))))
 have h2 : OA (RP 0) c0 (Y) [] [] := OA.nil (Nat.succ_pos _)
 have O1 := O0.addHole (e := es true (RP 0) (Y) 116 [] ([] : List (Option Nat))) rfl
 refine me (al 122 [(Y)] O1) ?_
 rintro v6 c5 l5 ⟨a, rfl, O4⟩
 have O7 := O4.sD 2 [0, 1]
 refine bn H fun p2 h8 H => ?_
 obtain ⟨z, l0, t1, l9, p, q0, U, k3, u1, a16⟩ := Rel.new_grid_Grid (E := [(Eb a 122 [(Y)]), es true (RP 0) (Y) 116 [] ([] : List (Option Nat))]) (F := F) (x := (⟨([] : List (Option Nat))⟩ : G_grid_Grid)) (b := a) O7 (R0.mono l5) (fun c_ hle_ => ⟨a, (Y), [], rfl, rfl, ((h2.mono l5).mono hle_)⟩)
 rw [Option.some.inj h8] at U
 refine WL.gh t1.1 ?_
 have v1 := Adds.nil (Adds.refl _) u1
 have c1 := (Adds.refl _).trans a16
 have w1 : Pt 1 z (Q a) (some sg.grid_Grid.length) := ⟨a, rfl, p⟩
 refine va (Q a) (wln (W.seq (sr (va (I n) (va (I (imin n 1024)) (va (I (imax 1 (imin n 1024))) (va (I 0) (wln (W.block (bn H fun d3 a0 D => lp a0 (fun d => Jn z fun c l => ∃ G_, Own c G_ (F) ∧ l = [(0, I y), (5, Q a), (10, I (imax 1 (imin n 1024))), (11, I d.1)] ∧ Rel c d.2 G_ ∧ Adds G G_) (fun A ex e w => ex = .exit 0 ∧ (Jn z fun c l => ∃ G_, Own c G_ (F) ∧ l = [(5, Q a)] ∧ Rel c A G_ ∧ Adds G G_) e w) ?_ ?_ ?_))))))))))
 ·clear D a0
  intro d s3 s1 q2 H
  revert s1 q2
  rintro e_ w_ ⟨h1, i3, _, rfl, i2, rfl, f, M, rfl, o, X⟩
  refine sr (va (B (decide (d.1 < (imax 1 (imin n 1024))))) (wln (W.seq (cn H (fun x1 H => ?_) (fun x1 H => ?_)))))
  ·refine W.skip (nrm (W.seq (W.block (rD [8, 11] (Kp f []) M ?_))))
   intro i1 e0 N
   have l2 : Kp f [] i1 := (Kp.nil N)
   refine ta 0 (Q a) (ta 1 (Q a) (ta 2 (Q a) (ta 3 (Q a) (bn H fun e3 z1 H => ?_))))
   obtain ⟨v35, o3, b0, a2⟩ := Rel.open_grid_Grid (o.mono e0) z1 (tm p)
   refine tkx 4 l2 (fun c' m3 hk => le1 0 underlying120 (hk.gon b0 0 rfl)) (ta 5 (I y) (bn H fun i0 b2 H => o1 6 (gc 6 (c_row_New N o.m y b2) ?_)))
   rintro v40 j1 j2 ⟨_, g3, P, z0, k, rfl, d0⟩
   have d1 := X.trans k
   have m2 : Kp f [] j1 := (Kp.adds P k)
   refine ⟨.inr m2, ?_⟩
   obtain ⟨Z, rfl⟩ := (d0).form
   refine o1 7 (gm 7 (sl (RP 0) 116 [[.pointer Z]] ([i0.2] : List (Option Nat)) P ⟨⟨(.pointer Z), rfl, d0⟩, trivial⟩) ?_)
   rintro v55 k1 f0 ⟨p3, R, c2⟩
   have n2 : Kp f [] k1 := (Kp.adds R k)
   refine ⟨.inr n2, ?_⟩
   obtain ⟨m1, e2, s, S, d2⟩ := R.frz 0 rfl c2
   have o2 : Kp f [] m1 := (Kp.adds S k)
   refine AC.gh e2 s (fun _ => o2) (bn H fun j0 f2 H => ?_)
   have s0 := S.borrow 1 (k.get b0) rfl
   refine o1 8 (gm 8 (ap (RP 0) (.pointer none) 8 120 0 s0 a2.m d2 f2 underlying120) ?_)
   rintro q3 h3 g0 ⟨h0, t0, q⟩
   have u0 := t0.giveB 1 rfl
   refine ⟨.inl rfl, ta 9 (Q a) (ta 10 (Q a) ?_)⟩
   obtain ⟨g, h, i, rfl⟩ := (q).form
   refine o1 11 (gD 11 (Own.stGB (T := 120) (j := 0) (us := [.slice g h i]) (nw := [.slice g h i]) (v := .slice g h i) 0 u0 (by kernel_rfl) rfl rfl rfl rfl (by kernel_rfl) ⟨(q).one, trivial⟩ (by kernel_rfl) rfl) ?_)
   rintro n1 u v0
   refine bn H fun k0 g2 H => ?_
   obtain ⟨m0, w0, a1, l3, e1⟩ := Rel.put_grid_Grid v0 (z0.mono (f0.trans (s.trans (g0.trans u)))) (E' := [(Eb a 122 [.slice g h i]), es true (RP 0) (.slice g h i) 116 h0 j0]) g2 ⟨a, (.slice g h i), h0, ((i2.trans (e0.trans (j2.trans (f0.trans (s.trans (g0.trans u)))))).t _ _ _ p), rfl, (q.mono u)⟩
   have f1 := e1 _ d1 v1
   refine ⟨.inl rfl, dn (bkn (nrm (W.region (va (I (w64 (d.1 + 1))) (va (I (w64 (d.1 + 1))) (WL.nil ?_))))))⟩
   obtain rfl := si H
   refine ⟨_, rfl, ?_⟩
   have x0 := w0.sD 1 []
   exact ⟨n1, _, _, rfl, pt, us, m0, x0, rfl, a1, f1⟩
  refine W.exit (thx ?_)
  obtain rfl := si H
  exact ⟨_, rfl, rfl, ⟨h1, _, _, rfl, pt, us, f, M, rfl, o, X⟩⟩
 ·exact ⟨z, _, _, rfl, pt, us, l0, q0, rfl, U, c1⟩
 rintro _ e_ w_ ⟨rfl, q1, j3, _, rfl, n3, rfl, o0, y0, rfl, b1, g1⟩
 refine bke (nrm (sr (va (Q a) (va (Q a) (wln (W.ret ?_))))))
 obtain rfl := si D
 exact r1 ⟨_, q1, rfl, rfl, pt, (Q a), o0, y0, b1, g1, rfl, w1.m⟩
def f_place_New (sg : Sto) (p0 : Int) (p1 : Int) : Option (Sto × (Option Nat)) :=
 (f_grid_New sg p0 p1).bind fun b =>
 (some (b.1.add_place_Pen (⟨b.2, (⟨0, 0, false⟩ : G_api_Cursor), true⟩ : G_place_Pen))).bind fun a =>
 some (a, (some b.1.place_Pen.length))
theorem c_place_New (N : Own c0 G F) (R : Rel c0 sg G) (e : Int) (f : Int) {r : Sto × (Option Nat)} (H : f_place_New sg e f = some r) :
    Calls prog 45 #[I e, I f] c0.w (Post c0 fun c v => ∃ M, ∃ G_ : Gm, Own c G_ (F) ∧ Rel c r.1 G_ ∧ Adds G G_ ∧ v = M ∧ Pt 2 c M r.2) := by
 unfold f_place_New at H
 refine en func45 rfl rfl (sr (va (.pointer none) (wln (sr (va (I e) (va (I f) (bn H fun k U H => cl (c_grid_New N R e f U) ?_)))))))
 rintro v2 c8 l8 ⟨_, G4, P, S, T, rfl, z⟩
 have h := (Adds.refl _).trans T
 obtain ⟨d, rfl⟩ := (z).form
 refine va (.agg #[.pointer d, I 0, I 0, B false, B true]) (me (al 42 [.pointer d, I 0, I 0, B false, B true] P) ?_)
 rintro v15 X j ⟨a, rfl, m⟩
 have n := m.sD 1 [0]
 refine bn H fun D s H => ?_
 obtain ⟨i, l, t, b0, u, o, g, Z, y, p⟩ := Rel.new_place_Pen (E := [(Eb a 42 [.pointer d, I 0, I 0, B false, B true])]) (F := F) (x := (⟨k.2, (⟨0, 0, false⟩ : G_api_Cursor), true⟩ : G_place_Pen)) (b := a) n (S.mono j) (fun c_ hle_ => ⟨a, (.pointer d), rfl, rfl, (z.mono (j.trans hle_))⟩)
 rw [Option.some.inj s] at g
 refine WL.gh t.1 ?_
 have a0 := Adds.nil h y
 have q := h.trans p
 have A : Pt 2 i (Q a) (some k.1.place_Pen.length) := ⟨a, rfl, u⟩
 refine va (Q a) (wln (W.ret ?_))
 obtain rfl := si H
 exact r1 ⟨_, i, rfl, rfl, pt, (Q a), l, o, g, q, rfl, A⟩
def f_linotyperef32_New (p0 : Int) (p1 : Int) : Option (List G_api_Line) :=
 (iter (σ := (List G_api_Line) × Int) (τ := (List G_api_Line)) ((p1 - 0).toNat + 1) (fun a =>
 if (decide (a.2 < p1)) = true then
 (rep p0 (⟨0, ([] : List Int)⟩ : G_api_Cell)).bind fun b =>
 (app a.1 ([(⟨b, false⟩ : G_api_Line)] : List G_api_Line)).bind fun c =>
 some (.inl (c, (w64 (a.2 + 1))))
 else
 some (.inr (a.1))) (([] : List G_api_Line), 0)).bind fun d =>
 some d
theorem c_linotyperef32_New (O0 : Own c0 G F) (b : Int) (k : Int) {r : List G_api_Line} (H : f_linotyperef32_New b k = some r) :
    Calls prog 115 #[I b, I k] c0.w (Post c0 fun c v => ∃ u y2, Own c G (es true R_api_Line u 71 y2 r :: F) ∧ v = u ∧ OA R_api_Line c u y2 r) := by
 unfold f_linotyperef32_New at H
 refine en func115 rfl rfl (sr (va (Y) (wln (sr (va (Y) (wln (W.seq (sr (va (I 0) (wln (W.block (bn H fun k1 h1 y => lp h1 (fun a => Jn c0 fun c l => ∃ v3 n, Own c G (es true R_api_Line v3 71 n a.1 :: F) ∧ l = [(0, I b), (1, I k), (5, v3), (6, I a.2)] ∧ OA R_api_Line c v3 n a.1) (fun h ex e w => ex = .exit 0 ∧ (Jn c0 fun c l => ∃ v5 o, Own c G (es true R_api_Line v5 71 o h :: F) ∧ l = [(5, v5)] ∧ OA R_api_Line c v5 o h) e w) ?_ ?_ ?_))))))))))))
 ·clear y h1
  intro a q1 a0 q0 H
  revert a0 q0
  rintro e_ w_ ⟨c7, g8, _, rfl, l7, rfl, v3, n, U, rfl, p⟩
  refine W.seq (sr (va (I a.2) (va (I k) (va (B (decide (a.2 < k))) (wln (cn H (fun d0 H => ?_) (fun d0 H => ?_)))))))
  ·refine W.skip (nrm (W.seq (W.block (W.region (va (v3) (va (I b) (bn H fun t q H => me (Own.mkS (kl := .i64) (kc := .i64) (R := R_api_Cell) (z := .agg #[I 0, Y]) (lz := [I 0, Y]) (x := (⟨0, ([] : List Int)⟩ : G_api_Cell)) (by_ := 32) (i := b) (j := b) true U (Nat.succ_pos _) q (Int.le_refl _) (rep_le q) underlying69 (by kernel_rfl) rfl rfl (fun _ => ⟨(Y), rfl, (Sl.nl _ _)⟩) (by kernel_rfl) (by kernel_rfl)) ?_)))))))
   rintro v20 y0 d1 ⟨m1, A, s⟩
   obtain ⟨d, f, g, rfl⟩ := (s).form
   refine va (.agg #[.slice d f g, B false]) ?_
   obtain ⟨z0, f0, e1, D, e0⟩ := A.frz 0 rfl s
   refine WL.gh f0 (me (sl R_api_Line 71 [[.slice d f g, B false]] ([(⟨t, false⟩ : G_api_Line)] : List G_api_Line) D ⟨⟨(.slice d f g), rfl, e0⟩, trivial⟩) ?_)
   rintro v32 a1 f1 ⟨n1, E, g0⟩
   obtain ⟨b1, i0, g1, M, h0⟩ := E.frz 0 rfl g0
   refine WL.gh i0 (bn H fun x0 j0 H => me (ap R_api_Line (.agg #[Y, B false]) 32 22 2 M p.m h0 j0 underlying22) ?_)
   rintro v42 X i1 ⟨o0, N, k0⟩
   refine va (v42) (WL.nil (bkn (nrm (W.region (va (I a.2) (va (I (w64 (a.2 + 1))) (va (I (w64 (a.2 + 1))) (WL.nil ?_))))))))
   obtain rfl := si H
   refine ⟨_, rfl, ?_⟩
   have P := N.sD 3 [2]
   exact ⟨X, _, _, rfl, pt, us, v42, o0, P, rfl, k0⟩
  refine W.exit (thx ?_)
  obtain rfl := si H
  exact ⟨_, rfl, rfl, ⟨c7, _, _, rfl, pt, us, v3, n, U, rfl, p⟩⟩
 ·have l0 : OA R_api_Line c0 (Y) [] [] := OA.nil (Nat.succ_pos _)
  have S := O0.addHole (e := es true R_api_Line (Y) 71 [] ([] : List G_api_Line)) rfl
  exact ⟨c0, _, _, rfl, pt, us, (Y), [], S, rfl, l0⟩
 rintro _ e_ w_ ⟨rfl, Z, c1, _, rfl, j1, rfl, v5, o, T, rfl, m0⟩
 refine bke (nrm (sr (va (v5) (va (v5) (wln (W.ret ?_))))))
 obtain rfl := si y
 exact r1 ⟨_, Z, rfl, rfl, pt, v5, o, T, rfl, m0⟩
def f_linotyperef34_New (p0 : Int) (p1 : Int) : Option (G_linotyperef34_Pen) :=
 (f_linotyperef32_New p0 p1).bind fun a =>
 some (⟨a, (⟨0, 0, false⟩ : G_api_Cursor), true⟩ : G_linotyperef34_Pen)
theorem c_linotyperef34_New (n : Own c0 G F) (d : Int) (e : Int) {r : G_linotyperef34_Pen} (H : f_linotyperef34_New d e = some r) :
    Calls prog 46 #[I d, I e] c0.w (Post c0 fun c v => ∃ i l, Own c G (es true R_api_Line i 71 l r.L :: F) ∧ v = .agg #[i, I r.At.Row, I r.At.Col, B r.At.Pending, B r.Auto] ∧ OA R_api_Line c i l r.L) := by
 unfold f_linotyperef34_New at H
 refine en func46 rfl rfl (sr (me (al 43 [Y, I 0, I 0, B false, B false] n) ?_))
 rintro v4 z A ⟨y, rfl, o⟩
 refine wln (sr (va (I d) (va (I e) (bn H fun x p H => cl (c_linotyperef32_New o d e p) ?_))))
 rintro v6 s t ⟨_, q, j, rfl, h⟩
 obtain ⟨a, a16, b, rfl⟩ := (h).form
 refine va (.agg #[.slice a a16 b, I 0, I 0, B false, B true]) (md (sA 43 [.slice a a16 b, I 0, I 0, B false, B true] 1 j ⟨(h).one, rfl, rfl, rfl, rfl, trivial⟩) ?_)
 rintro g u f
 refine wln (W.ret ?_)
 obtain rfl := si H
 have k := f.sD 2 [0]
 exact retC (c := g) (vs := [.slice a a16 b, I 0, I 0, B false, B true]) rfl (by kernel_rfl) (by kernel_rfl) (by kernel_rfl) (f.on 1 rfl _ rfl).1 ⟨_, g, rfl, rfl, pt, (.slice a a16 b), q, k, rfl, h.m⟩
def f_cursor_side (p0 : Int) : Option (Int) :=
 some (imax 1 (imin p0 1024))
theorem c_cursor_side (b : Own c0 G F) (a : Int) {r : Int} (H : f_cursor_side a = some r) :
    Calls prog 168 #[I a] c0.w (Post c0 fun c v => Own c G (F) ∧ v = I r) := by
 unfold f_cursor_side at H
 refine en func168 rfl rfl (sr (va (I 0) (wln (sr (va (I a) (va (I (imin a 1024)) (va (I (imax 1 (imin a 1024))) (va (I (imax 1 (imin a 1024))) (wln (W.ret ?_))))))))))
 obtain rfl := si H
 exact r1 ⟨_, c0, rfl, rfl, pt, b, rfl⟩
def f_cursor_held (p0 : Int) (p1 : Int) : Option (Int) :=
 some (imax 0 (imin p0 (w64 (p1 - 1))))
theorem c_cursor_held (d : Own c0 G F) (b : Int) (a : Int) {r : Int} (H : f_cursor_held b a = some r) :
    Calls prog 169 #[I b, I a] c0.w (Post c0 fun c v => Own c G (F) ∧ v = I r) := by
 unfold f_cursor_held at H
 refine en func169 rfl rfl (sr (va (I 0) (wln (sr (va (I b) (va (I a) (va (I (w64 (a - 1))) (va (I (imin b (w64 (a - 1)))) (va (I (imax 0 (imin b (w64 (a - 1))))) (va (I (imax 0 (imin b (w64 (a - 1))))) (wln (W.ret ?_))))))))))))
 obtain rfl := si H
 exact r1 ⟨_, c0, rfl, rfl, pt, d, rfl⟩
def f_cursor_Hold (p0 : G_api_Cursor) (p1 : Int) (p2 : Int) : Option (G_api_Cursor) :=
 (f_cursor_side p1).bind fun a =>
 (f_cursor_side p2).bind fun e =>
 (f_cursor_held p0.Row e).bind fun c =>
 (f_cursor_held p0.Col a).bind fun d =>
 (andE p0.Pending (some (p0.Col == (w64 (a - 1))))).bind fun b =>
 some (⟨c, d, b⟩ : G_api_Cursor)
theorem c_cursor_Hold (O0 : Own c0 G F) (a : G_api_Cursor) (n : Int) (o : Int) {r : G_api_Cursor} (H : f_cursor_Hold a n o = some r) :
    Calls prog 100 #[.agg #[I a.Row, I a.Col, B a.Pending], I n, I o] c0.w (Post c0 fun c v => Own c G (F) ∧ v = .agg #[I r.Row, I r.Col, B r.Pending]) := by
 unfold f_cursor_Hold at H
 refine en func100 rfl rfl (sr (me (bx 24 [I a.Row, I a.Col, B a.Pending] O0) ?_))
 rintro v5 c4 l4 ⟨k, rfl, O2, m⟩
 refine me (al 24 [I 0, I 0, B false] O2) ?_
 rintro v9 c8 l8 ⟨R, rfl, O7⟩
 refine wln (sr (va (I n) (bn H fun b Z H => cl (c_cursor_side O7 n Z) ?_)))
 rintro v16 l0 o0 ⟨z, rfl⟩
 refine va (I o) (bn H fun j a0 H => cl (c_cursor_side z o a0) ?_)
 rintro v23 S q0 ⟨A, rfl⟩
 refine va (I b) (va (I j) (wln (W.seq (bn H fun d b0 H => bn H fun e d0 H => bn H fun i x H => W.join (Jn S fun c l => Own c G ((Eb R 24 [I d, I e, B i]) :: F) ∧ l = [(6, Q R)]) ?_ ?_))))
 ·clear H
  refine rD [] (Kp G0 []) A ?_
  intro T s0 D
  have y0 : Kp G0 [] T := Kp.nil0
  refine ta 0 (Q k) (tx 1 (fun h g => l1 underlying3 ((mm m) 0 _ rfl)) (ta 2 (I j) (ta 4 (.pointer (some ⟨k, 0 + 1, none⟩)) (tx 5 (fun h g => l1 underlying3 ((mm m) 1 _ rfl)) (ta 6 (I b) (ta 8 (.pointer (some ⟨k, 0 + 2, none⟩)) (tx 9 (fun h g => l1 underlying4 ((mm m) 2 _ rfl)) (o1 3 (gc 3 (c_cursor_held D a.Row j b0) ?_)))))))))
  rintro v35 U t0 ⟨E, rfl⟩
  have e0 : Kp G0 [] U := Kp.nil0
  refine ⟨.inr e0, o1 7 (gc 7 (c_cursor_held E a.Col b d0) ?_)⟩
  rintro v42 X u0 ⟨p, rfl⟩
  have f0 : Kp G0 [] X := Kp.nil0
  refine ⟨.inr f0, ?_⟩
  rcases bo (a.Pending) with f | f
  ·have y := anT f x
   refine AC.takeb 10 f rfl (by kernel_rfl) (by kernel_rfl) (fun h g => (by kernel_rfl)) (ta 11 (.pointer (some ⟨k, 0 + 1, none⟩)) (tx 12 (fun h g => l1 underlying3 ((mm m) 1 _ rfl)) (ta 13 (I b) (ta 14 (I (w64 (b - 1))) (ta 15 (B (a.Col == (w64 (b - 1)))) ?_)))))
   obtain rfl := si y
   refine ta 16 (B (a.Col == (w64 (b - 1)))) (ta 17 (.agg #[I d, I e, B (a.Col == (w64 (b - 1)))]) (o1 18 (gD 18 (sA 24 [I d, I e, B (a.Col == (w64 (b - 1)))] 0 p ⟨rfl, rfl, rfl, trivial⟩) ?_)))
   rintro s v0 M
   have g0 : Kp G0 [] s := Kp.nil0
   exact ⟨.inr g0, dn (nrm ⟨s, _, _, rfl, pt, us, M, rfl⟩)⟩
  obtain rfl := anF f x
  refine AC.takeb 10 f rfl (by kernel_rfl) (by kernel_rfl) (fun h g => (by kernel_rfl)) (tp 11 (tp 12 (tp 13 (tp 14 (tp 15 (ta 16 (B false) (ta 17 (.agg #[I d, I e, B false]) (o1 18 (gD 18 (sA 24 [I d, I e, B false] 0 p ⟨rfl, rfl, rfl, trivial⟩) ?_)))))))))
  rintro t w0 N
  have h0 : Kp G0 [] t := Kp.nil0
  exact ⟨.inr h0, dn (nrm ⟨t, _, _, rfl, pt, us, N, rfl⟩)⟩
 rintro e_ w_ ⟨u, m0, _, rfl, x0, rfl, q, rfl⟩
 refine nrm (W.ret ?_)
 obtain rfl := si H
 have P := q.sD 1 []
 exact retC (c := u) (vs := [I d, I e, B i]) rfl (by kernel_rfl) (by kernel_rfl) (by kernel_rfl) (q.on 0 rfl _ rfl).1 ⟨_, u, rfl, rfl, pt, P, rfl⟩
def f_place_Pen_ready (sg : Sto) (p0 : Option Nat) : Option (Sto × Bool) :=
 (orE p0.isNone ((p0).bind fun i =>
 (sg.place_Pen[i]?).bind fun d =>
 some d.G.isNone)).bind fun h =>
 if h = true then
 some (sg, false)
 else
 (p0).bind fun c =>
 (sg.place_Pen[c]?).bind fun a =>
 (f_grid_Grid_Wide sg a.G).bind fun e =>
 (f_grid_Grid_High sg a.G).bind fun f =>
 (f_cursor_Hold a.At e f).bind fun g =>
 (sg.set_place_Pen c (⟨a.G, g, a.Auto⟩ : G_place_Pen)).bind fun b =>
 some (b, true)
theorem c_place_Pen_ready (S : Own c0 G F) (h : Rel c0 sg G) (t : Option Nat) {r : Sto × Bool} (T : Pt 2 c0 v1 t) (H : f_place_Pen_ready sg t = some r) :
    Calls prog 127 #[v1] c0.w (Post c0 fun c v => ∃ G_ : Gm, Own c G_ (F) ∧ Rel c r.1 G_ ∧ v = B r.2) := by
 unfold f_place_Pen_ready at H
 refine en func127 rfl rfl (sr (va (B false) (wln (W.seq (W.seq (bn H fun o0 h3 H => W.join (Jn c0 fun c l => Own c G (F) ∧ l = [(0, v1), (11, B o0)]) ?_ ?_))))))
 ·clear H
  refine W.region (va (v1) (vr (B t.isNone) (by rcases (T).cs with ⟨e, f⟩ | ⟨b_, e, f⟩ <;> (subst e; rw [f]; kernel_rfl)) ?_))
  rcases bo (t.isNone) with k | k
  ·obtain rfl := orT k h3
   exact vb k (ps (ps (ps (ps (ps (va (B true) (wln ⟨c0, _, _, rfl, pt, us, S, rfl⟩)))))))
  have i := orF k h3
  refine vb k (wn (va (v1) (wn (bn i fun n1 h8 i => ?_))))
  obtain ⟨b6, rfl, h7⟩ := (T).get h8
  refine va (Q b6) (wn (va (Q b6) (wn (bn i fun q h9 i => ?_))))
  obtain ⟨v10, s0, q0⟩ := Rel.open_place_Pen h h9 h7
  refine vx (le1 0 underlying35 (S.gon s0 0 rfl)) (wn (vr (B q.G.isNone) (by rcases (q0).cs with ⟨e, f⟩ | ⟨b_, e, f⟩ <;> (subst e; rw [f]; kernel_rfl)) ?_))
  obtain rfl := si i
  exact va (B q.G.isNone) (wln ⟨c0, _, _, rfl, pt, us, S, rfl⟩)
 rintro e_ w_ ⟨h0, k1, _, rfl, o, rfl, u, rfl⟩
 refine nrm (cn H (fun t0 H => ?_) (fun t0 H => ?_))
 ·refine sr (va (B false) (wln (W.ret (thr ?_))))
  obtain rfl := si H
  exact r1 ⟨_, h0, rfl, rfl, pt, G, u, h.m, rfl⟩
 refine W.skip (nrm (W.seq (rD [18] (Kp G []) u ?_)))
 intro i0 p x
 have s : Kp G [] i0 := (Kp.nil x)
 refine ta 0 (v1) (ta 1 (v1) (bn H fun i1 u0 H => ?_))
 obtain ⟨b, rfl, D⟩ := ((T.mono (o.trans p))).get u0
 refine ta 2 (Q b) (ta 3 (.pointer (some ⟨b, 1, none⟩)) (bn H fun d v0 H => ?_))
 obtain ⟨v27, g, j⟩ := Rel.open_place_Pen (h.mono (o.trans p)) v0 D
 refine tkx 4 s (fun c' E n => leN 24 1 [I d.At.Row, I d.At.Col, B d.At.Pending] (n.gon g 0 rfl)) (ta 5 (Q b) (ta 6 (Q b) (ta 7 (Q b) (tkx 8 s (fun c' E n => le1 0 underlying35 (n.gon g 0 rfl)) (ta 10 (Q b) (ta 11 (Q b) (ta 12 (Q b) (tkx 13 s (fun c' E n => le1 0 underlying35 (n.gon g 0 rfl)) (bn H fun U x0 H => o1 9 (gc 9 (c_grid_Grid_Wide x h.m d.G j x0) ?_))))))))))
 rintro v36 j0 M ⟨y, rfl⟩
 have b1 : Kp G [] j0 := (Kp.nil y)
 refine ⟨.inr b1, bn H fun X y0 H => o1 14 (gc 14 (c_grid_Grid_High y h.m d.G j.m y0) ?_)⟩
 rintro v44 k0 N ⟨z, rfl⟩
 have c1 : Kp G [] k0 := (Kp.nil z)
 refine ⟨.inr c1, bn H fun a z0 H => o1 15 (gc 15 (c_cursor_Hold z d.At U X z0) ?_)⟩
 rintro v52 l0 P ⟨A, rfl⟩
 have d1 : Kp G [] l0 := (Kp.nil A)
 refine ⟨.inr d1, ta 16 (Q b) (ta 17 (.pointer (some ⟨b, 1, none⟩)) (o1 18 (gD 18 (gB 24 1 [I a.Row, I a.Col, B a.Pending] [v27, I a.Row, I a.Col, B a.Pending, B d.Auto] 0 A g ⟨rfl, rfl, rfl, trivial⟩) ?_)))⟩
 rintro m0 R b0
 refine bn H fun Z a1 H => ?_
 obtain ⟨a0, d0, e0, m1, j1⟩ := Rel.put_place_Pen b0 (h.mono (o.trans (p.trans (M.trans (N.trans (P.trans R)))))) (E' := [(Eb b 42 [v27, I a.Row, I a.Col, B a.Pending, B d.Auto])]) a1 ⟨b, v27, (tm D), rfl, (j.mono (M.trans (N.trans (P.trans R))))⟩
 refine ⟨.inl rfl, dn (nrm (sr (va (B true) (wln (W.ret ?_)))))⟩
 obtain rfl := si H
 exact r1 ⟨_, m0, rfl, rfl, pt, a0, d0, e0, rfl⟩
def f_cursor_Return (p0 : G_api_Cursor) : Option (G_api_Cursor) :=
 some (⟨p0.Row, 0, false⟩ : G_api_Cursor)
theorem c_cursor_Return (f : Own c0 G F) (a : G_api_Cursor) {r : G_api_Cursor} (H : f_cursor_Return a = some r) :
    Calls prog 172 #[.agg #[I a.Row, I a.Col, B a.Pending]] c0.w (Post c0 fun c v => Own c G (F) ∧ v = .agg #[I r.Row, I r.Col, B r.Pending]) := by
 unfold f_cursor_Return at H
 refine en func172 rfl rfl (sr (me (bx 24 [I a.Row, I a.Col, B a.Pending] f) ?_))
 rintro v5 m o ⟨i, rfl, g, j⟩
 refine me (al 24 [I 0, I 0, B false] g) ?_
 rintro v9 n p ⟨l, rfl, h⟩
 refine wln (sr (va (Q i) (vx (l1 underlying3 ((mm j) 0 _ rfl)) (va (.agg #[I a.Row, I 0, B false]) (md (sA 24 [I a.Row, I 0, B false] 0 h ⟨rfl, rfl, rfl, trivial⟩) ?_)))))
 rintro d k b
 refine wln (W.ret ?_)
 obtain rfl := si H
 have e := b.sD 1 []
 exact retC (c := d) (vs := [I a.Row, I 0, B false]) rfl (by kernel_rfl) (by kernel_rfl) (by kernel_rfl) (b.on 0 rfl _ rfl).1 ⟨_, d, rfl, rfl, pt, e, rfl⟩
def f_cursor_Down (p0 : G_api_Cursor) (p1 : Int) : Option (G_api_Cursor × Bool) :=
 (f_cursor_side p1).bind fun a =>
 if (decide (p0.Row ≥ (w64 (a - 1)))) = true then
 some ((⟨p0.Row, p0.Col, false⟩ : G_api_Cursor), true)
 else
 some ((⟨(w64 (p0.Row + 1)), p0.Col, false⟩ : G_api_Cursor), false)
theorem c_cursor_Down (x : Own c0 G F) (a : G_api_Cursor) (f : Int) {r : G_api_Cursor × Bool} (H : f_cursor_Down a f = some r) :
    Calls prog 251 #[.agg #[I a.Row, I a.Col, B a.Pending], I f] c0.w (Post c0 fun c v => Own c G (F) ∧ v = .tuple #[.agg #[I r.1.Row, I r.1.Col, B r.1.Pending], B r.2]) := by
 unfold f_cursor_Down at H
 refine en func251 rfl rfl (sr (me (al 24 [I a.Row, I a.Col, B a.Pending] x) ?_))
 rintro v4 c3 l3 ⟨d, rfl, y⟩
 refine me (al 24 [I 0, I 0, B false] y) ?_
 rintro v8 c7 l7 ⟨Z, rfl, z⟩
 refine va (B false) (wln (sr (va (.pointer (some ⟨d, 2, none⟩)) (md (sC 4 2 (B false) [I a.Row, I a.Col, B false] 1 z ⟨rfl, trivial⟩) ?_))))
 rintro E P A
 refine wln (W.seq (W.seq (rD [] (Kp G0 [(Eb d 24 [I a.Row, I a.Col, B false])]) A ?_)))
 intro o R g
 have t : Kp G0 [(Eb d 24 [I a.Row, I a.Col, B false])] o := (Kp.cons (g.on 1 rfl) Kp.nil0)
 refine ta 0 (Q d) (tkx 1 t (fun c' N D => le1 0 underlying3 (D.on 0 rfl)) (ta 2 (I f) (bn H fun e q H => o1 3 (gc 3 (c_cursor_side g f q) ?_))))
 rintro v20 p S ⟨b, rfl⟩
 have u : Kp G0 [(Eb d 24 [I a.Row, I a.Col, B false])] p := (Kp.cons (b.on 1 rfl) Kp.nil0)
 refine ⟨.inr u, ta 4 (I (w64 (e - 1))) (ta 5 (B (decide (a.Row ≥ (w64 (e - 1))))) (dn (nrm (cn H (fun s H => ?_) (fun s H => ?_)))))⟩
 ·refine sr (vx (leN 24 0 [I a.Row, I a.Col, B false] (b.on 1 rfl)) (md (sA 24 [I a.Row, I a.Col, B false] 0 b ⟨rfl, rfl, rfl, trivial⟩) ?_))
  rintro k T h
  refine va (B true) (wln (W.ret (thr ?_)))
  obtain rfl := si H
  have m := h.sD 2 []
  exact retCT (c := k) (vs := [I a.Row, I a.Col, B false]) (v := B true) rfl (by kernel_rfl) (by kernel_rfl) (by kernel_rfl) (by kernel_rfl) (h.on 0 rfl _ rfl).1 ⟨_, k, rfl, rfl, pt, m, rfl⟩
 refine W.skip (nrm (sr (va (Q d) (vx (le1 0 underlying3 (b.on 1 rfl)) (va (I (w64 (a.Row + 1))) (va (Q d) (md (sC 3 0 (I (w64 (a.Row + 1))) [I (w64 (a.Row + 1)), I a.Col, B false] 1 b ⟨rfl, trivial⟩) ?_)))))))
 rintro M U i
 refine wln (sr (vx (leN 24 0 [I (w64 (a.Row + 1)), I a.Col, B false] (i.on 1 rfl)) (md (sA 24 [I (w64 (a.Row + 1)), I a.Col, B false] 0 i ⟨rfl, rfl, rfl, trivial⟩) ?_)))
 rintro l X j
 refine va (B false) (wln (W.ret ?_))
 obtain rfl := si H
 have n := j.sD 2 []
 exact retCT (c := l) (vs := [I (w64 (a.Row + 1)), I a.Col, B false]) (v := B false) rfl (by kernel_rfl) (by kernel_rfl) (by kernel_rfl) (by kernel_rfl) (j.on 0 rfl _ rfl).1 ⟨_, l, rfl, rfl, pt, n, rfl⟩
def f_place_Pen_NewLine (sg : Sto) (p0 : Option Nat) : Option (Sto) :=
 (f_place_Pen_ready sg p0).bind fun b =>
 if (!b.2) = true then
 some b.1
 else
 (p0).bind fun j =>
 (b.1.place_Pen[j]?).bind fun f =>
 (f_grid_Grid_High b.1 f.G).bind fun g =>
 (f_cursor_Down f.At g).bind fun e =>
 (p0).bind fun d =>
 (b.1.place_Pen[d]?).bind fun c =>
 (b.1.set_place_Pen d (⟨c.G, e.1, c.Auto⟩ : G_place_Pen)).bind fun a =>
 if e.2 = true then
 (f_grid_Grid_High a c.G).bind fun h =>
 (f_scroll_Up a c.G 0 h 1).bind fun i =>
 some i
 else
 some a
theorem c_place_Pen_NewLine (O0 : Own c0 G F) (R0 : Rel c0 sg G) (p0 : Option Nat) {r : Sto} (h2 : Pt 2 c0 v1 p0) (H : f_place_Pen_NewLine sg p0 = some r) :
    Calls prog 225 #[v1] c0.w (Post c0 fun c v => ∃ G_ : Gm, Own c G_ (F) ∧ Rel c r G_ ∧ v = .tuple #[]) := by
 unfold f_place_Pen_NewLine at H
 refine en func225 rfl rfl (W.seq (sr (va (v1) (bn H fun x2 h3 H => cl (c_place_Pen_ready O0 R0 p0 h2 h3) ?_))))
 rintro v9 c8 l8 ⟨d, O5, n, rfl⟩
 refine va (B (!x2.2)) (wln (cn H (fun c2 H => ?_) (fun c2 H => ?_)))
 ·refine W.ret (thr ?_)
  obtain rfl := si H
  exact r0 ⟨_, c8, rfl, rfl, pt, d, O5, n, rfl⟩
 refine W.skip (nrm (W.seq (bn H fun m3 d2 H => bn H fun e e2 H => bn H fun j h0 H => bn H fun a x H => W.join (Jn c8 fun c l => ∃ t, Own c d ((Eb t 24 [I a.1.Row, I a.1.Col, B a.1.Pending]) :: F) ∧ l = [(0, v1), (2, Q t), (3, B a.2)]) ?_ ?_)))
 ·clear H
  refine rD [] (Kp d []) O5 ?_
  intro p1 l16 q
  have m0 : Kp d [] p1 := (Kp.nil q)
  refine ta 0 (v1) ?_
  obtain ⟨g, rfl, f2⟩ := ((h2.mono (l8.trans l16))).get d2
  refine ta 1 (Q g) (ta 2 (.pointer (some ⟨g, 1, none⟩)) ?_)
  obtain ⟨v21, j0, i0⟩ := Rel.open_place_Pen (n.mono l16) e2 f2
  refine tkx 3 m0 (fun c' z i => leN 24 1 [I e.At.Row, I e.At.Col, B e.At.Pending] (i.gon j0 0 rfl)) (ta 4 (Q g) (ta 5 (Q g) (ta 6 (Q g) (tkx 7 m0 (fun c' z i => le1 0 underlying35 (i.gon j0 0 rfl)) (mn2 8 13 ?_ ?_)))))
  ·refine gc 8 (c_grid_Grid_High q n.m e.G i0 h0) ?_
   rintro v29 q1 n3 ⟨s, rfl⟩
   have l2 : Kp d [] q1 := (Kp.nil s)
   refine ⟨.inr l2, mn2 9 13 ?_ ?_⟩
   ·refine gc 9 (c_cursor_Down s e.At j x) ?_
    rintro v36 s1 o3 ⟨M, rfl⟩
    have m2 : Kp d [] s1 := (Kp.nil M)
    refine ⟨.inr m2, ta 10 (.tuple #[.agg #[I a.1.Row, I a.1.Col, B a.1.Pending], B a.2]) (ta 11 (.agg #[I a.1.Row, I a.1.Col, B a.1.Pending]) (ta 12 (B a.2) (o1 13 (gm 13 (al 24 [I 0, I 0, B false] M) ?_))))⟩
    rintro v41 t1 p3 ⟨k1, rfl, N⟩
    have n2 : Kp d [] t1 := (Kp.nil N)
    refine ⟨.inr n2, o1 14 (gD 14 (sA 24 [I a.1.Row, I a.1.Col, B a.1.Pending] 0 N ⟨rfl, rfl, rfl, trivial⟩) ?_)⟩
    rintro e0 q3 P
    have o2 : Kp d [] e0 := (Kp.nil P)
    exact ⟨.inr o2, ta 15 (B a.2) (dn (nrm ⟨e0, _, _, rfl, pt, us, k1, P, rfl⟩))⟩
   refine gm 13 (al 24 [I 0, I 0, B false] s) ?_
   rintro v49 u1 s3 ⟨m1, rfl, R⟩
   have p2 : Kp d [] u1 := (Kp.nil R)
   refine ⟨.inr p2, o1 9 (gc 9 (c_cursor_Down R e.At j x) ?_)⟩
   rintro v56 w1 t3 ⟨S, rfl⟩
   have q2 : Kp d [] w1 := (Kp.nil S)
   refine ⟨.inr q2, ta 10 (.tuple #[.agg #[I a.1.Row, I a.1.Col, B a.1.Pending], B a.2]) (ta 11 (.agg #[I a.1.Row, I a.1.Col, B a.1.Pending]) (ta 12 (B a.2) (o1 14 (gD 14 (sA 24 [I a.1.Row, I a.1.Col, B a.1.Pending] 0 S ⟨rfl, rfl, rfl, trivial⟩) ?_))))⟩
   rintro f0 u3 T
   have s2 : Kp d [] f0 := (Kp.nil T)
   exact ⟨.inr s2, ta 15 (B a.2) (dn (nrm ⟨f0, _, _, rfl, pt, us, m1, T, rfl⟩))⟩
  refine gm 13 (al 24 [I 0, I 0, B false] q) ?_
  rintro z3 x1 v3 ⟨n1, rfl, U⟩
  have t2 : Kp d [] x1 := (Kp.nil U)
  refine ⟨.inr t2, o1 8 (gc 8 (c_grid_Grid_High U n.m e.G i0.m h0) ?_)⟩
  rintro a4 y1 w3 ⟨X, rfl⟩
  have u2 : Kp d [] y1 := (Kp.nil X)
  refine ⟨.inr u2, o1 9 (gc 9 (c_cursor_Down X e.At j x) ?_)⟩
  rintro b4 z1 x3 ⟨Z, rfl⟩
  have v2 : Kp d [] z1 := (Kp.nil Z)
  refine ⟨.inr v2, ta 10 (.tuple #[.agg #[I a.1.Row, I a.1.Col, B a.1.Pending], B a.2]) (ta 11 (.agg #[I a.1.Row, I a.1.Col, B a.1.Pending]) (ta 12 (B a.2) (o1 14 (gD 14 (sA 24 [I a.1.Row, I a.1.Col, B a.1.Pending] 0 Z ⟨rfl, rfl, rfl, trivial⟩) ?_))))⟩
  rintro g0 y3 a0
  have w2 : Kp d [] g0 := (Kp.nil a0)
  exact ⟨.inr w2, ta 15 (B a.2) (dn (nrm ⟨g0, _, _, rfl, pt, us, n1, a0, rfl⟩))⟩
 rintro e_ w_ ⟨k3, l3, _, rfl, A, rfl, t, b0, rfl⟩
 refine nrm (sr (va (v1) (vx (leN 24 0 [I a.1.Row, I a.1.Col, B a.1.Pending] (b0.on 0 rfl)) (bn H fun c3 g2 H => ?_))))
 obtain ⟨b, rfl, k0⟩ := ((h2.mono (l8.trans A))).get g2
 refine va (Q b) (va (.pointer (some ⟨b, 1, none⟩)) (bn H fun f i2 H => ?_))
 obtain ⟨E, j2, y⟩ := Rel.open_place_Pen (n.mono A) i2 k0
 refine md (gB 24 1 [I a.1.Row, I a.1.Col, B a.1.Pending] [E, I a.1.Row, I a.1.Col, B a.1.Pending, B f.Auto] 0 b0 j2 ⟨rfl, rfl, rfl, trivial⟩) ?_
 rintro b2 l0 j1
 refine bn H fun h1 z0 H => ?_
 obtain ⟨k, d0, h, u, a3⟩ := Rel.put_place_Pen j1 (n.mono (A.trans l0)) (E' := [(Eb b 42 [E, I a.1.Row, I a.1.Col, B a.1.Pending, B f.Auto])]) z0 ⟨b, E, (tm k0), rfl, (y.mono l0)⟩
 refine wln (sr (va (B a.2) (wln (cn H (fun a1 H => ?_) (fun a1 H => ?_)))))
 ·refine rD [9] (Kp k []) d0 ?_
  intro w0 d3 o
  have D : Kp k [] w0 := (Kp.nil o)
  refine ta 0 (Q b) (ta 1 (Q b) (ta 2 (Q b) (tkx 3 D (fun c' z i => le1 0 underlying35 (i.gon u 0 rfl)) (ta 4 (Q b) (ta 5 (Q b) (ta 6 (Q b) (tkx 7 D (fun c' z i => le1 0 underlying35 (i.gon u 0 rfl)) (bn H fun g1 b1 H => o1 8 (gc 8 (c_grid_Grid_High o h.m f.G y.m b1) ?_)))))))))
  rintro g3 x0 e3 ⟨p, rfl⟩
  have f1 : Kp k [] x0 := (Kp.nil p)
  refine ⟨.inr f1, bn H fun j3 c1 H => o1 9 (gc 9 (c_scroll_Up p h.m f.G 0 g1 1 y.m c1) ?_)⟩
  rintro i3 y0 f3 ⟨o0, q0, u0, rfl⟩
  refine ⟨.inl rfl, dn ?_⟩
  obtain rfl := si H
  have s0 := q0.sD 1 []
  exact n0 ⟨_, y0, rfl, rfl, pt, o0, s0, u0, rfl⟩
 refine W.skip ?_
 obtain rfl := si H
 have t0 := d0.sD 1 []
 exact n0 ⟨_, b2, rfl, rfl, pt, k, t0, h, rfl⟩
def f_place_Pen_goOn (sg : Sto) (p0 : Option Nat) : Option (Sto) :=
 (p0).bind fun c =>
 (sg.place_Pen[c]?).bind fun e =>
 (f_grid_Grid_Row sg e.G e.At.Row).bind fun f =>
 (f_row_Row_GoOn sg f true).bind fun d =>
 (d.place_Pen[c]?).bind fun a =>
 (f_cursor_Return a.At).bind fun g =>
 (d.set_place_Pen c (⟨a.G, g, a.Auto⟩ : G_place_Pen)).bind fun b =>
 (f_place_Pen_NewLine b p0).bind fun h =>
 some h
theorem c_place_Pen_goOn (O0 : Own c0 G F) (n : Rel c0 sg G) (q : Option Nat) {r : Sto} (U : Pt 2 c0 v1 q) (H : f_place_Pen_goOn sg q = some r) :
    Calls prog 197 #[v1] c0.w (Post c0 fun c v => ∃ G_ : Gm, Own c G_ (F) ∧ Rel c r G_ ∧ v = .tuple #[]) := by
 unfold f_place_Pen_goOn at H
 refine en func197 rfl rfl (W.seq (rD [10] (Kp G []) O0 ?_))
 intro c3 l3 y
 have p5 : Kp G [] c3 := (Kp.nil y)
 refine ta 0 (v1) (bn H fun a1 h8 H => ?_)
 obtain ⟨b, rfl, o⟩ := ((U.mono l3)).get h8
 refine ta 1 (Q b) (ta 2 (Q b) (bn H fun l h9 H => ?_))
 obtain ⟨v10, h, R⟩ := Rel.open_place_Pen (n.mono l3) h9 o
 refine tkx 3 p5 (fun c' f0 p => le1 0 underlying35 (p.gon h 0 rfl)) (ta 4 (Q b) (ta 5 (Q b) (ta 6 (.pointer (some ⟨b, 1, none⟩)) (ta 7 (.pointer (some ⟨b, 1, none⟩)) (tkx 8 p5 (fun c' f0 p => le1 1 underlying3 (p.gon h 0 rfl)) (bn H fun s S H => o1 9 (gc 9 (c_grid_Grid_Row y n.m l.G l.At.Row R S) ?_)))))))
 rintro v14 N b1 ⟨_, e, rfl, T⟩
 have h0 : Kp G [] N := (Kp.nil e)
 refine ⟨.inr h0, bn H fun q0 X H => o1 10 (gc 10 (c_row_Row_GoOn e n.m s true T X) ?_)⟩
 rintro v29 w0 c1 ⟨t0, f, g, rfl⟩
 refine ⟨.inl rfl, dn (nrm (sr (va (Q b) (va (Q b) (va (Q b) (va (.pointer (some ⟨b, 1, none⟩)) (bn H fun d Z H => ?_)))))))⟩
 obtain ⟨v31, i, a0⟩ := Rel.open_place_Pen g Z (tm o)
 refine vx (leN 24 1 [I d.At.Row, I d.At.Col, B d.At.Pending] (f.gon i 0 rfl)) (bn H fun a b0 H => cl (c_cursor_Return f d.At b0) ?_)
 rintro v40 x0 j ⟨x, rfl⟩
 refine va (Q b) (va (.pointer (some ⟨b, 1, none⟩)) (md (gB 24 1 [I a.Row, I a.Col, B a.Pending] [v31, I a.Row, I a.Col, B a.Pending, B d.Auto] 0 x i ⟨rfl, rfl, rfl, trivial⟩) ?_))
 rintro y0 k z
 refine bn H fun t d0 H => ?_
 obtain ⟨u0, A, E, z0, v0⟩ := Rel.put_place_Pen z (g.mono (j.trans k)) (E' := [(Eb b 42 [v31, I a.Row, I a.Col, B a.Pending, B d.Auto])]) d0 ⟨b, v31, (tm o), rfl, (a0.mono (j.trans k))⟩
 refine wln (W.region (va (Q b) (bn H fun s0 e0 H => cl (c_place_Pen_NewLine A E q U.m e0) ?_)))
 rintro v55 P d1 ⟨u, D, M, rfl⟩
 refine WL.nil ?_
 obtain rfl := si H
 exact n0 ⟨_, P, rfl, rfl, pt, u, D, M, rfl⟩
def f_place_Pen_room (sg : Sto) (p0 : Option Nat) (p1 : Int) : Option (Sto) :=
 ((p0).bind fun k =>
 (sg.place_Pen[k]?).bind fun l =>
 if l.At.Pending = true then
 (f_place_Pen_goOn sg p0).bind fun m =>
 some (m)
 else
 some (sg)).bind fun b =>
 (p0).bind fun d =>
 (b.place_Pen[d]?).bind fun a =>
 (f_grid_Grid_Wide b a.G).bind fun e =>
 (orE (p1 == 1) (some (decide (a.At.Col < (w64 (e - 1)))))).bind fun f =>
 if f = true then
 some b
 else
 if a.Auto = true then
 (f_grid_Grid_Row b a.G a.At.Row).bind fun g =>
 (f_cell_Blanks 1).bind fun h =>
 (f_row_Row_Paint b g (w64 (e - 1)) h).bind fun i =>
 (f_place_Pen_goOn i.1 p0).bind fun j =>
 some j
 else
 (b.set_place_Pen d (⟨a.G, (⟨a.At.Row, (w64 (a.At.Col - 1)), a.At.Pending⟩ : G_api_Cursor), a.Auto⟩ : G_place_Pen)).bind fun c =>
 some c
theorem c_place_Pen_room (T : Own c0 G F) (X : Rel c0 sg G) (hG : Gl [0, 4] c0) (u : Option Nat) (n : Int) {r : Sto} (t : Pt 2 c0 v1 u) (H : f_place_Pen_room sg u n = some r) :
    Calls prog 128 #[v1, I n] c0.w (Post c0 fun c v => ∃ G_ : Gm, Own c G_ (F) ∧ Rel c r G_ ∧ v = .tuple #[]) := by
 unfold f_place_Pen_room at H
 refine en func128 rfl rfl (bn H fun f2 g d => W.seqJ (Jn c0 fun c l => ∃ G_, Own c G_ (F) ∧ l = [(0, v1), (1, I n)] ∧ Rel c f2 G_) ?_ ?_)
 ·refine sr (va (v1) (bn g fun a3 h7 g => ?_))
  obtain ⟨s, rfl, h6⟩ := (t).get h7
  refine va (Q s) (va (.pointer (some ⟨s, 1, none⟩)) (va (.pointer (some ⟨s, 3, none⟩)) (bn g fun h3 h8 g => ?_)))
  obtain ⟨v9, e1, y2⟩ := Rel.open_place_Pen X h8 h6
  refine vx (le1 3 underlying4 (T.gon e1 0 rfl)) (wln (cn g (fun f1 g => ?_) (fun f1 g => ?_)))
  ·refine W.region (va (Q s) (bn g fun m3 g1 g => cl (c_place_Pen_goOn T X u t g1) ?_))
   rintro v19 w0 b3 ⟨h0, l0, t0, rfl⟩
   refine wln ?_
   obtain rfl := si g
   exact ⟨w0, _, _, rfl, pt, us, h0, l0, rfl, t0⟩
  refine W.skip (nrm ?_)
  obtain rfl := si g
  exact ⟨c0, _, _, rfl, pt, us, G, T, rfl, X⟩
 rintro e_ w_ ⟨u2, w2, _, rfl, a2, rfl, f, x, rfl, i⟩
 refine sr (va (v1) (bn d fun o2 h1 d => ?_))
 obtain ⟨a, rfl, E⟩ := ((t.mono a2)).get h1
 refine va (Q a) (va (Q a) (bn d fun b i1 d => ?_))
 obtain ⟨v30, h, q⟩ := Rel.open_place_Pen i i1 E
 refine vx (le1 0 underlying35 (x.gon h 0 rfl)) (bn d fun e j1 d => cl (c_grid_Grid_Wide x i b.G q j1) ?_)
 rintro v39 p N ⟨o, rfl⟩
 refine va (I (w64 (e - 1))) (va (I (w64 (e - 1))) (wln (W.block (W.seq (bn d fun a0 M d => W.join (Jn p fun c l => Own c f (F) ∧ l = [(0, Q a), (4, I (w64 (e - 1))), (27, B a0)]) ?_ ?_)))))
 ·clear d
  refine W.region (va (I n) (va (B (n == 1)) ?_))
  rcases bo (n == 1) with k | k
  ·obtain rfl := orT k M
   exact vb k (ps (ps (ps (ps (ps (ps (ps (va (B true) (va (B true) (wln ⟨p, _, _, rfl, pt, us, o, rfl⟩))))))))))
  have k0 := orF k M
  refine vb k (wn (va (Q a) (wn (va (Q a) (wn (va (.pointer (some ⟨a, 1, none⟩)) (wn (va (.pointer (some ⟨a, 2, none⟩)) (wn (vx (le1 2 underlying3 (o.gon h 0 rfl)) (wn (va (I (w64 (e - 1))) (wn (va (B (decide (b.At.Col < (w64 (e - 1))))) ?_))))))))))))))
  obtain rfl := si k0
  exact va (B (decide (b.At.Col < (w64 (e - 1))))) (va (B (decide (b.At.Col < (w64 (e - 1))))) (wln ⟨p, _, _, rfl, pt, us, o, rfl⟩))
 rintro e_ w_ ⟨x0, x2, _, rfl, P, rfl, j, rfl⟩
 refine nrm (cn d (fun k1 d => ?_) (fun k1 d => ?_))
 ·refine W.ret (bkr ?_)
  obtain rfl := si d
  exact r0 ⟨_, x0, rfl, rfl, pt, f, j, i.m, rfl⟩
 refine sr (va (Q a) (va (Q a) (va (.pointer (some ⟨a, 4, none⟩)) (vx (le1 4 underlying4 (j.gon h 0 rfl)) (va (B b.Auto) (wln (cn d (fun m1 d => ?_) (fun m1 d => ?_))))))))
 ·refine W.seq (rD [12] (Kp f []) j ?_)
  intro y0 c3 y
  have S : Kp f [] y0 := (Kp.nil y)
  refine ta 0 (Q a) (ta 1 (Q a) (ta 2 (Q a) (tkx 3 S (fun c' z1 hk => le1 0 underlying35 (hk.gon h 0 rfl)) (ta 4 (Q a) (ta 5 (Q a) (ta 6 (.pointer (some ⟨a, 1, none⟩)) (ta 7 (.pointer (some ⟨a, 1, none⟩)) (tkx 8 S (fun c' z1 hk => le1 1 underlying3 (hk.gon h 0 rfl)) (ta 10 (I (w64 (e - 1))) (bn d fun e0 n1 d => o1 9 (gc 9 (c_grid_Grid_Row y i.m b.G b.At.Row q.m n1) ?_)))))))))))
  rintro v55 z0 d3 ⟨_, z, rfl, q1⟩
  have c2 : Kp f [] z0 := (Kp.nil z)
  refine ⟨.inr c2, bn d fun f0 s1 d => o1 11 (gc 11 (c_cell_Blanks z 1 s1) ?_)⟩
  rintro j3 a1 e3 ⟨_, i3, A, rfl, t1⟩
  have d2 : Kp f [] a1 := (Kp.nil A)
  refine ⟨.inr d2, ?_⟩
  obtain ⟨b1, w1, b2, D, u1⟩ := A.frz 0 rfl t1
  have e2 : Kp f [] b1 := (Kp.nil D)
  refine AC.gh w1 b2 (fun _ => e2) (bn d fun q2 x1 d => o1 12 (gc 12 (c_row_Row_Paint D i.m (hG.m.le (by decide)) e0 (w64 (e - 1)) f0 q1.m u1 x1) ?_))
  rintro k3 v2 f3 ⟨_, t2, m0, u0, rfl, z2⟩
  refine ⟨.inl rfl, dn (nrm (W.region (va (Q a) (bn d fun s2 y1 d => cl (c_place_Pen_goOn m0 u0 u t.m y1) ?_))))⟩
  rintro l3 c1 g3 ⟨i0, o0, v0, rfl⟩
  refine WL.nil (bkn ?_)
  obtain rfl := si d
  have q0 := o0.sD 1 []
  exact n0 ⟨_, c1, rfl, rfl, pt, i0, q0, v0, rfl⟩
 refine W.region (va (Q a) (va (Q a) (va (.pointer (some ⟨a, 1, none⟩)) (va (.pointer (some ⟨a, 2, none⟩)) (vx (le1 2 underlying3 (j.gon h 0 rfl)) (va (I (w64 (b.At.Col - 1))) (va (Q a) (va (.pointer (some ⟨a, 1, none⟩)) (va (.pointer (some ⟨a, 2, none⟩)) (md (gC 3 2 (I (w64 (b.At.Col - 1))) [v30, I b.At.Row, I (w64 (b.At.Col - 1)), B b.At.Pending, B b.Auto] 0 j h ⟨rfl, trivial⟩) ?_))))))))))
 rintro d1 R s0
 refine bn d fun g0 b0 d => ?_
 obtain ⟨j0, U, Z, k2, g2⟩ := Rel.put_place_Pen s0 (i.mono (N.trans (P.trans R))) (E' := [(Eb a 42 [v30, I b.At.Row, I (w64 (b.At.Col - 1)), B b.At.Pending, B b.Auto])]) b0 ⟨a, v30, (tm E), rfl, (q.mono (N.trans (P.trans R)))⟩
 refine WL.nil (bkn ?_)
 obtain rfl := si d
 exact n0 ⟨_, d1, rfl, rfl, pt, j0, U, Z, rfl⟩
def f_cursor_After (p0 : G_api_Cursor) (p1 : Int) (p2 : Int) (p3 : Bool) : Option (G_api_Cursor) :=
 (f_cursor_side p2).bind fun a =>
 if (decide (p0.Col < (w64 (a - (imax 1 (imin p1 2)))))) = true then
 some (⟨p0.Row, (w64 (p0.Col + (imax 1 (imin p1 2)))), false⟩ : G_api_Cursor)
 else
 some (⟨p0.Row, (w64 (a - 1)), p3⟩ : G_api_Cursor)
theorem c_cursor_After (s : Own c0 G F) (a : G_api_Cursor) (b : Int) (h : Int) (e : Bool) {r : G_api_Cursor} (H : f_cursor_After a b h e = some r) :
    Calls prog 130 #[.agg #[I a.Row, I a.Col, B a.Pending], I b, I h, B e] c0.w (Post c0 fun c v => Own c G (F) ∧ v = .agg #[I r.Row, I r.Col, B r.Pending]) := by
 unfold f_cursor_After at H
 refine en func130 rfl rfl (sr (me (bx 24 [I a.Row, I a.Col, B a.Pending] s) ?_))
 rintro v5 E N ⟨f, rfl, t, g⟩
 refine me (al 24 [I 0, I 0, B false] t) ?_
 rintro v9 M P ⟨D, rfl, u⟩
 refine wln (sr (va (I b) (va (I (imin b 2)) (va (I (imax 1 (imin b 2))) (va (I h) (bn H fun d p H => cl (c_cursor_side u h p) ?_))))))
 rintro v16 x y ⟨i, rfl⟩
 refine va (I (imax 1 (imin b 2))) (va (I d) (wln (W.seq (sr (va (.pointer (some ⟨f, 0 + 1, none⟩)) (vx (l1 underlying3 ((mm g) 1 _ rfl)) (va (I d) (va (I (imax 1 (imin b 2))) (va (I (w64 (d - (imax 1 (imin b 2))))) (va (B (decide (a.Col < (w64 (d - (imax 1 (imin b 2))))))) (wln (cn H (fun q H => ?_) (fun q H => ?_)))))))))))))
 ·refine sr (va (Q f) (vx (l1 underlying3 ((mm g) 0 _ rfl)) (va (.pointer (some ⟨f, 0 + 1, none⟩)) (vx (l1 underlying3 ((mm g) 1 _ rfl)) (va (I (imax 1 (imin b 2))) (va (I (w64 (a.Col + (imax 1 (imin b 2))))) (va (.agg #[I a.Row, I (w64 (a.Col + (imax 1 (imin b 2)))), B false]) (md (sA 24 [I a.Row, I (w64 (a.Col + (imax 1 (imin b 2)))), B false] 0 i ⟨rfl, rfl, rfl, trivial⟩) ?_))))))))
  rintro l z j
  refine wln (W.ret (thr ?_))
  obtain rfl := si H
  have n := j.sD 1 []
  exact retC (c := l) (vs := [I a.Row, I (w64 (a.Col + (imax 1 (imin b 2)))), B false]) rfl (by kernel_rfl) (by kernel_rfl) (by kernel_rfl) (j.on 0 rfl _ rfl).1 ⟨_, l, rfl, rfl, pt, n, rfl⟩
 refine W.skip (nrm (sr (va (Q f) (vx (l1 underlying3 ((mm g) 0 _ rfl)) (va (I d) (va (I (w64 (d - 1))) (va (B e) (va (.agg #[I a.Row, I (w64 (d - 1)), B e]) (md (sA 24 [I a.Row, I (w64 (d - 1)), B e] 0 i ⟨rfl, rfl, rfl, trivial⟩) ?_)))))))))
 rintro m A k
 refine wln (W.ret ?_)
 obtain rfl := si H
 have o := k.sD 1 []
 exact retC (c := m) (vs := [I a.Row, I (w64 (d - 1)), B e]) rfl (by kernel_rfl) (by kernel_rfl) (by kernel_rfl) (k.on 0 rfl _ rfl).1 ⟨_, m, rfl, rfl, pt, o, rfl⟩
def f_place_Pen_Put (sg : Sto) (p0 : Option Nat) (p1 : Int) (p2 : List Int) : Option (Sto × G_api_Cursor) :=
 (f_place_Pen_ready sg p0).bind fun d =>
 if (!d.2) = true then
 some (d.1, (⟨0, 0, false⟩ : G_api_Cursor))
 else
 ((p0).bind fun i =>
 (d.1.place_Pen[i]?).bind fun j =>
 (f_grid_Grid_Wide d.1 j.G).bind fun k =>
 if (decide ((imax 1 (imin p1 2)) > k)) = true then
 some (1, ([65533] : List Int))
 else
 some ((imax 1 (imin p1 2)), p2)).bind fun c =>
 (f_place_Pen_room d.1 p0 c.1).bind fun f =>
 (p0).bind fun e =>
 (f.place_Pen[e]?).bind fun a =>
 (f_grid_Grid_Row f a.G a.At.Row).bind fun l =>
 (f_mark_Put f l a.At.Col c.1 c.2).bind fun g =>
 (g.1.place_Pen[e]?).bind fun b =>
 (f_grid_Grid_Wide g.1 b.G).bind fun m =>
 (f_cursor_After (⟨a.At.Row, a.At.Col, false⟩ : G_api_Cursor) c.1 m b.Auto).bind fun n =>
 (g.1.set_place_Pen e (⟨b.G, n, b.Auto⟩ : G_place_Pen)).bind fun h =>
 some (h, (⟨a.At.Row, a.At.Col, false⟩ : G_api_Cursor))
theorem c_place_Pen_Put (O0 : Own c0 G F) (R0 : Rel c0 sg G) (hG : Gl [0, 4] c0) (p0 : Option Nat) (o : Int) (p2 : List Int) {r : Sto × G_api_Cursor} (h2 : Pt 2 c0 v1 p0) (h4 : Sl (RI .i32) c0 v3 p2) (H : f_place_Pen_Put sg p0 o p2 = some r) :
    Calls prog 71 #[v1, I o, v3] c0.w (Post c0 fun c v => ∃ G_ : Gm, Own c G_ (F) ∧ Rel c r.1 G_ ∧ v = .agg #[I r.2.Row, I r.2.Col, B r.2.Pending]) := by
 unfold f_place_Pen_Put at H
 refine en func71 rfl rfl (sr (me (al 24 [I 0, I 0, B false] O0) ?_))
 rintro v8 c7 l7 ⟨b5, rfl, O6⟩
 refine wln (W.seq (sr (va (v1) (bn H fun t3 h9 H => cl (c_place_Pen_ready O6 R0.m p0 h2.m h9) ?_))))
 rintro v15 d2 u0 ⟨j0, R, P, rfl⟩
 refine va (B (!t3.2)) (wln (cn H (fun m2 H => ?_) (fun m2 H => ?_)))
 ·refine sr (va (.agg #[I 0, I 0, B false]) (md (sA 24 [I 0, I 0, B false] 0 R ⟨rfl, rfl, rfl, trivial⟩) ?_))
  rintro t0 r4 k0
  refine wln (W.ret (thr ?_))
  obtain rfl := si H
  have u1 := k0.sD 1 []
  exact retC (c := t0) (vs := [I 0, I 0, B false]) rfl (by kernel_rfl) (by kernel_rfl) (by kernel_rfl) (k0.on 0 rfl _ rfl).1 ⟨_, t0, rfl, rfl, pt, j0, u1, P.m, rfl⟩
 refine W.skip (nrm (sr (va (I o) (va (I (imin o 2)) (va (I (imax 1 (imin o 2))) (va (I (imax 1 (imin o 2))) (wln (bn H fun f g d => W.seqJ (Jn d2 fun c l => ∃ v22, Own c j0 ((Eb b5 24 [I 0, I 0, B false]) :: F) ∧ l = [(0, v1), (1, I f.1), (2, v22), (6, Q b5)] ∧ Sl (RI .i32) c v22 f.2) ?_ ?_))))))))
 ·refine sr (va (I (imax 1 (imin o 2))) (va (v1) (bn g fun e4 o2 g => ?_)))
  obtain ⟨s0, rfl, n2⟩ := ((h2.mono (l7.trans u0))).get o2
  refine va (Q s0) (va (Q s0) (bn g fun j1 q2 g => ?_))
  obtain ⟨v27, t2, s2⟩ := Rel.open_place_Pen P q2 n2
  refine vx (le1 0 underlying35 (R.gon t2 0 rfl)) (bn g fun n1 u2 g => cl (c_grid_Grid_Wide R P j1.G s2 u2) ?_)
  rintro v36 e2 s4 ⟨l0, rfl⟩
  refine va (B (decide ((imax 1 (imin o 2)) > n1))) (wln (cn g (fun v2 g => ?_) (fun v2 g => ?_)))
  ·refine W.region (me (sl (RI .i32) 21 [[J 65533]] ([65533] : List Int) l0 ⟨rfl, trivial⟩) ?_)
   rintro v42 m4 t4 ⟨v4, w1, w2⟩
   refine va (I 1) (va (v42) (wln ?_))
   obtain rfl := si g
   obtain ⟨f2, y2, u4, x1, x2⟩ := w1.frz 0 rfl w2
   have y1 := x1.sD 2 [1]
   exact ⟨f2, _, _, y2.symm, pt, us, v42, y1, rfl, x2⟩
  refine W.skip (nrm ?_)
  obtain rfl := si g
  exact ⟨e2, _, _, rfl, pt, us, v3, l0, rfl, h4.m⟩
 rintro e_ w_ ⟨n4, p4, _, rfl, h3, rfl, v22, z1, rfl, z2⟩
 refine sr (va (v1) (va (I f.1) (bn d fun k4 a3 d => cl (c_place_Pen_room z1 P.m (hG.m.le (by decide)) p0 f.1 h2.m a3) ?_)))
 rintro w4 o4 i3 ⟨j, a2, Z, rfl⟩
 refine wln (W.seq (rD [] (Kp j []) a2 ?_))
 intro g2 v0 m0
 have w0 : Kp j [] g2 := (Kp.nil m0)
 refine ta 0 (v1) (bn d fun f4 b3 d => ?_)
 obtain ⟨b, rfl, e0⟩ := ((h2.mono (l7.trans (u0.trans (h3.trans (i3.trans v0)))))).get b3
 refine ta 1 (Q b) (ta 2 (.pointer (some ⟨b, 1, none⟩)) (ta 3 (.pointer (some ⟨b, 1, none⟩)) (bn d fun a c3 d => ?_)))
 obtain ⟨x4, f0, d3⟩ := Rel.open_place_Pen (Z.mono v0) c3 e0
 refine tkx 4 w0 (fun u k h => le1 1 underlying3 (h.gon f0 0 rfl)) (ta 5 (Q b) (ta 6 (Q b) (ta 7 (.pointer (some ⟨b, 1, none⟩)) (ta 8 (.pointer (some ⟨b, 2, none⟩)) (tkx 9 w0 (fun u k h => le1 2 underlying3 (h.gon f0 0 rfl)) (ta 10 (.agg #[I a.At.Row, I a.At.Col, B false]) (o1 11 (gm 11 (al 24 [I 0, I 0, B false] m0) ?_))))))))
 rintro y4 i2 k3 ⟨i, rfl, o0⟩
 have p3 : Kp j [] i2 := (Kp.nil o0)
 refine ⟨.inr p3, o1 12 (gD 12 (sA 24 [I a.At.Row, I a.At.Col, B false] 0 o0 ⟨rfl, rfl, rfl, trivial⟩) ?_)⟩
 rintro j2 l3 q0
 have q3 : Kp j [] j2 := (Kp.nil q0)
 refine ⟨.inr q3, dn (nrm (W.seq (rD [11] (Kp j [(Eb i 24 [I a.At.Row, I a.At.Col, B false])]) q0 ?_)))⟩
 intro k2 m3 U
 have g0 : Kp j [(Eb i 24 [I a.At.Row, I a.At.Col, B false])] k2 := (Kp.cons (U.on 0 rfl) (Kp.nil U))
 refine ta 0 (Q b) (ta 1 (Q b) (ta 2 (Q b) (tkx 3 g0 (fun u k h => le1 0 underlying35 (h.gon f0 0 rfl)) (ta 4 (Q i) (tkx 5 g0 (fun u k h => le1 0 underlying3 (h.on 0 rfl)) (ta 7 (.pointer (some ⟨i, 1, none⟩)) (tkx 8 g0 (fun u k h => le1 1 underlying3 (h.on 0 rfl)) (ta 9 (I f.1) (ta 10 (v22) (bn d fun q1 e3 d => o1 6 (gc 6 (c_grid_Grid_Row U Z.m a.G a.At.Row d3.m e3) ?_)))))))))))
 rintro z4 l2 n3 ⟨_, X, rfl, f3⟩
 have s3 : Kp j [(Eb i 24 [I a.At.Row, I a.At.Col, B false])] l2 := (Kp.cons (X.on 0 rfl) (Kp.nil X))
 refine ⟨.inr s3, bn d fun l4 g3 d => o1 11 (gc 11 (c_mark_Put X Z.m (hG.m.le (by decide)) q1 a.At.Col f.1 f.2 f3 z2.m g3) ?_)⟩
 rintro a5 z3 i1 ⟨_, N, b2, a0, rfl, q4⟩
 refine ⟨.inl rfl, dn (nrm (W.seq (rD [15] (Kp N [(Eb i 24 [I a.At.Row, I a.At.Col, B false])]) b2 ?_)))⟩
 intro b1 y p
 have E : Kp N [(Eb i 24 [I a.At.Row, I a.At.Col, B false])] b1 := (Kp.cons (p.on 0 rfl) (Kp.nil p))
 refine ta 0 (Q b) (tkx 1 E (fun u k h => leN 24 0 [I a.At.Row, I a.At.Col, B false] (h.on 0 rfl)) (ta 2 (I f.1) (ta 3 (Q b) (ta 4 (Q b) (ta 5 (Q b) (bn d fun n e1 d => ?_))))))
 obtain ⟨M, x, d0⟩ := Rel.open_place_Pen (a0.mono y) e1 (tm e0)
 refine tkx 6 E (fun u k h => le1 0 underlying35 (h.gon x 0 rfl)) (ta 8 (Q b) (ta 9 (Q b) (ta 10 (.pointer (some ⟨b, 4, none⟩)) (tkx 11 E (fun u k h => le1 4 underlying4 (h.gon x 0 rfl)) (bn d fun s1 f1 d => o1 7 (gc 7 (c_grid_Grid_Wide p a0.m n.G d0 f1) ?_))))))
 rintro i4 c1 z ⟨q, rfl⟩
 have k1 : Kp N [(Eb i 24 [I a.At.Row, I a.At.Col, B false])] c1 := (Kp.cons (q.on 0 rfl) (Kp.nil q))
 refine ⟨.inr k1, bn d fun e g1 d => o1 12 (gc 12 (c_cursor_After q (⟨a.At.Row, a.At.Col, false⟩ : G_api_Cursor) f.1 s1 n.Auto g1) ?_)⟩
 rintro j4 d1 A ⟨s, rfl⟩
 have m1 : Kp N [(Eb i 24 [I a.At.Row, I a.At.Col, B false])] d1 := (Kp.cons (s.on 0 rfl) (Kp.nil s))
 refine ⟨.inr m1, ta 13 (Q b) (ta 14 (.pointer (some ⟨b, 1, none⟩)) (o1 15 (gD 15 (gB 24 1 [I e.Row, I e.Col, B e.Pending] [M, I e.Row, I e.Col, B e.Pending, B n.Auto] 0 s x ⟨rfl, rfl, rfl, trivial⟩) ?_)))⟩
 rintro a4 D y0
 refine bn d fun t1 h1 d => ?_
 obtain ⟨x0, S, a1, b4, y3⟩ := Rel.put_place_Pen y0 (a0.mono (y.trans (z.trans (A.trans D)))) (E' := [(Eb b 42 [M, I e.Row, I e.Col, B e.Pending, B n.Auto])]) h1 ⟨b, M, ((k3.trans (l3.trans (m3.trans (n3.trans (i1.trans (y.trans (z.trans (A.trans D)))))))).t _ _ _ e0), rfl, (d0.mono (z.trans (A.trans D)))⟩
 refine ⟨.inl rfl, dn (nrm (sr (vx (leN 24 0 [I a.At.Row, I a.At.Col, B false] (S.on 0 rfl)) (md (sA 24 [I a.At.Row, I a.At.Col, B false] 1 S ⟨rfl, rfl, rfl, trivial⟩) ?_))))⟩
 rintro b0 g4 T
 refine wln (W.ret ?_)
 obtain rfl := si d
 have z0 := T.sD 2 []
 exact retC (c := b0) (vs := [I a.At.Row, I a.At.Col, B false]) rfl (by kernel_rfl) (by kernel_rfl) (by kernel_rfl) (T.on 1 rfl _ rfl).1 ⟨_, b0, rfl, rfl, pt, x0, z0, a1.m, rfl⟩
def f_linotyperef31_within (p0 : Int) (p1 : Int) : Option (Int) :=
 if (decide (p0 < 0)) = true then
 some 0
 else
 if (decide (p0 ≥ p1)) = true then
 some (w64 (p1 - 1))
 else
 some p0
theorem c_linotyperef31_within (d : Own c0 G F) (a : Int) (b : Int) {r : Int} (H : f_linotyperef31_within a b = some r) :
    Calls prog 162 #[I a, I b] c0.w (Post c0 fun c v => Own c G (F) ∧ v = I r) := by
 unfold f_linotyperef31_within at H
 refine en func162 rfl rfl (sr (va (I 0) (wln (W.seq (sr (va (I a) (va (B (decide (a < 0))) (wln (cn H (fun e H => ?_) (fun e H => ?_))))))))))
 ·refine sr (va (I 0) (wln (W.ret (thr ?_))))
  obtain rfl := si H
  exact r1 ⟨_, c0, rfl, rfl, pt, d, rfl⟩
 refine W.skip (nrm (W.seq (sr (va (I a) (va (I b) (va (B (decide (a ≥ b))) (wln (cn H (fun f H => ?_) (fun f H => ?_)))))))))
 ·refine sr (va (I b) (va (I (w64 (b - 1))) (va (I (w64 (b - 1))) (wln (W.ret (thr ?_))))))
  obtain rfl := si H
  exact r1 ⟨_, c0, rfl, rfl, pt, d, rfl⟩
 refine W.skip (nrm (sr (va (I a) (va (I a) (wln (W.ret ?_))))))
 obtain rfl := si H
 exact r1 ⟨_, c0, rfl, rfl, pt, d, rfl⟩
def f_linotyperef31_Side (p0 : Int) : Option (Int) :=
 if (decide (p0 < 1)) = true then
 some 1
 else
 if (decide (p0 > 1024)) = true then
 some 1024
 else
 some p0
theorem c_linotyperef31_Side (b : Own c0 G F) (a : Int) {r : Int} (H : f_linotyperef31_Side a = some r) :
    Calls prog 163 #[I a] c0.w (Post c0 fun c v => Own c G (F) ∧ v = I r) := by
 unfold f_linotyperef31_Side at H
 refine en func163 rfl rfl (sr (va (I 0) (wln (W.seq (sr (va (I a) (va (B (decide (a < 1))) (wln (cn H (fun d H => ?_) (fun d H => ?_))))))))))
 ·refine sr (va (I 1) (wln (W.ret (thr ?_))))
  obtain rfl := si H
  exact r1 ⟨_, c0, rfl, rfl, pt, b, rfl⟩
 refine W.skip (nrm (W.seq (sr (va (I a) (va (B (decide (a > 1024))) (wln (cn H (fun e H => ?_) (fun e H => ?_))))))))
 ·refine sr (va (I 1024) (wln (W.ret (thr ?_))))
  obtain rfl := si H
  exact r1 ⟨_, c0, rfl, rfl, pt, b, rfl⟩
 refine W.skip (nrm (sr (va (I a) (va (I a) (wln (W.ret ?_))))))
 obtain rfl := si H
 exact r1 ⟨_, c0, rfl, rfl, pt, b, rfl⟩
def f_linotyperef31_Hold (p0 : G_api_Cursor) (p1 : Int) (p2 : Int) : Option (G_api_Cursor) :=
 (f_linotyperef31_Side p2).bind fun b =>
 (f_linotyperef31_within p0.Row b).bind fun c =>
 (f_linotyperef31_Side p1).bind fun d =>
 (f_linotyperef31_within p0.Col d).bind fun e =>
 (andE p0.Pending ((f_linotyperef31_Side p1).bind fun f =>
 some (p0.Col == (w64 (f - 1))))).bind fun a =>
 some (⟨c, e, a⟩ : G_api_Cursor)
theorem c_linotyperef31_Hold (O0 : Own c0 G F) (a : G_api_Cursor) (h : Int) (o : Int) {r : G_api_Cursor} (H : f_linotyperef31_Hold a h o = some r) :
    Calls prog 91 #[.agg #[I a.Row, I a.Col, B a.Pending], I h, I o] c0.w (Post c0 fun c v => Own c G (F) ∧ v = .agg #[I r.Row, I r.Col, B r.Pending]) := by
 unfold f_linotyperef31_Hold at H
 refine en func91 rfl rfl (sr (me (bx 24 [I a.Row, I a.Col, B a.Pending] O0) ?_))
 rintro v5 c4 l4 ⟨m, rfl, O2, n⟩
 refine me (al 24 [I 0, I 0, B false] O2) ?_
 rintro v9 c8 l8 ⟨T, rfl, O7⟩
 refine wln (W.seq (bn H fun y e0 H => bn H fun b f0 H => bn H fun z g0 H => bn H fun d h0 H => bn H fun k x H => W.join (Jn c8 fun c l => Own c G ((Eb T 24 [I b, I d, B k]) :: F) ∧ l = [(6, Q T)]) ?_ ?_))
 ·clear H
  refine rD [] (Kp G0 []) O7 ?_
  intro U y0 A
  have i1 : Kp G0 [] U := Kp.nil0
  refine ta 0 (Q m) (tx 1 (fun j g => l1 underlying3 ((mm n) 0 _ rfl)) (ta 2 (I o) (ta 5 (.pointer (some ⟨m, 0 + 1, none⟩)) (tx 6 (fun j g => l1 underlying3 ((mm n) 1 _ rfl)) (ta 7 (I h) (ta 10 (.pointer (some ⟨m, 0 + 2, none⟩)) (tx 11 (fun j g => l1 underlying4 ((mm n) 2 _ rfl)) (o1 3 (gc 3 (c_linotyperef31_Side A o e0) ?_)))))))))
  rintro v23 X z0 ⟨D, rfl⟩
  have j0 : Kp G0 [] X := Kp.nil0
  refine ⟨.inr j0, o1 4 (gc 4 (c_linotyperef31_within D a.Row y f0) ?_)⟩
  rintro v30 Z a1 ⟨E, rfl⟩
  have k0 : Kp G0 [] Z := Kp.nil0
  refine ⟨.inr k0, o1 8 (gc 8 (c_linotyperef31_Side E h g0) ?_)⟩
  rintro v37 a0 c1 ⟨M, rfl⟩
  have l0 : Kp G0 [] a0 := Kp.nil0
  refine ⟨.inr l0, o1 9 (gc 9 (c_linotyperef31_within M a.Col z h0) ?_)⟩
  rintro v44 b0 d1 ⟨p, rfl⟩
  have m0 : Kp G0 [] b0 := Kp.nil0
  refine ⟨.inr m0, ?_⟩
  rcases bo (a.Pending) with f | f
  ·have i := anT f x
   refine bn i fun e i0 i => AC.takeb 12 f rfl (by kernel_rfl) (by kernel_rfl) (fun j g => (by kernel_rfl)) (ta 13 (.pointer (some ⟨m, 0 + 1, none⟩)) (tx 14 (fun j g => l1 underlying3 ((mm n) 1 _ rfl)) (ta 15 (I h) (o1 16 (gc 16 (c_linotyperef31_Side p h i0) ?_)))))
   rintro v54 d0 e1 ⟨N, rfl⟩
   have o0 : Kp G0 [] d0 := Kp.nil0
   refine ⟨.inr o0, ta 17 (I (w64 (e - 1))) (ta 18 (B (a.Col == (w64 (e - 1)))) ?_)⟩
   obtain rfl := si i
   refine ta 19 (B (a.Col == (w64 (e - 1)))) (ta 20 (.agg #[I b, I d, B (a.Col == (w64 (e - 1)))]) (o1 21 (gD 21 (sA 24 [I b, I d, B (a.Col == (w64 (e - 1)))] 0 N ⟨rfl, rfl, rfl, trivial⟩) ?_)))
   rintro s f1 P
   have q0 : Kp G0 [] s := Kp.nil0
   exact ⟨.inr q0, dn (nrm ⟨s, _, _, rfl, pt, us, P, rfl⟩)⟩
  obtain rfl := anF f x
  refine AC.takeb 12 f rfl (by kernel_rfl) (by kernel_rfl) (fun j g => (by kernel_rfl)) (tp 13 (tp 14 (tp 15 (tp 16 (tp 17 (tp 18 (ta 19 (B false) (ta 20 (.agg #[I b, I d, B false]) (o1 21 (gD 21 (sA 24 [I b, I d, B false] 0 p ⟨rfl, rfl, rfl, trivial⟩) ?_))))))))))
  rintro t g1 R
  have s0 : Kp G0 [] t := Kp.nil0
  exact ⟨.inr s0, dn (nrm ⟨t, _, _, rfl, pt, us, R, rfl⟩)⟩
 rintro e_ w_ ⟨u, x0, _, rfl, h1, rfl, q, rfl⟩
 refine nrm (W.ret ?_)
 obtain rfl := si H
 have S := q.sD 1 []
 exact retC (c := u) (vs := [I b, I d, B k]) rfl (by kernel_rfl) (by kernel_rfl) (by kernel_rfl) (q.on 0 rfl _ rfl).1 ⟨_, u, rfl, rfl, pt, S, rfl⟩
def f_linotyperef34_Pen_Wide (p0 : G_linotyperef34_Pen) : Option (Int) :=
 (idx p0.L 0).bind fun a =>
 some (a.Cells.length : Int)
theorem c_linotyperef34_Pen_Wide (l : Own c0 G F) (a : G_linotyperef34_Pen) {r : Int} (g : Sl R_api_Line c0 v1 a.L) (H : f_linotyperef34_Pen_Wide a = some r) :
    Calls prog 92 #[.agg #[v1, I a.At.Row, I a.At.Col, B a.At.Pending, B a.Auto]] c0.w (Post c0 fun c v => Own c G (F) ∧ v = I r) := by
 unfold f_linotyperef34_Pen_Wide at H
 refine en func92 rfl rfl (sr ?_)
 obtain ⟨d, e, f, rfl⟩ := (g).form
 refine me (bx 43 [.slice d e f, I a.At.Row, I a.At.Col, B a.At.Pending, B a.Auto] l) ?_
 rintro v10 p q ⟨o, rfl, n, t⟩
 refine va (I 0) (wln (sr (va (Q o) (vx (l1 underlying22 (t 0 _ rfl)) (bn H fun k b H => ?_)))))
 obtain ⟨s, h, j⟩ := Sl.at (g.mono q) (idx_get b)
 obtain ⟨v15, rfl, i⟩ := h
 refine vx (ix underlying22 g.m b) (va (.pointer (some ⟨sb (.slice d e f), so (.slice d e f) + (0 : Int).toNat * 2, none⟩)) (vx (l1 underlying69 (j 0 _ rfl)) (vx (ln 3 underlying69 i) (va (I (k.Cells.length : Int)) (wln (W.ret ?_))))))
 obtain rfl := si H
 exact r1 ⟨_, p, rfl, rfl, pt, n, rfl⟩
def f_linotyperef34_Pen_Hold (p0 : G_linotyperef34_Pen) : Option (G_linotyperef34_Pen) :=
 (f_linotyperef34_Pen_Wide p0).bind fun a =>
 (f_linotyperef31_Hold p0.At a (p0.L.length : Int)).bind fun b =>
 some (⟨p0.L, b, p0.Auto⟩ : G_linotyperef34_Pen)
theorem c_linotyperef34_Pen_Hold (S : Own c0 G F) (a : G_linotyperef34_Pen) {r : G_linotyperef34_Pen} (h : Sl R_api_Line c0 v1 a.L) (H : f_linotyperef34_Pen_Hold a = some r) :
    Calls prog 90 #[.agg #[v1, I a.At.Row, I a.At.Col, B a.At.Pending, B a.Auto]] c0.w (Post c0 fun c v => ∃ R, Own c G (F) ∧ v = .agg #[R, I r.At.Row, I r.At.Col, B r.At.Pending, B r.Auto] ∧ Sl R_api_Line c R r.L) := by
 unfold f_linotyperef34_Pen_Hold at H
 refine en func90 rfl rfl (sr ?_)
 obtain ⟨d, e, f, rfl⟩ := (h).form
 refine me (al 43 [.slice d e f, I a.At.Row, I a.At.Col, B a.At.Pending, B a.Auto] S) ?_
 rintro v9 c8 l8 ⟨g, rfl, T⟩
 refine me (al 43 [Y, I 0, I 0, B false, B false] T) ?_
 rintro v13 X a0 ⟨U, rfl, x⟩
 refine wln (W.seq (rD [9] (Kp G0 [(Eb g 43 [.slice d e f, I a.At.Row, I a.At.Col, B a.At.Pending, B a.Auto])]) x ?_))
 intro z b0 l
 have k : Kp G0 [(Eb g 43 [.slice d e f, I a.At.Row, I a.At.Col, B a.At.Pending, B a.Auto])] z := (Kp.cons (l.on 1 rfl) Kp.nil0)
 refine ta 0 (.pointer (some ⟨g, 1, none⟩)) (tkx 1 k (fun t j i => leN 24 1 [I a.At.Row, I a.At.Col, B a.At.Pending] (i.on 0 rfl)) (tkx 2 k (fun t j i => leN 43 0 [.slice d e f, I a.At.Row, I a.At.Col, B a.At.Pending, B a.Auto] (i.on 0 rfl)) (ta 4 (Q g) (tkx 5 k (fun t j i => le1 0 underlying22 (i.on 0 rfl)) (tx 6 (fun t j => ln 3 underlying22 h.m) (bn H fun u E H => o1 3 (gc 3 (c_linotyperef34_Pen_Wide l a h.m E) ?_)))))))
 rintro v23 A d0 ⟨n, rfl⟩
 have N : Kp G0 [(Eb g 43 [.slice d e f, I a.At.Row, I a.At.Col, B a.At.Pending, B a.Auto])] A := (Kp.cons (n.on 1 rfl) Kp.nil0)
 refine ⟨.inr N, bn H fun b M H => o1 7 (gc 7 (c_linotyperef31_Hold n a.At u (a.L.length : Int) M) ?_)⟩
 rintro v31 D e0 ⟨o, rfl⟩
 have P : Kp G0 [(Eb g 43 [.slice d e f, I a.At.Row, I a.At.Col, B a.At.Pending, B a.Auto])] D := (Kp.cons (o.on 1 rfl) Kp.nil0)
 refine ⟨.inr P, ta 8 (.pointer (some ⟨g, 1, none⟩)) (o1 9 (gD 9 (sB 24 1 [I b.Row, I b.Col, B b.Pending] [.slice d e f, I b.Row, I b.Col, B b.Pending, B a.Auto] 1 o ⟨rfl, rfl, rfl, trivial⟩) ?_))⟩
 rintro Z f0 p
 refine ⟨.inl rfl, dn (nrm (sr (vx (leN 43 0 [.slice d e f, I b.Row, I b.Col, B b.Pending, B a.Auto] (p.on 1 rfl)) (md (sA 43 [.slice d e f, I b.Row, I b.Col, B b.Pending, B a.Auto] 0 p ⟨h.m.one, rfl, rfl, rfl, rfl, trivial⟩) ?_))))⟩
 rintro s g0 q
 refine wln (W.ret ?_)
 obtain rfl := si H
 have y := q.sD 2 []
 exact retC (c := s) (vs := [.slice d e f, I b.Row, I b.Col, B b.Pending, B a.Auto]) rfl (by kernel_rfl) (by kernel_rfl) (by kernel_rfl) (q.on 0 rfl _ rfl).1 ⟨_, s, rfl, rfl, pt, (.slice d e f), y, rfl, h.m⟩
def f_linotyperef34_Pen_NewLine (p0 : G_linotyperef34_Pen) : Option (G_linotyperef34_Pen) :=
 (f_linotyperef34_Pen_Hold p0).bind fun a =>
 if (decide ((w64 (a.At.Row + 1)) < (a.L.length : Int))) = true then
 some (⟨a.L, (⟨(w64 (a.At.Row + 1)), a.At.Col, false⟩ : G_api_Cursor), a.Auto⟩ : G_linotyperef34_Pen)
 else
 (f_linotyperef33_Move a.L 0 (a.L.length : Int) 1 true).bind fun b =>
 some (⟨b, (⟨a.At.Row, a.At.Col, false⟩ : G_api_Cursor), a.Auto⟩ : G_linotyperef34_Pen)
theorem c_linotyperef34_Pen_NewLine (Z : Own c0 G F) (b : G_linotyperef34_Pen) {r : G_linotyperef34_Pen} (S : Sl R_api_Line c0 v1 b.L) (H : f_linotyperef34_Pen_NewLine b = some r) :
    Calls prog 204 #[.agg #[v1, I b.At.Row, I b.At.Col, B b.At.Pending, B b.Auto]] c0.w (Post c0 fun c v => ∃ X, Own c G (F) ∧ v = .agg #[X, I r.At.Row, I r.At.Col, B r.At.Pending, B r.Auto] ∧ Sl R_api_Line c X r.L) := by
 unfold f_linotyperef34_Pen_NewLine at H
 refine en func204 rfl rfl (sr ?_)
 obtain ⟨M, N, P, rfl⟩ := (S).form
 refine me (al 43 [.slice M N P, I b.At.Row, I b.At.Col, B b.At.Pending, B b.Auto] Z) ?_
 rintro v9 c8 l8 ⟨d, rfl, O7⟩
 refine me (al 43 [Y, I 0, I 0, B false, B false] O7) ?_
 rintro v13 e0 l0 ⟨d0, rfl, o⟩
 refine wln (sr (vx (leN 43 0 [.slice M N P, I b.At.Row, I b.At.Col, B b.At.Pending, B b.Auto] (o.on 1 rfl)) (bn H fun a R H => cl (c_linotyperef34_Pen_Hold o b S.m R) ?_)))
 rintro v22 f0 m0 ⟨v15, y, rfl, i⟩
 obtain ⟨f, g, h, rfl⟩ := (i).form
 refine md (sA 43 [.slice f g h, I a.At.Row, I a.At.Col, B a.At.Pending, B a.Auto] 1 y ⟨i.one, rfl, rfl, rfl, rfl, trivial⟩) ?_
 rintro g0 o0 z
 refine wln (sr (va (.pointer (some ⟨d, 1, none⟩)) (va (.pointer (some ⟨d, 3, none⟩)) (md (sC 4 3 (B false) [.slice f g h, I a.At.Row, I a.At.Col, B false, B a.Auto] 1 z ⟨rfl, trivial⟩) ?_))))
 rintro h0 q0 e
 refine wln (W.seq (sr (va (.pointer (some ⟨d, 1, none⟩)) (va (.pointer (some ⟨d, 1, none⟩)) (vx (le1 1 underlying3 (e.on 1 rfl)) (va (I (w64 (a.At.Row + 1))) (va (Q d) (vx (le1 0 underlying22 (e.on 1 rfl)) (vx (ln 3 underlying22 i.m) (va (B (decide ((w64 (a.At.Row + 1)) < (a.L.length : Int)))) (wln (cn H (fun T H => ?_) (fun T H => ?_)))))))))))))
 ·refine sr (va (.pointer (some ⟨d, 1, none⟩)) (va (.pointer (some ⟨d, 1, none⟩)) (vx (le1 1 underlying3 (e.on 1 rfl)) (va (I (w64 (a.At.Row + 1))) (va (.pointer (some ⟨d, 1, none⟩)) (va (.pointer (some ⟨d, 1, none⟩)) (md (sC 3 1 (I (w64 (a.At.Row + 1))) [.slice f g h, I (w64 (a.At.Row + 1)), I a.At.Col, B false, B a.Auto] 1 e ⟨rfl, trivial⟩) ?_)))))))
  rintro i0 s0 p
  refine wln (sr (vx (leN 43 0 [.slice f g h, I (w64 (a.At.Row + 1)), I a.At.Col, B false, B a.Auto] (p.on 1 rfl)) (md (sA 43 [.slice f g h, I (w64 (a.At.Row + 1)), I a.At.Col, B false, B a.Auto] 0 p ⟨i.m.one, rfl, rfl, rfl, rfl, trivial⟩) ?_)))
  rintro u t0 q
  refine wln (W.ret (thr ?_))
  obtain rfl := si H
  have A := q.sD 2 []
  exact retC (c := u) (vs := [.slice f g h, I (w64 (a.At.Row + 1)), I a.At.Col, B false, B a.Auto]) rfl (by kernel_rfl) (by kernel_rfl) (by kernel_rfl) (q.on 0 rfl _ rfl).1 ⟨_, u, rfl, rfl, pt, (.slice f g h), A, rfl, i.m⟩
 refine W.skip (nrm (sr (va (Q d) (vx (le1 0 underlying22 (e.on 1 rfl)) (va (Q d) (vx (le1 0 underlying22 (e.on 1 rfl)) (vx (ln 3 underlying22 i.m) (bn H fun b0 U H => cl (c_linotyperef33_Move e a.L 0 (a.L.length : Int) 1 true i.m U) ?_))))))))
 rintro v37 j0 u0 ⟨_, D, rfl, n⟩
 refine va (Q d) ?_
 obtain ⟨j, k, l, rfl⟩ := (n).form
 refine md (sC 22 0 (.slice j k l) [.slice j k l, I a.At.Row, I a.At.Col, B false, B a.Auto] 1 D ⟨n.one, trivial⟩) ?_
 rintro k0 v0 s
 refine wln (sr (vx (leN 43 0 [.slice j k l, I a.At.Row, I a.At.Col, B false, B a.Auto] (s.on 1 rfl)) (md (sA 43 [.slice j k l, I a.At.Row, I a.At.Col, B false, B a.Auto] 0 s ⟨n.m.one, rfl, rfl, rfl, rfl, trivial⟩) ?_)))
 rintro x w0 t
 refine wln (W.ret ?_)
 obtain rfl := si H
 have E := t.sD 2 []
 exact retC (c := x) (vs := [.slice j k l, I a.At.Row, I a.At.Col, B false, B a.Auto]) rfl (by kernel_rfl) (by kernel_rfl) (by kernel_rfl) (t.on 0 rfl _ rfl).1 ⟨_, x, rfl, rfl, pt, (.slice j k l), E, rfl, n.m⟩
def f_linotyperef34_Pen_With (p0 : G_linotyperef34_Pen) (p1 : Int) (p2 : G_api_Line) : Option (G_linotyperef34_Pen) :=
 (app ([] : List G_api_Line) p0.L).bind fun a =>
 (idx a p1).bind fun c =>
 (sets a p1 p2).bind fun b =>
 some (⟨b, p0.At, p0.Auto⟩ : G_linotyperef34_Pen)
theorem c_linotyperef34_Pen_With (O0 : Own c0 G F) (a : G_linotyperef34_Pen) (x : Int) (f : G_api_Line) {r : G_linotyperef34_Pen} (M : Sl R_api_Line c0 v1 a.L) (t : Sl R_api_Cell c0 v3 f.Cells) (H : f_linotyperef34_Pen_With a x f = some r) :
    Calls prog 98 #[.agg #[v1, I a.At.Row, I a.At.Col, B a.At.Pending, B a.Auto], I x, .agg #[v3, B f.Wrap]] c0.w (Post c0 fun c v => ∃ y y2, Own c G (es true R_api_Line y 71 y2 r.L :: F) ∧ v = .agg #[y, I r.At.Row, I r.At.Col, B r.At.Pending, B r.Auto] ∧ OA R_api_Line c y y2 r.L) := by
 unfold f_linotyperef34_Pen_With at H
 refine en func98 rfl rfl (sr ?_)
 obtain ⟨a5, a6, a7, rfl⟩ := (M).form
 refine me (al 43 [.slice a5 a6 a7, I a.At.Row, I a.At.Col, B a.At.Pending, B a.Auto] O0) ?_
 rintro v11 m0 X ⟨s, rfl, O9⟩
 obtain ⟨g, h, i, rfl⟩ := ((t.mono X)).form
 refine me (bx 71 [.slice g h i, B f.Wrap] O9) ?_
 rintro v19 o0 w0 ⟨k0, rfl, z, Z⟩
 refine me (al 43 [Y, I 0, I 0, B false, B false] z) ?_
 rintro v23 q0 x0 ⟨l0, rfl, A⟩
 refine wln (sr (me (sl R_api_Line 71 [] ([] : List G_api_Line) A trivial) ?_))
 rintro v28 s0 y0 ⟨d1, k, N⟩
 refine va (Q s) (vx (le1 0 underlying22 (k.on 2 rfl)) (bn H fun f1 P H => me (ap R_api_Line (.agg #[Y, B false]) 32 22 0 k N M.m P underlying22) ?_))
 rintro v34 t0 z0 ⟨e1, D, j⟩
 refine va (Q s) ?_
 obtain ⟨b, d, e, rfl⟩ := (j).form
 refine md (sC 22 0 (.slice b d e) [.slice b d e, I a.At.Row, I a.At.Col, B a.At.Pending, B a.Auto] 2 D ⟨(j).one, trivial⟩) ?_
 rintro u0 a1 l
 refine wln (sr (va (Q s) (vx (le1 0 underlying22 (l.on 2 rfl)) (va (I x) (vx (lN 71 (mm Z)) (bn H fun j0 S H => vx (ixO underlying22 j.m S) (bn H fun i0 U H => md (Own.stW (R := R_api_Line) (T := 71) (us := [.slice g h i, B f.Wrap]) (x' := f) (u := .agg #[.slice g h i, B f.Wrap]) 0 l (by kernel_rfl) rfl j.m U rfl (by kernel_rfl) ⟨t.m.one, rfl, trivial⟩ rfl ⟨(.slice g h i), rfl, t.m⟩) ?_)))))))
 rintro v0 b1 ⟨a0, n, q⟩
 refine wln (sr (vx (leN 43 0 [.slice b d e, I a.At.Row, I a.At.Col, B a.At.Pending, B a.Auto] (n.on 2 rfl)) (md (sA 43 [.slice b d e, I a.At.Row, I a.At.Col, B a.At.Pending, B a.Auto] 1 n ⟨(q).one, rfl, rfl, rfl, rfl, trivial⟩) ?_)))
 rintro p c1 o
 refine wln (W.ret ?_)
 obtain rfl := si H
 have E := o.sD 3 [0]
 exact retC (c := p) (vs := [.slice b d e, I a.At.Row, I a.At.Col, B a.At.Pending, B a.Auto]) rfl (by kernel_rfl) (by kernel_rfl) (by kernel_rfl) (o.on 1 rfl _ rfl).1 ⟨_, p, rfl, rfl, pt, (.slice b d e), a0, E, rfl, q.m⟩
def f_linotyperef34_Pen_GoOn (p0 : G_linotyperef34_Pen) : Option (G_linotyperef34_Pen) :=
 (idx p0.L p0.At.Row).bind fun b =>
 (f_linotyperef34_Pen_With p0 p0.At.Row (⟨b.Cells, true⟩ : G_api_Line)).bind fun a =>
 (f_linotyperef34_Pen_NewLine (⟨a.L, (⟨a.At.Row, 0, false⟩ : G_api_Cursor), a.Auto⟩ : G_linotyperef34_Pen)).bind fun c =>
 some c
theorem c_linotyperef34_Pen_GoOn (O0 : Own c0 G F) (a : G_linotyperef34_Pen) {r : G_linotyperef34_Pen} (y : Sl R_api_Line c0 v1 a.L) (H : f_linotyperef34_Pen_GoOn a = some r) :
    Calls prog 157 #[.agg #[v1, I a.At.Row, I a.At.Col, B a.At.Pending, B a.Auto]] c0.w (Post c0 fun c v => ∃ y1, Own c G (F) ∧ v = .agg #[y1, I r.At.Row, I r.At.Col, B r.At.Pending, B r.Auto] ∧ Sl R_api_Line c y1 r.L) := by
 unfold f_linotyperef34_Pen_GoOn at H
 refine en func157 rfl rfl (sr ?_)
 obtain ⟨g, h, i, rfl⟩ := (y).form
 refine me (al 43 [.slice g h i, I a.At.Row, I a.At.Col, B a.At.Pending, B a.Auto] O0) ?_
 rintro v9 c8 l8 ⟨e, rfl, O7⟩
 refine me (al 43 [Y, I 0, I 0, B false, B false] O7) ?_
 rintro v13 a1 l0 ⟨z0, rfl, T⟩
 refine wln (W.seq (rD [14] (Kp G0 [(Eb e 43 [.slice g h i, I a.At.Row, I a.At.Col, B a.At.Pending, B a.Auto])]) T ?_))
 intro e0 m0 z
 have k : Kp G0 [(Eb e 43 [.slice g h i, I a.At.Row, I a.At.Col, B a.At.Pending, B a.Auto])] e0 := (Kp.cons (z.on 1 rfl) Kp.nil0)
 refine tkx 0 k (fun t f j => leN 43 0 [.slice g h i, I a.At.Row, I a.At.Col, B a.At.Pending, B a.Auto] (j.on 0 rfl)) (ta 1 (.pointer (some ⟨e, 1, none⟩)) (ta 2 (.pointer (some ⟨e, 1, none⟩)) (tkx 3 k (fun t f j => le1 1 underlying3 (j.on 0 rfl)) (ta 4 (Q e) (tkx 5 k (fun t f j => le1 0 underlying22 (j.on 0 rfl)) (ta 6 (.pointer (some ⟨e, 1, none⟩)) (ta 7 (.pointer (some ⟨e, 1, none⟩)) (tkx 8 k (fun t f j => le1 1 underlying3 (j.on 0 rfl)) (bn H fun S P H => ?_)))))))))
 obtain ⟨y0, g0, s0⟩ := Sl.at (y.mono (l8.trans (l0.trans m0))) (idx_get P)
 obtain ⟨v21, rfl, R⟩ := g0
 refine tx 9 (fun t f => ix underlying22 y.m P) (ta 10 (.pointer (some ⟨sb (.slice g h i), so (.slice g h i) + a.At.Row.toNat * 2, none⟩)) (tx 11 (fun t f => l1 underlying69 ((mm s0) 0 _ rfl)) ?_))
 obtain ⟨a0, b0, d0, rfl⟩ := (R).form
 refine ta 12 (.agg #[.slice a0 b0 d0, B true]) (bn H fun b h0 H => o1 13 (gc 13 (c_linotyperef34_Pen_With z a a.At.Row (⟨S.Cells, true⟩ : G_api_Line) y.m R h0) ?_))
 rintro v35 f0 f1 ⟨v27, j1, A, rfl, u⟩
 have t0 : Kp G0 [(Eb e 43 [.slice g h i, I a.At.Row, I a.At.Col, B a.At.Pending, B a.Auto])] f0 := (Kp.cons (A.on 2 rfl) Kp.nil0)
 refine ⟨.inr t0, ?_⟩
 obtain ⟨l, n, o, rfl⟩ := (u).form
 refine o1 14 (gD 14 (sA 43 [.slice l n o, I b.At.Row, I b.At.Col, B b.At.Pending, B b.Auto] 2 A ⟨(u).one, rfl, rfl, rfl, rfl, trivial⟩) ?_)
 rintro b1 o0 D
 refine ⟨.inl rfl, dn (nrm (sr (va (.pointer (some ⟨e, 1, none⟩)) (va (.pointer (some ⟨e, 1, none⟩)) (vx (le1 1 underlying3 (D.on 2 rfl)) (va (.agg #[I b.At.Row, I 0, B false]) (va (.pointer (some ⟨e, 1, none⟩)) (md (sB 24 1 [I b.At.Row, I 0, B false] [.slice l n o, I b.At.Row, I 0, B false, B b.Auto] 2 D ⟨rfl, rfl, rfl, trivial⟩) ?_))))))))⟩
 rintro c1 q0 E
 refine wln (sr (vx (leN 43 0 [.slice l n o, I b.At.Row, I 0, B false, B b.Auto] (E.on 2 rfl)) ?_))
 obtain ⟨d1, j0, g1, U, i0⟩ := E.frz 0 rfl (u.mono (o0.trans q0))
 refine WL.gh j0 (bn H fun d k0 H => cl (c_linotyperef34_Pen_NewLine U (⟨b.L, (⟨b.At.Row, 0, false⟩ : G_api_Cursor), b.Auto⟩ : G_linotyperef34_Pen) i0 k0) ?_)
 rintro v56 e1 h1 ⟨v49, X, rfl, x⟩
 obtain ⟨p, q, s, rfl⟩ := (x).form
 refine md (sA 43 [.slice p q s, I d.At.Row, I d.At.Col, B d.At.Pending, B d.Auto] 1 X ⟨x.one, rfl, rfl, rfl, rfl, trivial⟩) ?_
 rintro N i1 M
 refine wln (W.ret ?_)
 obtain rfl := si H
 have Z := M.sD 3 []
 exact retC (c := N) (vs := [.slice p q s, I d.At.Row, I d.At.Col, B d.At.Pending, B d.Auto]) rfl (by kernel_rfl) (by kernel_rfl) (by kernel_rfl) (M.on 1 rfl _ rfl).1 ⟨_, N, rfl, rfl, pt, (.slice p q s), Z, rfl, x.m⟩
def f_linotyperef34_Pen_Paint (p0 : G_linotyperef34_Pen) (p1 : Int) (p2 : Int) (p3 : List G_api_Cell) : Option (G_linotyperef34_Pen) :=
 (idx p0.L p1).bind fun d =>
 (idx p0.L p1).bind fun b =>
 (f_linotyperef24_Paint d.Cells b.Wrap p2 p3).bind fun a =>
 (f_linotyperef34_Pen_With p0 p1 (⟨a.1, a.2⟩ : G_api_Line)).bind fun c =>
 some c
theorem c_linotyperef34_Pen_Paint (O0 : Own c0 G F) (d : G_linotyperef34_Pen) (f : Int) (s : Int) (M : List G_api_Cell) {r : G_linotyperef34_Pen} (g : Sl R_api_Line c0 v1 d.L) (h4 : Sl R_api_Cell c0 v3 M) (H : f_linotyperef34_Pen_Paint d f s M = some r) :
    Calls prog 158 #[.agg #[v1, I d.At.Row, I d.At.Col, B d.At.Pending, B d.Auto], I f, I s, v3] c0.w (Post c0 fun c v => ∃ P y2, Own c G (es true R_api_Line P 71 y2 r.L :: F) ∧ v = .agg #[P, I r.At.Row, I r.At.Col, B r.At.Pending, B r.Auto] ∧ OA R_api_Line c P y2 r.L) := by
 unfold f_linotyperef34_Pen_Paint at H
 refine en func158 rfl rfl (sr ?_)
 obtain ⟨h, i, n, rfl⟩ := (g).form
 refine me (bx 43 [.slice h i n, I d.At.Row, I d.At.Col, B d.At.Pending, B d.Auto] O0) ?_
 rintro v12 d1 A ⟨b8, rfl, O9, q⟩
 refine me (al 43 [Y, I 0, I 0, B false, B false] O9) ?_
 rintro v16 e1 D ⟨c1, rfl, R⟩
 refine wln (W.seq (rD [] (Kp G0 []) R ?_))
 intro f0 E S
 have n1 : Kp G0 [] f0 := Kp.nil0
 refine ta 0 (Q b8) (tx 1 (fun o e => l1 underlying22 ((mm q) 0 _ rfl)) (ta 2 (I f) (bn H fun v0 x H => ?_)))
 obtain ⟨a1, h0, q0⟩ := Sl.at (g.mono (A.trans (D.trans E))) (idx_get x)
 obtain ⟨v24, rfl, i0⟩ := h0
 refine tx 3 (fun o e => ix underlying22 g.m x) (ta 4 (.pointer (some ⟨sb (.slice h i n), so (.slice h i n) + f.toNat * 2, none⟩)) (tx 5 (fun o e => l1 underlying69 ((mm q0) 0 _ rfl)) (ta 6 (Q b8) (tx 7 (fun o e => l1 underlying22 ((mm q) 0 _ rfl)) (ta 8 (I f) (bn H fun N y H => ?_))))))
 obtain ⟨b1, j0, s0⟩ := Sl.at (g.mono (A.trans (D.trans E))) (idx_get y)
 obtain ⟨v30, rfl, h1⟩ := j0
 refine tx 9 (fun o e => ix underlying22 g.m y) (ta 10 (.pointer (some ⟨sb (.slice h i n), so (.slice h i n) + f.toNat * 2 + 1, none⟩)) (tx 11 (fun o e => l1 underlying4 ((mm s0) 1 _ rfl)) (ta 12 (I s) (ta 13 (v3) (bn H fun b k0 H => o1 14 (gc 14 (c_linotyperef24_Paint S v0.Cells N.Wrap s M i0 h4.m k0) ?_))))))
 rintro v41 g0 i1 ⟨v33, q1, T, rfl, z⟩
 have t0 : Kp G0 [] g0 := Kp.nil0
 refine ⟨.inr t0, ta 15 (.tuple #[v33, B b.2]) (ta 16 (v33) (ta 17 (B b.2) (ta 18 (v33) (ta 19 (B b.2) (dn (nrm (sr (vx (lN 43 (mm q)) (va (I f) (va (v33) (va (B b.2) ?_)))))))))))⟩
 obtain ⟨a0, b0, d0, rfl⟩ := (z).form
 refine va (.agg #[.slice a0 b0 d0, B b.2]) ?_
 obtain ⟨f1, m0, j1, U, l0⟩ := T.frz 0 rfl z
 refine WL.gh m0 (bn H fun a o0 H => cl (c_linotyperef34_Pen_With U d f (⟨b.1, b.2⟩ : G_api_Line) g.m l0 o0) ?_)
 rintro v59 g1 k1 ⟨v51, u0, X, rfl, p⟩
 obtain ⟨j, k, l, rfl⟩ := (p).form
 refine md (sA 43 [.slice j k l, I a.At.Row, I a.At.Col, B a.At.Pending, B a.Auto] 2 X ⟨(p).one, rfl, rfl, rfl, rfl, trivial⟩) ?_
 rintro u m1 t
 refine wln (W.ret ?_)
 obtain rfl := si H
 have Z := t.sD 3 [0]
 exact retC (c := u) (vs := [.slice j k l, I a.At.Row, I a.At.Col, B a.At.Pending, B a.Auto]) rfl (by kernel_rfl) (by kernel_rfl) (by kernel_rfl) (t.on 2 rfl _ rfl).1 ⟨_, u, rfl, rfl, pt, (.slice j k l), u0, Z, rfl, p.m⟩
def f_linotyperef31_After (p0 : G_api_Cursor) (p1 : Int) (p2 : Int) (p3 : Bool) : Option (G_api_Cursor) :=
 (if (decide (p1 > 1)) = true then
 some (2)
 else
 some (1)).bind fun a =>
 (f_linotyperef31_Side p2).bind fun b =>
 if (decide (p0.Col ≥ (w64 (b - a)))) = true then
 (f_linotyperef31_Side p2).bind fun c =>
 some (⟨p0.Row, (w64 (c - 1)), p3⟩ : G_api_Cursor)
 else
 some (⟨p0.Row, (w64 (p0.Col + a)), false⟩ : G_api_Cursor)
theorem c_linotyperef31_After (O0 : Own c0 G F) (a : G_api_Cursor) (n : Int) (g : Int) (h : Bool) {r : G_api_Cursor} (H : f_linotyperef31_After a n g h = some r) :
    Calls prog 160 #[.agg #[I a.Row, I a.Col, B a.Pending], I n, I g, B h] c0.w (Post c0 fun c v => Own c G (F) ∧ v = .agg #[I r.Row, I r.Col, B r.Pending]) := by
 unfold f_linotyperef31_After at H
 refine en func160 rfl rfl (sr (me (bx 24 [I a.Row, I a.Col, B a.Pending] O0) ?_))
 rintro v5 c4 l4 ⟨i, rfl, O2, m⟩
 refine me (al 24 [I 0, I 0, B false] O2) ?_
 rintro v9 t l8 ⟨M, rfl, E⟩
 refine wln (sr (va (I 1) (wln (bn H fun d f b => W.seqJ (Jn t fun c l => Own c G ((Eb M 24 [I 0, I 0, B false]) :: F) ∧ l = [(2, I g), (3, B h), (4, Q i), (8, Q M), (9, I d)]) ?_ ?_))))
 ·refine sr (va (I n) (va (B (decide (n > 1))) (wln (cn f (fun T f => ?_) (fun T f => ?_)))))
  ·refine W.region (va (I 2) (wln ?_))
   obtain rfl := si f
   exact ⟨t, _, _, rfl, pt, us, E, rfl⟩
  refine W.skip (nrm ?_)
  obtain rfl := si f
  exact ⟨t, _, _, rfl, pt, us, E, rfl⟩
 rintro e_ w_ ⟨i0, j0, _, rfl, k0, rfl, u, rfl⟩
 refine W.seq (W.seq (rD [] (Kp G0 []) u ?_))
 intro N l0 x
 have u0 : Kp G0 [] N := Kp.nil0
 refine ta 0 (.pointer (some ⟨i, 0 + 1, none⟩)) (tx 1 (fun c' a0 => l1 underlying3 ((mm m) 1 _ rfl)) (ta 2 (I g) (ta 4 (I d) (bn b fun k U b => o1 3 (gc 3 (c_linotyperef31_Side x g U) ?_)))))
 rintro v28 P m0 ⟨o, rfl⟩
 have b0 : Kp G0 [] P := Kp.nil0
 refine ⟨.inr b0, ta 5 (I (w64 (k - d))) (ta 6 (B (decide (a.Col ≥ (w64 (k - d))))) (dn (nrm (cn b (fun X b => ?_) (fun X b => ?_)))))⟩
 ·refine W.seq (rD [] (Kp G0 []) o ?_)
  intro R o0 y
  have v0 : Kp G0 [] R := Kp.nil0
  refine ta 0 (Q i) (tx 1 (fun c' a0 => l1 underlying3 ((mm m) 0 _ rfl)) (ta 2 (I g) (ta 5 (B h) (bn b fun e Z b => o1 3 (gc 3 (c_linotyperef31_Side y g Z) ?_)))))
  rintro v40 S q0 ⟨z, rfl⟩
  have d0 : Kp G0 [] S := Kp.nil0
  refine ⟨.inr d0, ta 4 (I (w64 (e - 1))) (ta 6 (.agg #[I a.Row, I (w64 (e - 1)), B h]) (o1 7 (gD 7 (sA 24 [I a.Row, I (w64 (e - 1)), B h] 0 z ⟨rfl, rfl, rfl, trivial⟩) ?_)))⟩
  rintro j s0 p
  have e0 : Kp G0 [] j := Kp.nil0
  refine ⟨.inr e0, dn (nrm (W.ret (thr ?_)))⟩
  obtain rfl := si b
  have A := p.sD 1 []
  exact retC (c := j) (vs := [I a.Row, I (w64 (e - 1)), B h]) rfl (by kernel_rfl) (by kernel_rfl) (by kernel_rfl) (p.on 0 rfl _ rfl).1 ⟨_, j, rfl, rfl, pt, A, rfl⟩
 refine W.skip (nrm (sr (va (Q i) (vx (l1 underlying3 ((mm m) 0 _ rfl)) (va (.pointer (some ⟨i, 0 + 1, none⟩)) (vx (l1 underlying3 ((mm m) 1 _ rfl)) (va (I d) (va (I (w64 (a.Col + d))) (va (.agg #[I a.Row, I (w64 (a.Col + d)), B false]) (md (sA 24 [I a.Row, I (w64 (a.Col + d)), B false] 0 o ⟨rfl, rfl, rfl, trivial⟩) ?_))))))))))
 rintro s t0 q
 refine wln (W.ret ?_)
 obtain rfl := si b
 have D := q.sD 1 []
 exact retC (c := s) (vs := [I a.Row, I (w64 (a.Col + d)), B false]) rfl (by kernel_rfl) (by kernel_rfl) (by kernel_rfl) (q.on 0 rfl _ rfl).1 ⟨_, s, rfl, rfl, pt, D, rfl⟩
def f_linotyperef34_Pen_Put (p0 : G_linotyperef34_Pen) (p1 : Int) (p2 : List Int) : Option (G_linotyperef34_Pen × G_api_Cursor) :=
 (f_linotyperef34_Pen_Hold p0).bind fun c =>
 (f_linotyperef34_Pen_Wide c).bind fun d =>
 (if (decide ((imax 1 (imin p1 2)) > d)) = true then
 some (1, ([65533] : List Int))
 else
 some ((imax 1 (imin p1 2)), p2)).bind fun g =>
 (if c.At.Pending = true then
 (f_linotyperef34_Pen_GoOn c).bind fun e =>
 some (e.L, e.At.Row, e.At.Col, e.At.Pending, e.Auto)
 else
 some (c.L, c.At.Row, c.At.Col, c.At.Pending, c.Auto)).bind fun a =>
 ((andE (g.1 == 2) (some (a.2.2.1 == (w64 (d - 1))))).bind fun i =>
 if i = true then
 if a.2.2.2.2 = true then
 (rep 1 (⟨0, ([] : List Int)⟩ : G_api_Cell)).bind fun j =>
 (f_linotyperef34_Pen_Paint (⟨a.1, (⟨a.2.1, a.2.2.1, a.2.2.2.1⟩ : G_api_Cursor), a.2.2.2.2⟩ : G_linotyperef34_Pen) a.2.1 (w64 (d - 1)) j).bind fun k =>
 (f_linotyperef34_Pen_GoOn k).bind fun f =>
 some (f.L, f.At.Row, f.At.Col, f.At.Pending, f.Auto)
 else
 some (a.1, a.2.1, (w64 (d - 2)), a.2.2.2.1, a.2.2.2.2)
 else
 some (a.1, a.2.1, a.2.2.1, a.2.2.2.1, a.2.2.2.2)).bind fun b =>
 (f_linotyperef23_Of g.1 g.2).bind fun l =>
 (f_linotyperef34_Pen_Paint (⟨b.1, (⟨b.2.1, b.2.2.1, b.2.2.2.1⟩ : G_api_Cursor), b.2.2.2.2⟩ : G_linotyperef34_Pen) b.2.1 b.2.2.1 l).bind fun h =>
 (f_linotyperef31_After (⟨b.2.1, b.2.2.1, false⟩ : G_api_Cursor) g.1 d h.Auto).bind fun m =>
 some ((⟨h.L, m, h.Auto⟩ : G_linotyperef34_Pen), (⟨b.2.1, b.2.2.1, false⟩ : G_api_Cursor))
theorem c_linotyperef34_Pen_Put (O0 : Own c0 G F) (u : G_linotyperef34_Pen) (p1 : Int) (p2 : List Int) {r : G_linotyperef34_Pen × G_api_Cursor} (h2 : Sl R_api_Line c0 v1 u.L) (h4 : Sl (RI .i32) c0 v3 p2) (H : f_linotyperef34_Pen_Put u p1 p2 = some r) :
    Calls prog 88 #[.agg #[v1, I u.At.Row, I u.At.Col, B u.At.Pending, B u.Auto], I p1, v3] c0.w (Post c0 fun c v => ∃ y1 y2, Own c G (es true R_api_Line y1 71 y2 r.1.L :: F) ∧ v = .tuple #[.agg #[y1, I r.1.At.Row, I r.1.At.Col, B r.1.At.Pending, B r.1.Auto], .agg #[I r.2.Row, I r.2.Col, B r.2.Pending]] ∧ OA R_api_Line c y1 y2 r.1.L) := by
 unfold f_linotyperef34_Pen_Put at H
 refine en func88 rfl rfl (sr ?_)
 obtain ⟨a5, a6, a7, rfl⟩ := (h2).form
 refine me (al 43 [.slice a5 a6 a7, I u.At.Row, I u.At.Col, B u.At.Pending, B u.Auto] O0) ?_
 rintro v11 m7 w7 ⟨f, rfl, O9⟩
 refine me (al 43 [Y, I 0, I 0, B false, B false] O9) ?_
 rintro v15 n7 x7 ⟨D, rfl, u4⟩
 refine me (al 24 [I 0, I 0, B false] u4) ?_
 rintro v19 o7 y7 ⟨E, rfl, s1⟩
 refine wln (sr (vx (leN 43 0 [.slice a5 a6 a7, I u.At.Row, I u.At.Col, B u.At.Pending, B u.Auto] (s1.on 2 rfl)) (bn H fun h j5 H => cl (c_linotyperef34_Pen_Hold s1 u h2.m j5) ?_)))
 rintro v28 p7 z7 ⟨v21, v4, rfl, e0⟩
 obtain ⟨a0, b0, d0, rfl⟩ := (e0).form
 refine md (sA 43 [.slice a0 b0 d0, I h.At.Row, I h.At.Col, B h.At.Pending, B h.Auto] 2 v4 ⟨e0.one, rfl, rfl, rfl, rfl, trivial⟩) ?_
 rintro q7 a8 t1
 refine wln (sr (va (I p1) (va (I (imin p1 2)) (va (I (imax 1 (imin p1 2))) (va (I (imax 1 (imin p1 2))) (wln (sr (vx (leN 43 0 [.slice a0 b0 d0, I h.At.Row, I h.At.Col, B h.At.Pending, B h.Auto] (t1.on 2 rfl)) (bn H fun e k5 H => cl (c_linotyperef34_Pen_Wide t1 h e0.m k5) ?_)))))))))
 rintro v40 a2 c8 ⟨u1, rfl⟩
 refine va (I e) (wln (bn H fun n Z r4 => W.seqJ (Jn a2 fun c l => ∃ v43, Own c G ((Eb E 24 [I 0, I 0, B false]) :: (Eb D 43 [Y, I 0, I 0, B false, B false]) :: (Eb f 43 [.slice a0 b0 d0, I h.At.Row, I h.At.Col, B h.At.Pending, B h.Auto]) :: F) ∧ l = [(1, I n.1), (2, v43), (3, Q f), (6, Q D), (7, Q E), (8, I e)] ∧ Sl (RI .i32) c v43 n.2) ?_ ?_))
 ·refine sr (va (I (imax 1 (imin p1 2))) (va (I e) (va (B (decide ((imax 1 (imin p1 2)) > e))) (wln (cn Z (fun l5 Z => ?_) (fun l5 Z => ?_))))))
  ·refine sr (va (I 1) (wln (W.region (me (sl (RI .i32) 21 [[J 65533]] ([65533] : List Int) u1 ⟨rfl, trivial⟩) ?_))))
   rintro v49 r7 d8 ⟨k8, w4, m5⟩
   refine va (v49) (wln ?_)
   obtain rfl := si Z
   obtain ⟨f5, o5, e8, x4, n5⟩ := w4.frz 0 rfl m5
   have y4 := x4.sD 4 [1, 2, 3]
   exact ⟨f5, _, _, o5.symm, pt, us, v49, y4, rfl, n5⟩
  refine W.skip (nrm ?_)
  obtain rfl := si Z
  exact ⟨a2, _, _, rfl, pt, us, v3, u1, rfl, h4.m⟩
 rintro e_ w_ ⟨b2, t7, _, rfl, f8, rfl, v43, v0, rfl, p5⟩
 refine bn r4 fun b M s4 => W.seqJ (Jn b2 fun c l => ∃ p, Own c G ((Eb E 24 [I 0, I 0, B false]) :: (Eb D 43 [Y, I 0, I 0, B false, B false]) :: (Eb f 43 [p, I b.2.1, I b.2.2.1, B b.2.2.2.1, B b.2.2.2.2]) :: F) ∧ l = [(1, I n.1), (2, v43), (3, Q f), (6, Q D), (7, Q E), (8, I e)] ∧ Sl R_api_Line c p b.1) ?_ ?_
 ·refine sr (va (.pointer (some ⟨f, 1, none⟩)) (va (.pointer (some ⟨f, 3, none⟩)) (vx (le1 3 underlying4 (v0.on 2 rfl)) (wln (cn M (fun q5 M => ?_) (fun q5 M => ?_))))))
  ·refine W.region (vx (leN 43 0 [.slice a0 b0 d0, I h.At.Row, I h.At.Col, B h.At.Pending, B h.Auto] (v0.on 2 rfl)) (bn M fun U r5 M => cl (c_linotyperef34_Pen_GoOn v0 h e0.m r5) ?_))
   rintro m8 s7 g8 ⟨l8, z4, rfl, k1⟩
   obtain ⟨w1, x1, z1, rfl⟩ := (k1).form
   refine md (sA 43 [.slice w1 x1 z1, I U.At.Row, I U.At.Col, B U.At.Pending, B U.Auto] 2 z4 ⟨k1.one, rfl, rfl, rfl, rfl, trivial⟩) ?_
   rintro g5 h8 b5
   refine wln ?_
   obtain rfl := si M
   exact ⟨g5, _, _, rfl, pt, us, (.slice w1 x1 z1), b5, rfl, k1.m⟩
  refine W.skip (nrm ?_)
  obtain rfl := si M
  exact ⟨b2, _, _, rfl, pt, us, (.slice a0 b0 d0), v0, rfl, e0.m⟩
 rintro e_ w_ ⟨x0, u7, _, rfl, i8, rfl, p, f1, rfl, m1⟩
 refine bn s4 fun a g N => W.seqJ (Jn x0 fun c l => ∃ y, Own c G ((Eb E 24 [I 0, I 0, B false]) :: (Eb D 43 [Y, I 0, I 0, B false, B false]) :: (Eb f 43 [y, I a.2.1, I a.2.2.1, B a.2.2.2.1, B a.2.2.2.2]) :: F) ∧ l = [(1, I n.1), (2, v43), (3, Q f), (6, Q D), (7, Q E), (8, I e)] ∧ Sl R_api_Line c y a.1) ?_ ?_
 ·refine W.seq (bn g fun d3 c2 g => W.join (Jn x0 fun c l => Own c G ((Eb E 24 [I 0, I 0, B false]) :: (Eb D 43 [Y, I 0, I 0, B false, B false]) :: (Eb f 43 [p, I b.2.1, I b.2.2.1, B b.2.2.2.1, B b.2.2.2.2]) :: F) ∧ l = [(1, I n.1), (2, v43), (3, Q f), (6, Q D), (7, Q E), (8, I e), (35, B d3)]) ?_ ?_)
  ·clear g
   refine W.region (va (I n.1) (va (B (n.1 == 2)) ?_))
   rcases bo (n.1 == 2) with f0 | f0
   ·have t4 := anT f0 c2
    refine vb f0 (wn (va (.pointer (some ⟨f, 1, none⟩)) (wn (va (.pointer (some ⟨f, 2, none⟩)) (wn (vx (le1 2 underlying3 (f1.on 2 rfl)) (wn (va (I e) (wn (va (I (w64 (e - 1))) (wn (va (B (b.2.2.1 == (w64 (e - 1)))) ?_))))))))))))
    obtain rfl := si t4
    exact va (B (b.2.2.1 == (w64 (e - 1)))) (wln ⟨x0, _, _, rfl, pt, us, f1, rfl⟩)
   obtain rfl := anF f0 c2
   exact vb f0 (ps (ps (ps (ps (ps (ps (va (B false) (wln ⟨x0, _, _, rfl, pt, us, f1, rfl⟩))))))))
  rintro e_ w_ ⟨h5, v7, _, rfl, j8, rfl, w0, rfl⟩
  refine nrm (cn g (fun s5 g => ?_) (fun s5 g => ?_))
  ·refine sr (va (.pointer (some ⟨f, 4, none⟩)) (vx (le1 4 underlying4 (w0.on 2 rfl)) (wln (cn g (fun f3 g => ?_) (fun f3 g => ?_)))))
   ·refine rD [9] (Kp G0 [(Eb f 43 [p, I b.2.1, I b.2.2.1, B b.2.2.2.1, B b.2.2.2.2])]) w0 ?_
    intro m2 g6 z0
    have n1 : Kp G0 [(Eb f 43 [p, I b.2.1, I b.2.2.1, B b.2.2.2.1, B b.2.2.2.2])] m2 := (Kp.cons (z0.on 2 rfl) Kp.nil0)
    refine tkx 0 n1 (fun c' S A => leN 43 0 [p, I b.2.1, I b.2.2.1, B b.2.2.2.1, B b.2.2.2.2] (A.on 0 rfl)) (ta 1 (.pointer (some ⟨f, 1, none⟩)) (ta 2 (.pointer (some ⟨f, 1, none⟩)) (tkx 3 n1 (fun c' S A => le1 1 underlying3 (A.on 0 rfl)) (ta 4 (I e) (ta 5 (I (w64 (e - 1))) (bn g fun n4 j1 g => o1 6 (gm 6 (Own.mkS (kl := .i64) (kc := .i64) (R := R_api_Cell) (z := .agg #[I 0, Y]) (lz := [I 0, Y]) (x := (⟨0, ([] : List Int)⟩ : G_api_Cell)) (by_ := 32) (i := 1) (j := 1) true z0 (Nat.succ_pos _) j1 (Int.le_refl _) (rep_le j1) underlying69 (by kernel_rfl) rfl rfl (fun _ => ⟨(Y), rfl, (Sl.nl _ _)⟩) (by kernel_rfl) (by kernel_rfl)) ?_)))))))
    rintro c7 n2 h6 ⟨y6, a1, g3⟩
    have a4 : Kp G0 [(Eb f 43 [p, I b.2.1, I b.2.2.1, B b.2.2.2.1, B b.2.2.2.2])] n2 := (Kp.cons (a1.on 3 rfl) Kp.nil0)
    refine ⟨.inr a4, ?_⟩
    obtain ⟨o2, i3, x3, b1, h3⟩ := a1.frz 0 rfl g3
    have b4 : Kp G0 [(Eb f 43 [p, I b.2.1, I b.2.2.1, B b.2.2.2.1, B b.2.2.2.2])] o2 := (Kp.cons (b1.on 3 rfl) Kp.nil0)
    refine AC.gh i3 x3 (fun _ => b4) (bn g fun o4 j3 g => o1 7 (gc 7 (c_linotyperef34_Pen_Paint b1 (⟨b.1, (⟨b.2.1, b.2.2.1, b.2.2.2.1⟩ : G_api_Cursor), b.2.2.2.2⟩ : G_linotyperef34_Pen) b.2.1 (w64 (e - 1)) n4 m1.m h3 j3) ?_))
    rintro e7 q2 i6 ⟨d7, z6, c1, rfl, k3⟩
    have c4 : Kp G0 [(Eb f 43 [p, I b.2.1, I b.2.2.1, B b.2.2.2.1, B b.2.2.2.2])] q2 := (Kp.cons (c1.on 4 rfl) Kp.nil0)
    refine ⟨.inr c4, ?_⟩
    obtain ⟨s2, m3, y3, d1, l3⟩ := c1.frz 0 rfl k3
    have d4 : Kp G0 [(Eb f 43 [p, I b.2.1, I b.2.2.1, B b.2.2.2.1, B b.2.2.2.2])] s2 := (Kp.cons (d1.on 4 rfl) Kp.nil0)
    refine AC.gh m3 y3 (fun _ => d4) (bn g fun X n3 g => o1 8 (gc 8 (c_linotyperef34_Pen_GoOn d1 o4 l3 n3) ?_))
    rintro g7 t2 j6 ⟨f7, e1, rfl, t0⟩
    have e4 : Kp G0 [(Eb f 43 [p, I b.2.1, I b.2.2.1, B b.2.2.2.1, B b.2.2.2.2])] t2 := (Kp.cons (e1.on 4 rfl) Kp.nil0)
    refine ⟨.inr e4, ?_⟩
    obtain ⟨g1, h1, i1, rfl⟩ := (t0).form
    refine o1 9 (gD 9 (sA 43 [.slice g1 h1 i1, I X.At.Row, I X.At.Col, B X.At.Pending, B X.Auto] 4 e1 ⟨t0.one, rfl, rfl, rfl, rfl, trivial⟩) ?_)
    rintro u2 k6 d2
    refine ⟨.inl rfl, dn (nrm ?_)⟩
    obtain rfl := si g
    have e2 := d2.sD 5 [2, 3, 4]
    exact ⟨u2, _, _, rfl, pt, us, (.slice g1 h1 i1), e2, rfl, t0.m⟩
   refine W.region (va (I e) (va (I (w64 (e - 2))) (va (.pointer (some ⟨f, 1, none⟩)) (va (.pointer (some ⟨f, 2, none⟩)) (md (sC 3 2 (I (w64 (e - 2))) [p, I b.2.1, I (w64 (e - 2)), B b.2.2.2.1, B b.2.2.2.2] 2 w0 ⟨rfl, trivial⟩) ?_)))))
   rintro v2 l6 f2
   refine wln ?_
   obtain rfl := si g
   exact ⟨v2, _, _, rfl, pt, us, p, f2, rfl, m1.m⟩
  refine W.skip (nrm ?_)
  obtain rfl := si g
  exact ⟨h5, _, _, rfl, pt, us, p, w0, rfl, m1.m⟩
 rintro e_ w_ ⟨x5, e6, _, rfl, m6, rfl, y, h0, rfl, o3⟩
 refine sr (va (.pointer (some ⟨f, 1, none⟩)) (va (.pointer (some ⟨f, 1, none⟩)) (vx (le1 1 underlying3 (h0.on 2 rfl)) (va (.pointer (some ⟨f, 1, none⟩)) (va (.pointer (some ⟨f, 2, none⟩)) (vx (le1 2 underlying3 (h0.on 2 rfl)) (va (.agg #[I a.2.1, I a.2.2.1, B false]) (me (al 24 [I 0, I 0, B false] h0) ?_))))))))
 rintro h7 y5 n6 ⟨o, rfl, g2⟩
 refine md (sA 24 [I a.2.1, I a.2.2.1, B false] 0 g2 ⟨rfl, rfl, rfl, trivial⟩) ?_
 rintro z5 o6 i2
 refine wln (W.seq (rD [9] (Kp G0 [(Eb f 43 [y, I a.2.1, I a.2.2.1, B a.2.2.2.1, B a.2.2.2.2]), (Eb o 24 [I a.2.1, I a.2.2.1, B false])]) i2 ?_))
 intro w2 p6 i0
 have u0 : Kp G0 [(Eb f 43 [y, I a.2.1, I a.2.2.1, B a.2.2.2.1, B a.2.2.2.2]), (Eb o 24 [I a.2.1, I a.2.2.1, B false])] w2 := (Kp.cons (i0.on 3 rfl) (Kp.cons (i0.on 0 rfl) Kp.nil0))
 refine tkx 0 u0 (fun c' S A => leN 43 0 [y, I a.2.1, I a.2.2.1, B a.2.2.2.1, B a.2.2.2.2] (A.on 0 rfl)) (ta 1 (Q o) (tkx 2 u0 (fun c' S A => le1 0 underlying3 (A.on 1 rfl)) (ta 3 (.pointer (some ⟨o, 1, none⟩)) (tkx 4 u0 (fun c' S A => le1 1 underlying3 (A.on 1 rfl)) (ta 5 (I n.1) (ta 6 (v43) (bn N fun p4 p3 N => o1 7 (gc 7 (c_linotyperef23_Of i0 n.1 n.2 p5.m p3) ?_))))))))
 rintro i7 x2 q6 ⟨_, b7, j0, rfl, q3⟩
 have f4 : Kp G0 [(Eb f 43 [y, I a.2.1, I a.2.2.1, B a.2.2.2.1, B a.2.2.2.2]), (Eb o 24 [I a.2.1, I a.2.2.1, B false])] x2 := (Kp.cons (j0.on 4 rfl) (Kp.cons (j0.on 1 rfl) Kp.nil0))
 refine ⟨.inr f4, ?_⟩
 obtain ⟨z2, t3, z3, k0, s3⟩ := j0.frz 0 rfl q3
 have g4 : Kp G0 [(Eb f 43 [y, I a.2.1, I a.2.2.1, B a.2.2.2.1, B a.2.2.2.2]), (Eb o 24 [I a.2.1, I a.2.2.1, B false])] z2 := (Kp.cons (k0.on 4 rfl) (Kp.cons (k0.on 1 rfl) Kp.nil0))
 refine AC.gh t3 z3 (fun _ => g4) (bn N fun k u3 N => o1 8 (gc 8 (c_linotyperef34_Pen_Paint k0 (⟨a.1, (⟨a.2.1, a.2.2.1, a.2.2.2.1⟩ : G_api_Cursor), a.2.2.2.2⟩ : G_linotyperef34_Pen) a.2.1 a.2.2.1 p4 o3.m s3 u3) ?_))
 rintro k7 a3 r6 ⟨j7, l4, l0, rfl, T⟩
 have i4 : Kp G0 [(Eb f 43 [y, I a.2.1, I a.2.2.1, B a.2.2.2.1, B a.2.2.2.2]), (Eb o 24 [I a.2.1, I a.2.2.1, B false])] a3 := (Kp.cons (l0.on 5 rfl) (Kp.cons (l0.on 2 rfl) Kp.nil0))
 refine ⟨.inr i4, ?_⟩
 obtain ⟨q, s, t, rfl⟩ := (T).form
 refine o1 9 (gD 9 (sA 43 [.slice q s t, I k.At.Row, I k.At.Col, B k.At.Pending, B k.Auto] 5 l0 ⟨(T).one, rfl, rfl, rfl, rfl, trivial⟩) ?_)
 rintro b6 s6 m0
 refine ⟨.inl rfl, dn (nrm (sr (vx (leN 24 0 [I a.2.1, I a.2.2.1, B false] (m0.on 2 rfl)) (va (I n.1) (va (I e) (va (.pointer (some ⟨f, 4, none⟩)) (vx (le1 4 underlying4 (m0.on 5 rfl)) (bn N fun d w3 N => cl (c_linotyperef31_After m0 (⟨a.2.1, a.2.2.1, false⟩ : G_api_Cursor) n.1 e k.Auto w3) ?_))))))))⟩
 rintro l7 c6 t6 ⟨j2, rfl⟩
 refine va (.pointer (some ⟨f, 1, none⟩)) (md (sB 24 1 [I d.Row, I d.Col, B d.Pending] [.slice q s t, I d.Row, I d.Col, B d.Pending, B k.Auto] 5 j2 ⟨rfl, rfl, rfl, trivial⟩) ?_)
 rintro d6 u6 k2
 refine wln (W.seq (rD [] (Kp G0 [(Eb f 43 [.slice q s t, I d.Row, I d.Col, B d.Pending, B k.Auto]), (Eb o 24 [I a.2.1, I a.2.2.1, B false])]) k2 ?_))
 intro b3 v6 o0
 have q1 : Kp G0 [(Eb f 43 [.slice q s t, I d.Row, I d.Col, B d.Pending, B k.Auto]), (Eb o 24 [I a.2.1, I a.2.2.1, B false])] b3 := (Kp.cons (o0.on 5 rfl) (Kp.cons (o0.on 2 rfl) Kp.nil0))
 refine tkx 0 q1 (fun c' S A => leN 43 0 [.slice q s t, I d.Row, I d.Col, B d.Pending, B k.Auto] (A.on 0 rfl)) (tkx 1 q1 (fun c' S A => leN 24 0 [I a.2.1, I a.2.2.1, B false] (A.on 1 rfl)) (o1 2 (gD 2 (sA 43 [.slice q s t, I d.Row, I d.Col, B d.Pending, B k.Auto] 4 o0 ⟨T.m.one, rfl, rfl, rfl, rfl, trivial⟩) ?_)))
 rintro c3 w6 q0
 have j4 : Kp G0 [(Eb f 43 [.slice q s t, I d.Row, I d.Col, B d.Pending, B k.Auto]), (Eb o 24 [I a.2.1, I a.2.2.1, B false])] c3 := (Kp.cons (q0.on 5 rfl) (Kp.cons (q0.on 2 rfl) Kp.nil0))
 refine ⟨.inr j4, o1 3 (gD 3 (sA 24 [I a.2.1, I a.2.2.1, B false] 3 q0 ⟨rfl, rfl, rfl, trivial⟩) ?_)⟩
 rintro s0 x6 P
 have k4 : Kp G0 [(Eb f 43 [.slice q s t, I d.Row, I d.Col, B d.Pending, B k.Auto]), (Eb o 24 [I a.2.1, I a.2.2.1, B false])] s0 := (Kp.cons (P.on 5 rfl) (Kp.cons (P.on 2 rfl) Kp.nil0))
 refine ⟨.inr k4, dn (nrm (W.ret ?_))⟩
 obtain rfl := si N
 have l2 := P.sD 6 [0]
 exact retCC (c := s0) (vs := [.slice q s t, I d.Row, I d.Col, B d.Pending, B k.Auto]) (vs' := [I a.2.1, I a.2.2.1, B false]) rfl (by kernel_rfl) (by kernel_rfl) (by kernel_rfl) (P.on 4 rfl _ rfl).1 (by kernel_rfl) (by kernel_rfl) (by kernel_rfl) (P.on 3 rfl _ rfl).1 ⟨_, s0, rfl, rfl, pt, (.slice q s t), l4, l2, rfl, T.m⟩
def f_linotypelaw34_Alike (sg : Sto) (p0 : Option Nat) (p1 : G_linotyperef34_Pen) : Option (Bool) :=
 (p0).bind fun f =>
 (sg.place_Pen[f]?).bind fun a =>
 (andE (a.At.Row == p1.At.Row && (a.At.Col == p1.At.Col && (a.At.Pending == p1.At.Pending && true))) (some (a.Auto == p1.Auto))).bind fun b =>
 (andE b ((f_grid_Grid_Lines sg a.G).bind fun d =>
 (f_linotyperef32_Same d p1.L).bind fun e =>
 some e)).bind fun c =>
 some c
theorem c_linotypelaw34_Alike (O0 : Own c0 G F) (R0 : Rel c0 sg G) (p0 : Option Nat) (b : G_linotyperef34_Pen) {r : Bool} (h2 : Pt 2 c0 v1 p0) (h4 : Sl R_api_Line c0 v3 b.L) (H : f_linotypelaw34_Alike sg p0 b = some r) :
    Calls prog 20 #[v1, .agg #[v3, I b.At.Row, I b.At.Col, B b.At.Pending, B b.Auto]] c0.w (Post c0 fun c v => Own c G (F) ∧ v = B r) := by
 unfold f_linotypelaw34_Alike at H
 refine en func20 rfl rfl (sr ?_)
 obtain ⟨a5, a6, a7, rfl⟩ := (h4).form
 refine me (bx 43 [.slice a5 a6 a7, I b.At.Row, I b.At.Col, B b.At.Pending, B b.Auto] O0) ?_
 rintro v12 b0 M ⟨P, rfl, O9, s⟩
 refine va (B false) (wln (W.seq (bn H fun g1 g0 H => bn H fun a h0 H => bn H fun d1 D H => bn H fun R o H => W.join (Jn b0 fun c l => Own c G (F) ∧ l = [(4, B R)]) ?_ ?_)))
 ·clear H
  refine rD [] (Kp G []) O9 ?_
  intro n N j
  have t : Kp G [] n := (Kp.nil j)
  refine ta 0 (v1) ?_
  obtain ⟨e, rfl, i0⟩ := ((h2.mono (M.trans N))).get g0
  refine ta 1 (Q e) (ta 2 (.pointer (some ⟨e, 1, none⟩)) ?_)
  obtain ⟨v22, p, j0⟩ := Rel.open_place_Pen (R0.mono (M.trans N)) h0 i0
  refine tkx 3 t (fun f d q => leN 24 1 [I a.At.Row, I a.At.Col, B a.At.Pending] (q.gon p 0 rfl)) (ta 4 (.pointer (some ⟨P, 0 + 1, none⟩)) (tx 5 (fun f d => lN 24 (imsub (k := 1) (l := [I b.At.Row, I b.At.Col, B b.At.Pending]) (mm s) rfl)) (AC.take 6 (B (a.At.Row == b.At.Row && (a.At.Col == b.At.Col && (a.At.Pending == b.At.Pending && true)))) rfl (by kernel_rfl) (by kernel_rfl) (fun f d => (run_eqlA (T := 24) (xs := #[I a.At.Row, I a.At.Col, B a.At.Pending]) (ys := #[I b.At.Row, I b.At.Col, B b.At.Pending]) (r := (a.At.Row == b.At.Row && (a.At.Col == b.At.Col && (a.At.Pending == b.At.Pending && true)))) underlying24 (by kernel_rfl) (by kernel_rfl) (EqP.int (by kernel_rfl) underlying3 rfl rfl (EqP.int (by kernel_rfl) underlying3 rfl rfl (EqP.bool (by kernel_rfl) underlying4 rfl rfl EqP.nil))) (by kernel_rfl) _)) ?_)))
  rcases bo ((a.At.Row == b.At.Row && (a.At.Col == b.At.Col && (a.At.Pending == b.At.Pending && true)))) with h | h
  ·have U := anT h D
   refine AC.takeb 7 h rfl (by kernel_rfl) (by kernel_rfl) (fun f d => (by kernel_rfl)) (ta 8 (Q e) (ta 9 (Q e) (ta 10 (.pointer (some ⟨e, 4, none⟩)) (tkx 11 t (fun f d q => le1 4 underlying4 (q.gon p 0 rfl)) (ta 12 (.pointer (some ⟨P, 0 + 4, none⟩)) (tx 13 (fun f d => l1 underlying4 ((mm s) 4 _ rfl)) (ta 14 (B (a.Auto == b.Auto)) ?_)))))))
   obtain rfl := si U
   refine ta 15 (B (a.Auto == b.Auto)) ?_
   rcases bo (a.Auto == b.Auto) with i | i
   ·have g := anT i o
    refine bn g fun S k0 g => bn g fun u l0 g => AC.takeb 16 i rfl (by kernel_rfl) (by kernel_rfl) (fun f d => (by kernel_rfl)) (ta 17 (Q e) (ta 18 (Q e) (ta 19 (Q e) (tkx 20 t (fun f d q => le1 0 underlying35 (q.gon p 0 rfl)) (ta 22 (Q P) (tx 23 (fun f d => l1 underlying22 ((mm s) 0 _ rfl)) (o1 21 (gc 21 (c_grid_Grid_Lines j R0.m a.G j0 k0) ?_))))))))
    rintro v31 d0 h1 ⟨_, k1, x, rfl, m0⟩
    have v0 : Kp G [] d0 := (Kp.nil x)
    refine ⟨.inr v0, ?_⟩
    obtain ⟨e0, s0, t0, y, q0⟩ := x.frz 0 rfl m0
    have w0 : Kp G [] e0 := (Kp.nil y)
    refine AC.gh s0 t0 (fun _ => w0) (o1 24 (gc 24 (c_linotyperef32_Same y S b.L q0 h4.m l0) ?_))
    rintro v51 A i1 ⟨z, rfl⟩
    have x0 : Kp G [] A := (Kp.nil z)
    refine ⟨.inr x0, ?_⟩
    obtain rfl := si g
    refine ta 25 (B u) (ta 26 (B u) (dn (nrm ?_)))
    have X := z.sD 1 []
    exact ⟨A, _, _, rfl, pt, us, X, rfl⟩
   obtain rfl := anF i o
   exact AC.takeb 16 i rfl (by kernel_rfl) (by kernel_rfl) (fun f d => (by kernel_rfl)) (tp 17 (tp 18 (tp 19 (tp 20 (tp 22 (tp 23 (tp 21 (tp 24 (ta 25 (B false) (ta 26 (B false) (dn (nrm ⟨n, _, _, rfl, pt, us, j, rfl⟩))))))))))))
  obtain rfl := anF h D
  refine AC.takeb 7 h rfl (by kernel_rfl) (by kernel_rfl) (fun f d => (by kernel_rfl)) (tp 8 (tp 9 (tp 10 (tp 11 (tp 12 (tp 13 (tp 14 (ta 15 (B false) ?_))))))))
  have E : false = false := rfl
  obtain rfl := anF E o
  exact AC.takeb 16 E rfl (by kernel_rfl) (by kernel_rfl) (fun f d => (by kernel_rfl)) (tp 17 (tp 18 (tp 19 (tp 20 (tp 22 (tp 23 (tp 21 (tp 24 (ta 25 (B false) (ta 26 (B false) (dn (nrm ⟨n, _, _, rfl, pt, us, j, rfl⟩))))))))))))
 rintro e_ w_ ⟨f0, f1, _, rfl, j1, rfl, Z, rfl⟩
 refine nrm (W.ret ?_)
 obtain rfl := si H
 exact r1 ⟨_, f0, rfl, rfl, pt, Z, rfl⟩
end Go.Proofs.YthokmpbbkpjhbaaGreatDoor
